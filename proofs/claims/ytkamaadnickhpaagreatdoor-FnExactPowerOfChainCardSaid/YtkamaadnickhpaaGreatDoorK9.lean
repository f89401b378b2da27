/- Part 9: the abstract machine, its soundness, contracts of functions. -/
import Derived.Test.YtkamaadnickhpaaGreatDoorK8
set_option linter.unusedVariables false
set_option linter.unusedSimpArgs false
namespace Go.V
open Go.Proofs Go.RowKit
set_option maxRecDepth 10000
set_option maxHeartbeats 1000000
theorem law_powerOfChain (rows : Tss) (n : Int) (h0 : rows.length < 2 ^ 47) (hr0 : ∀ r, r ∈ rows → r.length < 2 ^ 47) (hs0 : ∀ r, r ∈ rows → ∀ x, x ∈ r → x.length < 2 ^ 47) : Fn Tryz.prog 10 [chI rows, I n] [] (B true) [] := by
 have c0 := fn_szChain rows 1000000 (by omega) (fun r hr => by have := hr0 r hr; omega) (fun r hr x hx => by have := hs0 r hr x hx; omega) (by decide) (by decide)
 refine Fn.intro (ks := [0,1,2,4,5,6,7,8,9,10,11,12,13,14,15,20,44,49,65,73,76,92,97,100]) hty rfl rfl rfl rfl rfl ?_
 conv => whnf
 refine VCall.of_data c0 (nd _) ?_
 obtain ⟨m, em⟩ : ∃ m, szRR 1000000 rows = m := ⟨_, rfl⟩
 rw [em]
 conv => whnf
 refine Br.mk (fun h => ?_) (fun h => ?_)
 ·conv => whnf
  exact ⟨rfl, trivial, rfl⟩
 ·have h : 0 ≤ m := by simpa using h
  have hi := szRR_in (em ▸ h) (by decide)
  have hsum := szRR_sum (em ▸ h)
  have cs := fn_sPowerOfChain rows n hi
  have ci := fn_PowerOfChain rows n hi
  have cx := fn_markChain (allR rows) (lensR rows) rows.length 101 (by rw [lensR_len]; omega) (by rw [lensR_len, allR_len]) hi.l (fun i hi2 => by
   obtain ⟨e1, e2⟩ := lens_at hi2
   have hm : rows.getD i [] ∈ rows := getD_mem hi2
   rw [e1, e2]
   exact ⟨by simp [withRoomT], hi.r _ hm⟩) (by rw [lens_take]; omega)
  rw [lens_take] at cx
  obtain ⟨z1, ez1⟩ : ∃ z : Int, ((101 + (rows.map List.length).sum : Nat) : Int) = z := ⟨_, rfl⟩
  have hz1 : 0 ≤ z1 := by omega
  rw [ez1] at cx
  have dz1 : decide (z1 < 0) = false := decide_eq_false (by omega)
  cases hc : powC rows n with
  | none =>
   rw [hc] at cs ci
   replace cs : Fn Tryz.prog 31 [chI rows, I n] [] (.tup [chI [], B false]) [] := cs
   replace ci : Fn Tryz.prog 32 [chI rows, I n] [] (.tup [chI [], B false]) [] := ci
   have ce := fn_eqChain [] (by decide) (fun r hr => by cases hr)
   have ch := fn_heldChain [] 101 (by decide) (fun i h => by cases h) (by decide)
   conv => whnf
   refine VCall.of_data (fn_toChaind rows false hi) (ndA fun k => rfl) ?_
   conv => whnf
   refine VCall.of_data cs (ndT fun _ => rfl) ?_
   conv => whnf
   refine VCall.of_fn (k := 29) (fn_toChain rows hi) namesCh rfl ?_
   conv => whnf
   refine VCall.lendN (k := 33) ci ⟨lend_ch rfl, rfl, trivial⟩ trivial agN_any (fun j hj => by cases hj) rfl ?_
   conv => whnf
   refine VCall.of_data ce (nd _) ?_
   conv => whnf
   refine VDraw.canon [(49, B false), (10, B false), (9, .lp 9 0), (8, .lp 8 0), (7, B false), (6, .lp 6 0), (2, .lp 2 0), (1, I n)] [(9, .box true [.d (.sl (cTT []))]), (8, .box true [.ls 29 0 rows.length 1]), (29, laidM rows), (6, .box true [.d (.sl (cTT []))]), (2, .box true [.d (.sl (cTT rows))])] ?_ ?_
   ·refine VDraw.go hmo hty 0 [] rfl ?_
    conv => whnf
    refine ⟨?_, ?_⟩
    ·
     conv => whnf
     refine VCall.of_fn (k := 47) (fn_toChain rows hi) namesCh rfl ?_
     conv => whnf
     refine VCall.parN [(1000000, 29), (1000001, 47)] (fn_intactChain rows hi) ⟨⟨⟨rfl, rfl, rfl, rfl⟩, trivial⟩, ⟨⟨rfl, rfl, rfl, rfl⟩, trivial⟩, trivial⟩ ⟨⟨rfl, rfl⟩, ⟨rfl, rfl⟩, trivial⟩ rfl rfl rfl rfl ?_
     conv => whnf
     exact ⟨⟨rfl, rfl, rfl, rfl, rfl, rfl, rfl, rfl, trivial⟩, ⟨rfl, rfl, rfl, rfl, rfl, trivial⟩⟩
    ·conv => whnf
     refine ⟨?_, ?_⟩
     ·
      conv => whnf
      refine VCall.of_fn (k := 47) (fn_toChain rows hi) namesCh rfl ?_
      conv => whnf
      refine VCall.parN [(1000000, 29), (1000001, 47)] (fn_intactChain rows hi) ⟨⟨⟨rfl, rfl, rfl, rfl⟩, trivial⟩, ⟨⟨rfl, rfl, rfl, rfl⟩, trivial⟩, trivial⟩ ⟨⟨rfl, rfl⟩, ⟨rfl, rfl⟩, trivial⟩ rfl rfl rfl rfl ?_
      conv => whnf
      exact ⟨⟨rfl, rfl, rfl, rfl, rfl, rfl, rfl, rfl, trivial⟩, ⟨rfl, rfl, rfl, rfl, rfl, trivial⟩⟩
     ·
      conv => whnf
      refine VCall.of_fn (k := 47) (fn_toChain rows hi) namesCh rfl ?_
      conv => whnf
      refine VCall.parN [(1000000, 29), (1000001, 47)] (fn_intactChain rows hi) ⟨⟨⟨rfl, rfl, rfl, rfl⟩, trivial⟩, ⟨⟨rfl, rfl, rfl, rfl⟩, trivial⟩, trivial⟩ ⟨⟨rfl, rfl⟩, ⟨rfl, rfl⟩, trivial⟩ rfl rfl rfl rfl ?_
      conv => whnf
      exact ⟨⟨rfl, rfl, rfl, rfl, rfl, rfl, rfl, rfl, trivial⟩, ⟨rfl, rfl, rfl, rfl, rfl, trivial⟩⟩
   conv => whnf
   refine VCall.parN [(1000000, 29)] cx ⟨⟨⟨rfl, rfl, rfl, rfl⟩, trivial⟩, rfl, trivial⟩ ⟨⟨rfl, rfl⟩, trivial⟩ rfl rfl rfl rfl ?_
   conv => whnf
   rw [dz1]
   conv => whnf
   refine VCall.of_data ce (nd _) ?_
   conv => whnf
   refine VCall.of_data (fn_markC0 101) (nd _) ?_
   conv => whnf
   refine VCall.of_data ch (nd _) ?_
   conv => whnf
   refine VCall.of_data (fn_toChaind rows true hi) (ndA fun k => rfl) ?_
   conv => whnf
   refine VCall.of_data ci (ndT fun _ => rfl) ?_
   conv => whnf
   refine VCall.of_data ce (nd _) ?_
   conv => whnf
   refine VCall.of_data ch (nd _) ?_
   conv => whnf
   exact ⟨rfl, trivial, rfl⟩
  | some ts =>
   rw [hc] at cs ci
   replace cs : Fn Tryz.prog 31 [chI rows, I n] [] (.tup [.ag [.ls 0 0 ts.length 1], B true]) [(0, tldO ts)] := cs
   replace ci : Fn Tryz.prog 32 [chI rows, I n] [] (.tup [.ag [.ls 0 0 ts.length 1], B true]) [(0, tldO ts)] := ci
   obtain ⟨g1, g2, g3, g4⟩ := powC_in hc
   have ce := fn_eqChain ts (by omega) (fun r hr => by have := g3 r hr; omega)
   have cg := fn_markChain ts (ts.map List.length) ts.length 101 (by simp) (by simp) (by omega) (fun i hi2 => by
    refine ⟨?_, by have := g2 i hi2; omega⟩
    rw [List.getD_eq_getElem?_getD, List.getD_eq_getElem?_getD, List.getElem?_eq_getElem (by simpa using hi2), List.getElem?_eq_getElem hi2]; simp) (by rw [List.take_of_length_le (by simp)]; omega)
   rw [List.take_of_length_le (by simp), mkR_all] at cg
   have ch := fn_heldChain (ts.map List.length) 101 (by simp; omega) (fun i hi2 => by have := g2 i (by simpa using hi2); omega) (by omega)
   obtain ⟨z2, ez2⟩ : ∃ z : Int, ((101 + (ts.map List.length).sum : Nat) : Int) = z := ⟨_, rfl⟩
   have hz2 : 0 ≤ z2 := by omega
   have dz2 : decide (z2 < 0) = false := decide_eq_false (by omega)
   rw [ez2] at cg ch
   conv => whnf
   refine VCall.of_data (fn_toChaind rows false hi) (ndA fun k => rfl) ?_
   conv => whnf
   refine VCall.of_fn (k := 25) cs (namesTC (fun e => by cases e)) rfl ?_
   conv => whnf
   refine VCall.of_fn (k := 29) (fn_toChain rows hi) namesCh rfl ?_
   conv => whnf
   refine VCall.lendN (k := 33) ci ⟨lend_ch rfl, rfl, trivial⟩ ⟨told_flat ts, trivial⟩ agT_any (namesTC (fun e => by cases e)) rfl ?_
   conv => whnf
   refine VCall.lend ce ⟨lend_told rfl, lend_told rfl, trivial⟩ rfl ?_
   conv => whnf
   refine VDraw.canon [(49, B false), (10, B true), (9, .lp 9 0), (8, .lp 8 0), (7, B true), (6, .lp 6 0), (2, .lp 2 0), (1, I n)] [(33, tldO ts), (9, .box true [.ls 33 0 ts.length 1]), (8, .box true [.ls 29 0 rows.length 1]), (29, laidM rows), (25, tldO ts), (6, .box true [.ls 25 0 ts.length 1]), (2, .box true [.d (.sl (cTT rows))])] ?_ ?_
   ·refine VDraw.go hmo hty 0 [] rfl ?_
    conv => whnf
    refine ⟨?_, ?_⟩
    ·
     conv => whnf
     refine VCall.of_fn (k := 47) (fn_toChain rows hi) namesCh rfl ?_
     conv => whnf
     refine VCall.parN [(1000000, 29), (1000001, 47)] (fn_intactChain rows hi) ⟨⟨⟨rfl, rfl, rfl, rfl⟩, trivial⟩, ⟨⟨rfl, rfl, rfl, rfl⟩, trivial⟩, trivial⟩ ⟨⟨rfl, rfl⟩, ⟨rfl, rfl⟩, trivial⟩ rfl rfl rfl rfl ?_
     conv => whnf
     exact ⟨⟨rfl, rfl, rfl, rfl, rfl, rfl, rfl, rfl, trivial⟩, ⟨rfl, rfl, rfl, rfl, rfl, rfl, rfl, trivial⟩⟩
    ·conv => whnf
     refine ⟨?_, ?_⟩
     ·
      conv => whnf
      refine VCall.of_fn (k := 47) (fn_toChain rows hi) namesCh rfl ?_
      conv => whnf
      refine VCall.parN [(1000000, 29), (1000001, 47)] (fn_intactChain rows hi) ⟨⟨⟨rfl, rfl, rfl, rfl⟩, trivial⟩, ⟨⟨rfl, rfl, rfl, rfl⟩, trivial⟩, trivial⟩ ⟨⟨rfl, rfl⟩, ⟨rfl, rfl⟩, trivial⟩ rfl rfl rfl rfl ?_
      conv => whnf
      exact ⟨⟨rfl, rfl, rfl, rfl, rfl, rfl, rfl, rfl, trivial⟩, ⟨rfl, rfl, rfl, rfl, rfl, rfl, rfl, trivial⟩⟩
     ·
      conv => whnf
      refine VCall.of_fn (k := 47) (fn_toChain rows hi) namesCh rfl ?_
      conv => whnf
      refine VCall.parN [(1000000, 29), (1000001, 47)] (fn_intactChain rows hi) ⟨⟨⟨rfl, rfl, rfl, rfl⟩, trivial⟩, ⟨⟨rfl, rfl, rfl, rfl⟩, trivial⟩, trivial⟩ ⟨⟨rfl, rfl⟩, ⟨rfl, rfl⟩, trivial⟩ rfl rfl rfl rfl ?_
      conv => whnf
      exact ⟨⟨rfl, rfl, rfl, rfl, rfl, rfl, rfl, rfl, trivial⟩, ⟨rfl, rfl, rfl, rfl, rfl, rfl, rfl, trivial⟩⟩
   conv => whnf
   refine VCall.parN [(1000000, 29)] cx ⟨⟨⟨rfl, rfl, rfl, rfl⟩, trivial⟩, rfl, trivial⟩ ⟨⟨rfl, rfl⟩, trivial⟩ rfl rfl rfl rfl ?_
   conv => whnf
   rw [dz1]
   conv => whnf
   refine VCall.lend ce ⟨lend_told rfl, lend_told rfl, trivial⟩ rfl ?_
   conv => whnf
   refine VCall.parN [(1000000, 33)] cg ⟨⟨⟨rfl, rfl, rfl, rfl⟩, trivial⟩, rfl, trivial⟩ ⟨⟨rfl, rfl⟩, trivial⟩ rfl rfl rfl rfl ?_
   conv => whnf
   refine VCall.lend ch ⟨lend_mark (by simp) rfl, rfl, trivial⟩ rfl ?_
   conv => whnf
   rw [dz2]
   conv => whnf
   rw [decide_eq_true (rfl : z2 = z2)]
   conv => whnf
   refine VCall.of_data (fn_toChaind rows true hi) (ndA fun k => rfl) ?_
   conv => whnf
   refine VCall.of_fn (k := 81) ci (namesTC (fun e => by cases e)) rfl ?_
   conv => whnf
   refine VCall.lend ce ⟨lend_told rfl, lend_told rfl, trivial⟩ rfl ?_
   conv => whnf
   refine VCall.lend ch ⟨lend_mark (by simp) rfl, rfl, trivial⟩ rfl ?_
   conv => whnf
   rw [dz2]
   conv => whnf
   rw [decide_eq_true (rfl : z2 = z2)]
   conv => whnf
   exact ⟨rfl, trivial, rfl⟩
end Go.V
