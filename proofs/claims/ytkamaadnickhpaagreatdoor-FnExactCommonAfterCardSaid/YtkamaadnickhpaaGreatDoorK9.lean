/- Part 9: the abstract machine, its soundness, contracts of functions. -/
import Derived.Test.YtkamaadnickhpaaGreatDoorK8
set_option linter.unusedVariables false
set_option linter.unusedSimpArgs false
namespace Go.V
open Go.Proofs Go.RowKit
set_option maxRecDepth 10000
set_option maxHeartbeats 1000000
theorem powM_at {p : Mt} {n i : Nat} (h : i < p.length) : (powM p n).getD i [] = afterQ p n (pointQ p.length i) := by
 rw [List.getD_eq_getElem?_getD, List.getElem?_eq_getElem (by rw [powM_len]; exact h)]; simp [powM]
theorem mt_ext {xs ys : Mt} (hl : xs.length = ys.length) (h : ∀ i, i < xs.length → xs.getD i [] = ys.getD i []) : xs = ys := by
 apply List.ext_getElem hl
 intro i h1 h2
 have := h i h1
 rwa [List.getD_eq_getElem?_getD, List.getD_eq_getElem?_getD, List.getElem?_eq_getElem h1, List.getElem?_eq_getElem h2] at this
theorem powM_one {p : Mt} (hp : MtOk p) : powM p 1 = p := by
 apply mt_ext (powM_len p 1)
 intro i hi
 rw [powM_len] at hi
 rw [powM_at hi]
 exact step_point hp hi
theorem powM_mem {p : Mt} {n : Nat} {r : List Rat} (h : r ∈ powM p n) : ∃ i, i < p.length ∧ r = afterQ p n (pointQ p.length i) := by
 obtain ⟨i, hi, rfl⟩ := List.mem_map.1 h
 exact ⟨i, by simpa using hi, rfl⟩
theorem powM_wk {p : Mt} (hp : MtOk p) {n : Nat} {r : List Rat} (h : r ∈ powM p n) : Wk p.length (2 + n * 115210) r := by
 obtain ⟨i, hi, rfl⟩ := powM_mem h
 exact (pointQ_wk p.length i).after hp n
theorem powM_sz {p : Mt} (hp : MtOk p) (n : Nat) : MtSz (powM p n) (2 + n * 115210) :=
 ⟨by rw [powM_len]; exact hp.n1, by rw [powM_len]; exact hp.n2, fun r hr => by rw [powM_len]; exact (powM_wk hp hr).1, fun r hr q hq => (powM_wk hp hr).sz hq⟩
theorem powM_pos {p : Mt} (hp : MtOk p) (n : Nat) : 0 ≤ commonQ (powM p n) := by
 refine sN_nonneg fun j hj => ?_
 obtain ⟨i, h1, h2⟩ := minC_mem (p := powM p n) (by rw [powM_len]; exact hp.n1) j (powM p n).length (Nat.le_refl _)
 show 0 ≤ minC (powM p n) j (powM p n).length
 rw [h2]
 have hm : (powM p n).getD i [] ∈ powM p n := getD_mem h1
 exact (powM_wk hp hm).pos (getD_mem (by rw [(powM_sz hp n).sq _ hm]; exact hj))
def caF (p : Mt) (n : Nat) : Nat → Nat × List UInt8 × Bool
 | 0 => (0, [], false)
 | k + 1 => if commonQ (powM p n) = 0 then caF p (n + 1) k else if fitsQ (commonQ (powM p n)) then (n, toldT (commonQ (powM p n)), true) else (0, [], false)
def caQ (rows : List (List (List UInt8))) (m : Int) : Nat × List UInt8 × Bool := match chainQ rows with
 | none => (0, [], false)
 | some p => if 1 ≤ m ∧ m ≤ 40 then caF p 1 m.toNat else (0, [], false)
abbrev caV (x : Nat × List UInt8 × Bool) : AV := .tup [I x.1, Str x.2.1, B x.2.2]
theorem sgI_gt {q : Rat} (h : 0 ≤ q) : decide (0 < sgI q) = !decide (q = 0) := by
 by_cases h0 : q = 0
 ·subst h0; rfl
 ·have h1 : ng q = false := by rw [ng_lt]; exact decide_eq_false (fun e => by have := Rat.not_le.2 e; exact this h)
  have h2 : tp q ≠ 0 := fun e => h0 (tp_zero.1 e)
  unfold sgI
  rw [if_neg h2, h1, decide_eq_false h0]
  rfl
def caT (p : Mt) : Nat → AV
 | 0 => .lp 7 0
 | 1 => .lp 7 0
 | _ + 2 => mP p
def caL (p : Mt) : Nat → LL
 | 0 => [(7, .box true [.d (.sl (cMS p))])]
 | 1 => [(7, .box true [.d (.sl (cMS p))])]
 | _ + 2 => []
theorem fn_sCommonAfter (rows : List (List (List UInt8))) (m : Int) (hi : ChIn rows) : Fn Tryz.prog 29 [chI rows, I m] [] (caV (caQ rows m)) [] := by
 have ci := fn_l00In m 1 40
 rw [inB] at ci
 refine Fn.intro (ks := [0,1,2,4,5,6,7,8,9,10,11,12,13,24,27,36,43]) hty rfl rfl rfl rfl rfl ?_
 conv => whnf
 have c1 := fn_l03Parse rows hi.l hi.r hi.s
 refine VCall.thaw 2 (cs := [.sl (cTT rows)]) rfl ?_
 cases h : chainQ rows with
 | none =>
  rw [h] at c1
  refine VCall.of_data c1 (ndT fun _ => rfl) ?_
  conv => whnf
  rw [show caQ rows m = (0, [], false) by unfold caQ; rw [h]]; exact ⟨rfl, rfl, rfl, trivial, rfl⟩
 | some p =>
  have hp := chainQ_ok h
  rw [h] at c1
  replace c1 : Fn Tryz.prog 37 [chP rows] [] (.tup [mS p, B true]) [] := c1
  refine VCall.of_data c1 (ndT fun _ => rfl) ?_
  conv => whnf
  refine VCall.of_data ci (nd _) ?_
  conv => whnf
  by_cases hn : 1 ≤ m ∧ m ≤ 40
  ·obtain ⟨k, rfl⟩ : ∃ k : Nat, m = k := ⟨m.toNat, by omega⟩
   have hk : k ≤ 40 := by omega
   rw [decide_eq_true hn, show caQ rows k = caF p 1 k by unfold caQ; rw [h]; exact if_pos hn]
   conv => whnf
   refine VLoop.inv hty (S := Nat) (fun n => [(9, I n), (7, caT p n), (1, I k)]) (caL p) (fun n => 1 ≤ n ∧ n ≤ k + 1 ∧ caF p 1 k = caF p n (k + 1 - n)) (fun n => k + 1 - n) 1 ⟨Nat.le_refl _, by omega, by rw [Nat.add_sub_cancel]⟩
    ⟨rfl, rfl, rfl, trivial⟩ ⟨rfl, trivial⟩ ?_
   rintro n ⟨h1, h2, h3⟩
   rw [h3]
   rcases n with _ | _ | n
   ·exact absurd h1 (by decide)
   ·skip
    conv => whnf
    refine Br.mk (fun hb => ?_) (fun hb => ?_)
    ·have hb : 1 ≤ k := by simp only [decide_eq_true_eq] at hb; omega
     have e1 : k + 1 - 1 = (k - 1) + 1 := by omega
     have zz : 1 * 115210 ≤ 40 * 115210 := Nat.mul_le_mul_right _ (by omega)
     have zc := common_sz (powM_sz hp 1)
     have c1 := fn_sPowerM p 1 hp (by omega)
     have c2 := fn_sCommon (powM p 1) _ (powM_sz hp 1) (by omega)
     have c3 := fn_sZero (commonQ (powM p 1)) (by omega)
     have c4 := fn_sGive (commonQ (powM p 1)) (by omega)
     have ec : caF p 1 (k + 1 - 1) = if commonQ (powM p 1) = 0 then caF p (1 + 1) (k - 1) else if fitsQ (commonQ (powM p 1)) then (1, toldT (commonQ (powM p 1)), true) else (0, [], false) := by rw [e1]; rfl
     rw [ec]
     rw [ec] at h3
     obtain ⟨P, eP⟩ : ∃ P, powM p 1 = P := ⟨_, rfl⟩
     rw [eP] at c1 c2 c3 c4 zc h3 ⊢
     conv => whnf
     refine VCall.thaw 7 (cs := [.sl (cMS p)]) rfl ?_
     refine VCall.of_data c1 (nd _) ?_
     conv => whnf
     refine VCall.thaw 10 (cs := [.sl (cMS P)]) rfl ?_
     refine VCall.of_data c2 (ndA fun k => rfl) ?_
     conv => whnf
     refine VCall.of_data c3 (nd _) ?_
     conv => whnf
     by_cases h0 : commonQ P = 0
     ·rw [if_pos h0] at h3
      rw [decide_eq_true h0, if_pos h0]
      conv => whnf
      refine Wr.i64 (y := ((1 + 1 : Nat) : Int)) rfl (by omega) (by omega) ?_
      conv => whnf
      refine ⟨1 + 1, ⟨by omega, by omega, ?_⟩, by show k + 1 - (1 + 1) < k + 1 - 1; omega, ⟨rfl, rfl, rfl, trivial⟩, ?_⟩
      ·rw [show k + 1 - (1 + 1) = k - 1 by omega]
      ·first | exact ⟨rfl, trivial⟩ | exact trivial
     ·rw [decide_eq_false h0, if_neg h0]
      conv => whnf
      refine VCall.of_data c4 (ndT fun _ => rfl) ?_
      conv => whnf
      cases hf : fitsQ (commonQ P) with
      | false =>
       conv => whnf
       exact ⟨rfl, rfl, rfl, trivial, rfl⟩
      | true =>
       conv => whnf
       exact ⟨rfl, rfl, rfl, trivial, rfl⟩
    ·have hb : 1 = k + 1 := by simp only [decide_eq_false_iff_not] at hb; omega
     rw [show k + 1 - 1 = 0 by omega]
     conv => whnf
     exact ⟨rfl, rfl, rfl, trivial, rfl⟩
   ·skip
    conv => whnf
    refine Br.mk (fun hb => ?_) (fun hb => ?_)
    ·have hb : (n + 2) ≤ k := by simp only [decide_eq_true_eq] at hb; omega
     have e1 : k + 1 - (n + 2) = (k - (n + 2)) + 1 := by omega
     have zz : (n + 2) * 115210 ≤ 40 * 115210 := Nat.mul_le_mul_right _ (by omega)
     have zc := common_sz (powM_sz hp (n + 2))
     have c1 := fn_sPowerM p (n + 2) hp (by omega)
     have c2 := fn_sCommon (powM p (n + 2)) _ (powM_sz hp (n + 2)) (by omega)
     have c3 := fn_sZero (commonQ (powM p (n + 2))) (by omega)
     have c4 := fn_sGive (commonQ (powM p (n + 2))) (by omega)
     have ec : caF p (n + 2) (k + 1 - (n + 2)) = if commonQ (powM p (n + 2)) = 0 then caF p ((n + 2) + 1) (k - (n + 2)) else if fitsQ (commonQ (powM p (n + 2))) then ((n + 2), toldT (commonQ (powM p (n + 2))), true) else (0, [], false) := by rw [e1]; rfl
     rw [ec]
     rw [ec] at h3
     obtain ⟨P, eP⟩ : ∃ P, powM p (n + 2) = P := ⟨_, rfl⟩
     rw [eP] at c1 c2 c3 c4 zc h3 ⊢
     conv => whnf
     skip
     refine VCall.of_data c1 (nd _) ?_
     conv => whnf
     refine VCall.thaw 10 (cs := [.sl (cMS P)]) rfl ?_
     refine VCall.of_data c2 (ndA fun k => rfl) ?_
     conv => whnf
     refine VCall.of_data c3 (nd _) ?_
     conv => whnf
     by_cases h0 : commonQ P = 0
     ·rw [if_pos h0] at h3
      rw [decide_eq_true h0, if_pos h0]
      conv => whnf
      refine Wr.i64 (y := (((n + 2) + 1 : Nat) : Int)) rfl (by omega) (by omega) ?_
      conv => whnf
      refine ⟨(n + 2) + 1, ⟨by omega, by omega, ?_⟩, by show k + 1 - ((n + 2) + 1) < k + 1 - (n + 2); omega, ⟨rfl, rfl, rfl, trivial⟩, ?_⟩
      ·rw [show k + 1 - ((n + 2) + 1) = k - (n + 2) by omega]
      ·first | exact ⟨rfl, trivial⟩ | exact trivial
     ·rw [decide_eq_false h0, if_neg h0]
      conv => whnf
      refine VCall.of_data c4 (ndT fun _ => rfl) ?_
      conv => whnf
      cases hf : fitsQ (commonQ P) with
      | false =>
       conv => whnf
       exact ⟨rfl, rfl, rfl, trivial, rfl⟩
      | true =>
       conv => whnf
       exact ⟨rfl, rfl, rfl, trivial, rfl⟩
    ·have hb : (n + 2) = k + 1 := by simp only [decide_eq_false_iff_not] at hb; omega
     rw [show k + 1 - (n + 2) = 0 by omega]
     conv => whnf
     exact ⟨rfl, rfl, rfl, trivial, rfl⟩
  ·rw [decide_eq_false hn, show caQ rows m = (0, [], false) by unfold caQ; rw [h]; exact if_neg hn]
   conv => whnf
   exact ⟨rfl, rfl, rfl, trivial, rfl⟩
theorem fn_CommonAfter (rows : List (List (List UInt8))) (m : Int) (hi : ChIn rows) : Fn Tryz.prog 30 [chI rows, I m] [] (caV (caQ rows m)) [] := by
 have ci := fn_in m 1 40
 rw [inB] at ci
 have c1 := fn_chainOf rows hi.l hi.r hi.s
 refine Fn.intro (ks := [0,1,2,4,5,6,7,8,9,10,11,12,13,14,16,28,32,39,46,50,51,52,53]) hty rfl rfl rfl rfl rfl ?_
 conv => whnf
 cases h : chainQ rows with
 | none =>
  rw [h] at c1
  refine VCall.of_data c1 (ndT fun _ => rfl) ?_
  conv => whnf
  rw [show caQ rows m = (0, [], false) by unfold caQ; rw [h]]
  exact ⟨rfl, rfl, rfl, trivial, rfl⟩
 | some p =>
  have hp := chainQ_ok h
  have hn2 := hp.n2
  rw [h] at c1
  replace c1 : Fn Tryz.prog 44 [chI rows] [] (.tup [lM p, B true]) [] := c1
  refine VCall.of_data c1 (ndT fun _ => rfl) ?_
  conv => whnf
  refine VCall.of_data ci (nd _) ?_
  conv => whnf
  by_cases hn : 1 ≤ m ∧ m ≤ 40
  ·obtain ⟨k, rfl⟩ : ∃ k : Nat, m = k := ⟨m.toNat, by omega⟩
   have hk : k ≤ 40 := by omega
   rw [decide_eq_true hn, show caQ rows k = caF p 1 k by unfold caQ; rw [h]; exact if_pos hn]
   conv => whnf
   refine VLoop.invF hty 61 (S := Nat) (fun n => [(10, I n), (9, lM (powM p n)), (7, lM p), (1, I k)]) (fun _ => []) (fun n => 1 ≤ n ∧ n ≤ k + 1 ∧ caF p 1 k = caF p n (k + 1 - n)) (fun n => k + 1 - n) 1 ⟨Nat.le_refl _, by omega, by rw [Nat.add_sub_cancel]⟩
    ⟨rfl, by show lM p = lM (powM p 1); rw [powM_one hp], rfl, rfl, trivial⟩ trivial ?_
   rintro n ⟨h1, h2, h3⟩
   rw [h3]
   conv => whnf
   refine Br.mk (fun hb => ?_) (fun hb => ?_)
   ·have hb : n ≤ k := by simp only [decide_eq_true_eq] at hb; omega
    have e1 : k + 1 - n = (k - n) + 1 := by omega
    have zz : n * 115210 ≤ 40 * 115210 := Nat.mul_le_mul_right _ (by omega)
    have zc := common_sz (powM_sz hp n)
    have c2 := fn_common (powM p n) _ (powM_sz hp n) (by omega)
    have c3 := fn_sign (commonQ (powM p n)) (by omega)
    have c4 := fn_told (commonQ (powM p n)) (by omega)
    have cp := sgI_gt (powM_pos hp n)
    have ec : caF p n (k + 1 - n) = if commonQ (powM p n) = 0 then caF p (n + 1) (k - n) else if fitsQ (commonQ (powM p n)) then (n, toldT (commonQ (powM p n)), true) else (0, [], false) := by rw [e1]; rfl
    rw [ec]
    rw [ec] at h3
    conv => whnf
    refine VCall.of_data c2 (ndA fun k => rfl) ?_
    conv => whnf
    refine VCall.of_data c3 (nd _) ?_
    conv => whnf
    rw [cp]
    by_cases h0 : commonQ (powM p n) = 0
    ·rw [if_pos h0] at h3
     rw [decide_eq_true h0, if_pos h0]
     conv => whnf
     have hz : ((cM (powM p n)).length : Int) = p.length := by rw [cM_len, powM_len]
     rw [hz]
     refine VLoop.ren 49 61 rfl ?_
     refine VLoop.inv hty (S := Nat) (fun i => [(52, I i), (51, I p.length), (50, lM (powM p n)), (14, .ls 61 0 i 1), (10, I n), (7, lM p), (1, I k)]) (fun i => [(61, .row true 1 (cM (powL p (n + 1) i)))]) (fun i => i ≤ p.length) (fun i => p.length - i) 0 (Nat.zero_le _)
      ⟨rfl, rfl, rfl, rfl, rfl, rfl, rfl, trivial⟩ ⟨rfl, trivial⟩ ?_
     intro i hi2
     conv => whnf
     refine Br.mk (fun hc => ?_) (fun hc => ?_)
     ·have hc : i < p.length := by simp only [decide_eq_true_eq] at hc; omega
      have hw := (pointQ_wk p.length i).after hp n
      have cs := fn_stepped p _ _ hp hw (by omega)
      conv => whnf
      refine ⟨⟨⟨by omega, by rw [cM_len, powM_len]; omega⟩, cM_sz _⟩, ?_⟩
      conv => whnf
      refine ⟨_, cM_as (x := afterQ p n (pointQ p.length i)) (by rw [powM_len]; omega) (powM_at hc), ?_⟩
      conv => whnf
      refine VCall.of_data cs (nd _) ?_
      conv => whnf
      refine Sub.full rfl ?_
      conv => whnf
      refine Sub.full (by rw [cM_len, powL_len]) ?_
      conv => whnf
      refine ⟨by show (i + 1) * 24 ≤ _; omega, ?_⟩
      conv => whnf
      refine Wr.i64 (y := ((i + 1 : Nat) : Int)) rfl (by omega) (by omega) ?_
      conv => whnf
      refine ⟨i + 1, hc, by show p.length - (i + 1) < p.length - i; omega, ⟨rfl, rfl, rfl, rfl, rfl, rfl, rfl, trivial⟩, ?_, trivial⟩
      show Ob.row true 1 (cM _ ++ [[.sl (cQ _)]]) = _
      rw [cM_append1, powL_next]; rfl
     ·have hc : i = p.length := by simp only [decide_eq_false_iff_not] at hc; omega
      rw [hc]
      conv => whnf
      refine Wr.i64 (y := ((n + 1 : Nat) : Int)) rfl (by omega) (by omega) ?_
      conv => whnf
      refine ⟨n + 1, ⟨by omega, by omega, ?_⟩, by show k + 1 - (n + 1) < k + 1 - n; omega, p.length, 1, cM (powM p (n + 1)), ⟨rfl, rfl⟩, by rw [cM_len, powM_len], by repeat first | exact trivial | refine ⟨⟨rfl, rfl, rfl⟩, ?_⟩, ⟨rfl, rfl, rfl, rfl, trivial⟩, trivial⟩
      rw [show k + 1 - (n + 1) = k - n by omega]
    ·rw [decide_eq_false h0, if_neg h0]
     conv => whnf
     refine VCall.of_data c4 (ndT fun _ => rfl) ?_
     conv => whnf
     cases hf : fitsQ (commonQ (powM p n)) with
     | false =>
      conv => whnf
      exact ⟨rfl, rfl, rfl, trivial, rfl⟩
     | true =>
      conv => whnf
      exact ⟨rfl, rfl, rfl, trivial, rfl⟩
   ·have hb : n = k + 1 := by simp only [decide_eq_false_iff_not] at hb; omega
    rw [hb, Nat.sub_self]
    conv => whnf
    exact ⟨rfl, rfl, rfl, trivial, rfl⟩
  ·rw [decide_eq_false hn, show caQ rows m = (0, [], false) by unfold caQ; rw [h]; exact if_neg hn]
   conv => whnf
   exact ⟨rfl, rfl, rfl, trivial, rfl⟩
end Go.V
namespace Go.V
open Go.Proofs Go.RowKit
set_option maxRecDepth 10000
set_option maxHeartbeats 1000000
theorem law_commonAfter (rows : Tss) (n : Int) (h0 : rows.length < 2 ^ 47) (hr0 : ∀ r, r ∈ rows → r.length < 2 ^ 47) (hs0 : ∀ r, r ∈ rows → ∀ x, x ∈ r → x.length < 2 ^ 47) : Fn Tryz.prog 9 [chI rows, I n] [] (B true) [] := by
 have c0 := fn_szChain rows 1000000 (by omega) (fun r hr => by have := hr0 r hr; omega) (fun r hr x hx => by have := hs0 r hr x hx; omega) (by decide) (by decide)
 refine Fn.intro (ks := [0,1,2,4,5,6,7,8,9,10,11,12,13,14,15,20,50,55,76]) hty rfl rfl rfl rfl rfl ?_
 conv => whnf
 refine VCall.of_data c0 (nd _) ?_
 obtain ⟨m, em⟩ : ∃ m, szRR 1000000 rows = m := ⟨_, rfl⟩
 rw [em]
 conv => whnf
 refine Br.mk (fun h => ?_) (fun h => ?_)
 ·conv => whnf
  exact ⟨rfl, trivial, rfl⟩
 ·have h : 0 ≤ m := by simpa using h
  have hi := szRR_in (em ▸ h) (by decide)
  have cs := fn_sCommonAfter rows n hi
  have ci := fn_CommonAfter rows n hi
  generalize caQ rows n = r at cs ci
  obtain ⟨k, r1, r2⟩ := r
  obtain ⟨z, ez⟩ : ∃ z : Int, (k : Int) = z := ⟨_, rfl⟩
  replace cs : Fn Tryz.prog 29 [chI rows, I n] [] (.tup [I k, Str r1, B r2]) [] := cs
  replace ci : Fn Tryz.prog 30 [chI rows, I n] [] (.tup [I k, Str r1, B r2]) [] := ci
  rw [ez] at cs ci
  conv => whnf
  refine VCall.of_data (fn_toChaind rows false hi) (ndA fun k => rfl) ?_
  conv => whnf
  refine VCall.of_data cs (ndT fun _ => rfl) ?_
  conv => whnf
  refine VCall.of_fn (k := 30) (fn_toChain rows hi) namesCh rfl ?_
  conv => whnf
  refine VCall.lend ci ⟨lend_ch rfl, rfl, trivial⟩ rfl ?_
  conv => whnf
  rw [decide_eq_true (rfl : z = z)]
  conv => whnf
  rw [show ((⟨r1.toArray⟩ : ByteArray).toList == (⟨r1.toArray⟩ : ByteArray).toList) = true by simp]
  conv => whnf
  rw [show (r2 == r2) = true by simp]
  conv => whnf
  refine VDraw.canon [(55, B false), (8, B r2), (7, Str r1), (6, I z), (2, .lp 2 0), (1, I n)] [(2, .box true [.d (.sl (cTT rows))])] ?_ ?_
  ·refine VDraw.go hmo hty 0 [] rfl ?_
   conv => whnf
   refine ⟨?_, ?_⟩
   ·
    conv => whnf
    refine VCall.of_fn (k := 53) (fn_toChain rows hi) namesCh rfl ?_
    conv => whnf
    refine VCall.parN [(1000000, 30), (1000001, 53)] (fn_intactChain rows hi) ⟨⟨⟨rfl, rfl, rfl, rfl⟩, trivial⟩, ⟨⟨rfl, rfl, rfl, rfl⟩, trivial⟩, trivial⟩ ⟨⟨rfl, rfl⟩, ⟨rfl, rfl⟩, trivial⟩ rfl rfl rfl rfl ?_
    conv => whnf
    exact ⟨⟨rfl, rfl, rfl, rfl, rfl, rfl, trivial⟩, rfl, trivial⟩
   ·conv => whnf
    refine ⟨?_, ?_⟩
    ·
     conv => whnf
     refine VCall.of_fn (k := 53) (fn_toChain rows hi) namesCh rfl ?_
     conv => whnf
     refine VCall.parN [(1000000, 30), (1000001, 53)] (fn_intactChain rows hi) ⟨⟨⟨rfl, rfl, rfl, rfl⟩, trivial⟩, ⟨⟨rfl, rfl, rfl, rfl⟩, trivial⟩, trivial⟩ ⟨⟨rfl, rfl⟩, ⟨rfl, rfl⟩, trivial⟩ rfl rfl rfl rfl ?_
     conv => whnf
     exact ⟨⟨rfl, rfl, rfl, rfl, rfl, rfl, trivial⟩, rfl, trivial⟩
    ·
     conv => whnf
     refine VCall.of_fn (k := 53) (fn_toChain rows hi) namesCh rfl ?_
     conv => whnf
     refine VCall.parN [(1000000, 30), (1000001, 53)] (fn_intactChain rows hi) ⟨⟨⟨rfl, rfl, rfl, rfl⟩, trivial⟩, ⟨⟨rfl, rfl, rfl, rfl⟩, trivial⟩, trivial⟩ ⟨⟨rfl, rfl⟩, ⟨rfl, rfl⟩, trivial⟩ rfl rfl rfl rfl ?_
     conv => whnf
     exact ⟨⟨rfl, rfl, rfl, rfl, rfl, rfl, trivial⟩, rfl, trivial⟩
  conv => whnf
  refine VCall.of_data (fn_toChaind rows true hi) (ndA fun k => rfl) ?_
  conv => whnf
  refine VCall.of_data ci (ndT fun _ => rfl) ?_
  conv => whnf
  rw [decide_eq_true (rfl : z = z)]
  conv => whnf
  rw [show ((⟨r1.toArray⟩ : ByteArray).toList == (⟨r1.toArray⟩ : ByteArray).toList) = true by simp]
  conv => whnf
  rw [show (r2 == r2) = true by simp]
  conv => whnf
  exact ⟨rfl, trivial, rfl⟩
end Go.V
namespace Go.V
end Go.V
