/- Part 9: the abstract machine, its soundness, contracts of functions. -/
import Derived.Test.YtnohbinebhhlpaaGreatDoorK8
set_option linter.unusedVariables false
set_option linter.unusedSimpArgs false
namespace Go.V
open Go.Proofs Go.RowKit
set_option maxRecDepth 10000
set_option maxHeartbeats 1000000
def ixQ (n w : Nat) : List MC := (List.range n).map fun i => .r i 0 w
theorem ixQ_len (n w : Nat) : (ixQ n w).length = n := by simp [ixQ]
theorem ixQ_at {n w i : Nat} (h : i < n) : (ixQ n w)[i]? = some (.r i 0 w) := by simp [ixQ, h]
theorem ixQ_snoc (n w : Nat) : ixQ (n + 1) w = ixQ n w ++ [.r n 0 w] := by unfold ixQ; rw [List.range_succ, List.map_append]; rfl
theorem ixF_rep (n w : Nat) : ixF 0 (List.replicate n w) = ixQ n w := by
 induction n with
 | zero => rfl
 | succ n ih => rw [List.replicate_succ' (n := n), ixF_snoc, ih, List.length_replicate, Nat.zero_add, ixQ_snoc]
def cR (R : Mt) : List (List (List C)) := R.map cQ
def cRS (R : Mt) : List (List (List C)) := R.map cS
theorem cR_len (R : Mt) : (cR R).length = R.length := by simp [cR]
theorem cRS_len (R : Mt) : (cRS R).length = R.length := by simp [cRS]
theorem cR_at {R : Mt} {i : Nat} {x : List Rat} (h : i < R.length) (e : R.getD i [] = x) : (cR R)[i]? = some (cQ x) := by
 subst e; rw [List.getD_eq_getElem?_getD, List.getElem?_eq_getElem h]; simp [cR, h]
theorem cRS_at {R : Mt} {i : Nat} {x : List Rat} (h : i < R.length) (e : R.getD i [] = x) : (cRS R)[i]? = some (cS x) := by
 subst e; rw [List.getD_eq_getElem?_getD, List.getElem?_eq_getElem h]; simp [cRS, h]
theorem cR_set (R : Mt) (i : Nat) (x : List Rat) : (cR R).set i (cQ x) = cR (R.set i x) := by unfold cR; rw [List.map_set]
theorem cR_getD {R : Mt} {i : Nat} (h : i < R.length) : (cR R).getD i [] = cQ (R.getD i []) := by
 rw [List.getD_eq_getElem?_getD, cR_at h rfl]; rfl
theorem matD_ixQ {R : Mt} {n w : Nat} (hn : R.length = n) (hw : ∀ i, i < n → (R.getD i []).length = w) : matD (cR R) (ixQ n w) = cM R := by
 have := matD_map (cR R) (fun i => .r i 0 w) (fun i => [.sl (cQ (R.getD i []))]) (List.range n) fun k hk => by
  have hk : k < n := by simpa using hk
  show [[C.sl ((((cR R).getD k []).drop 0).take w)]] = [[.sl (cQ (R.getD k []))]]
  rw [cR_getD (by omega), List.drop_zero, List.take_of_length_le (by rw [cQ_len, hw k hk]; exact Nat.le_refl _)]
 unfold ixQ
 rw [this]
 apply List.ext_getElem (by simp [cM_len, hn])
 intro i h1 h2
 have hi : i < R.length := by rw [cM_len] at h2; exact h2
 simp [cM, hi]
theorem matIn_ixQ {R : Mt} {n w : Nat} (hn : R.length = n) (hw : ∀ i, i < n → (R.getD i []).length = w) : matIn (cR R) (ixQ n w) := fun i lo m hm => by
 obtain ⟨k, hk, e⟩ := List.mem_map.1 hm
 have hk : k < n := by simpa using hk
 cases e
 rw [cR_getD (by omega), cQ_len, hw _ hk]
 omega
theorem freezeSq {f : Nat} {xs : List AV} {R : Mt} {n w : Nat} (h : Fn Tryz.prog f xs [] (.ls 0 0 n 1) [(0, .mat 3 (ixQ n w) (cR R))]) (hn : R.length = n) (hw : ∀ i, i < n → (R.getD i []).length = w) : Fn Tryz.prog f xs [] (lM R) [] := by
 have := h.freezeM (by rw [ixQ_len]; omega) (matIn_ixQ hn hw)
 rwa [matD_ixQ hn hw, List.drop_zero, List.take_of_length_le (by rw [cM_len]; omega)] at this
def layP (m : Mo) (a : Nat → Bool) (n : Nat) : Mt := (List.range (m.room + 1)).map fun i => if i < n then rowP m a i else List.replicate (m.room + 1) 0
theorem layP_len (m : Mo) (a : Nat → Bool) (n : Nat) : (layP m a n).length = m.room + 1 := by simp [layP]
theorem layP_at {m : Mo} {a : Nat → Bool} {n i : Nat} (h : i < m.room + 1) : (layP m a n).getD i [] = if i < n then rowP m a i else List.replicate (m.room + 1) 0 := map_at h
theorem layP_zero (m : Mo) (a : Nat → Bool) : layP m a 0 = List.replicate (m.room + 1) (List.replicate (m.room + 1) 0) := by
 apply List.ext_getElem (by simp [layP_len])
 intro i h1 h2
 simp [layP]
theorem layP_next {m : Mo} {a : Nat → Bool} {n : Nat} (h : n < m.room + 1) : (layP m a n).set n (rowP m a n) = layP m a (n + 1) := by
 apply mt_ext2 (by rw [List.length_set, layP_len, layP_len])
 intro i hi
 rw [List.length_set, layP_len] at hi
 rw [gsetD (by rw [layP_len]; exact h), layP_at hi, layP_at hi]
 by_cases e : i = n
 ·subst e; rw [if_pos rfl, if_pos (by omega)]
 ·rw [if_neg e]
  by_cases e2 : i < n
  ·rw [if_pos e2, if_pos (by omega)]
  ·rw [if_neg e2, if_neg (by omega)]
theorem layP_full (m : Mo) (a : Nat → Bool) : layP m a (m.room + 1) = chainP m a := by
 apply mt_ext2 (by rw [layP_len, chainP_len])
 intro i hi
 rw [layP_len] at hi
 rw [layP_at hi, if_pos hi, chainP_at hi]
theorem cR_rep (n k : Nat) : cR (List.replicate n (List.replicate k 0)) = List.replicate n (cQ (List.replicate k 0)) := by simp [cR]
theorem rep_getD (n j : Nat) : (List.replicate n (0 : Rat)).getD j 0 = 0 := by
 rw [List.getD_eq_getElem?_getD, List.getElem?_replicate]; split <;> rfl
theorem fn_chain0 (m : Mo) (hm : m.Ok) (acts : List Bool) (ha : acts.length = m.room) : Fn Tryz.prog 74 [moI m, lBo acts] [] (.ls 0 0 (m.room + 1) 1) [(0, .mat 3 (ixQ (m.room + 1) (m.room + 1)) (cR (chainP m (acts.getD · false))))] := by
 have r2 := hm.r2
 have cz := fn_zeros (m.room + 1) (by omega) (by omega)
 rw [ixF_rep, ← cR_rep] at cz
 obtain ⟨a, ea'⟩ : ∃ a : Nat → Bool, (acts.getD · false) = a := ⟨_, rfl⟩
 have ea : ∀ n, acts.getD n false = a n := fun n => by rw [← ea']
 rw [ea', ← layP_full]
 rw [← layP_zero m a] at cz
 obtain ⟨N, eN⟩ : ∃ N, m.room + 1 = N := ⟨_, rfl⟩
 rw [eN] at cz ⊢
 refine Fn.intro (ks := [0,1,2,4,5,6,7,13,14,15,27]) hty rfl rfl rfl rfl rfl ?_
 conv => whnf
 refine Wr.i64 (y := (N : Int)) (by omega) (by omega) (by omega) ?_
 conv => whnf
 refine VCall.of_fn (k := 11) cz (fun j hj => by
  have : 0 = j := Nat.eq_of_beq_eq_true hj
  rw [lget_cons, if_pos this.symm]; simp) rfl ?_
 conv => whnf
 refine VLoop.inv hty (S := Nat) (fun n => [(14, I n), (13, I N), (5, .ls 11 0 N 1), (2, .lp 2 0), (1, lBo acts)]) (fun n => [(11, .mat 3 (ixQ N N) (cR (layP m a n))), (2, .box true ((moJ m).map .d))]) (fun n => n ≤ N) (fun n => N - n) 0 (Nat.zero_le _)
  ⟨rfl, rfl, rfl, rfl, rfl, trivial⟩ ⟨rfl, rfl, trivial⟩ ?_
 intro n hn
 conv => whnf
 refine Br.mk (fun h => ?_) (fun h => ?_)
 ·have h : n < N := by simp only [decide_eq_true_eq] at h; omega
  obtain ⟨up, eup⟩ : ∃ up, up = if n < m.room ∧ a n = true then n + 1 else n := ⟨_, rfl⟩
  have hup : up < N := by rw [eup]; split <;> omega
  obtain ⟨r1, e1⟩ : ∃ r1, r1 = (List.replicate (m.room + 1) (0 : Rat)).set up (0 + m.come) := ⟨_, rfl⟩
  obtain ⟨r2', e2⟩ : ∃ r2, r2 = r1.set (n - 1) (r1.getD (n - 1) 0 + m.serve) := ⟨_, rfl⟩
  obtain ⟨r3, e3⟩ : ∃ r3, r3 = r2'.set n (r2'.getD n 0 + m.stay) := ⟨_, rfl⟩
  have er := rowP_lay m a (n := n) (by omega) up eup e1 e2 e3
  have x1 := ixQ_at (n := N) (w := N) h
  have z1 := hm.zc
  have z2 := hm.zs
  have z3 := hm.zt
  have z00 : sz (0 : Rat) ≤ 1 := by decide
  obtain ⟨z0, ez0⟩ : ∃ z0 : List Rat, List.replicate (m.room + 1) 0 = z0 := ⟨_, rfl⟩
  have z0l : z0.length = N := by rw [← ez0, List.length_replicate]; exact eN
  have z0at : ∀ j, z0.getD j 0 = 0 := fun j => by rw [← ez0]; exact rep_getD _ _
  have y0 := cR_at (R := layP m a n) (i := n) (x := z0) (by rw [layP_len]; omega) (by rw [layP_at (by omega), if_neg (by omega), ez0])
  rw [ez0] at e1
  have s1 : ∀ j, sz (r1.getD j 0) ≤ 900 := fun j => by
   rw [e1, gsetD (by rw [z0l]; exact hup)]
   split
   ·have := sz_add 0 m.come; omega
   ·rw [z0at]; omega
  have l1 : r1.length = N := by rw [e1, List.length_set, z0l]
  have l2 : r2'.length = N := by rw [e2, List.length_set, l1]
  have s2 : ∀ j, sz (r2'.getD j 0) ≤ 2000 := fun j => by
   rw [e2, gsetD (by rw [l1]; omega)]
   split
   ·have := sz_add (r1.getD (n - 1) 0) m.serve; have := s1 (n - 1); omega
   ·have := s1 j; omega
  have k1 := fn_radd 0 m.come (by omega)
  have k2 := fn_radd (r1.getD (n - 1) 0) m.serve (by have := s1 (n - 1); omega)
  have w1 : sz (((1 : Int) : Rat)) ≤ 1 := sz_small (n := 1) (k := 1) (by decide) (by decide)
  have s10 := sz_sub ((1 : Int) : Rat) m.come
  have k4 := fn_whole 1 (by decide) (by decide)
  have k5 := fn_rsub ((1 : Int) : Rat) m.come (by omega)
  have k6 := fn_rsub (((1 : Int) : Rat) - m.come) m.serve (by omega)
  rw [show ((1 : Int) : Rat) - m.come - m.serve = m.stay from rfl] at k6
  obtain ⟨yy, eyy⟩ : ∃ y, ((1 : Int) : Rat) - m.come = y := ⟨_, rfl⟩
  rw [eyy] at k5 k6
  have k3 := fn_radd (r2'.getD n 0) m.stay (by have := s2 n; omega)
  have y1 : ((cR (layP m a n)).set n ((cQ z0).set up (c1Q (0 + m.come))))[n]? = some (cQ r1) := by
   rw [cQ_set, ← e1, List.getElem?_set_self (by rw [cR_len, layP_len]; omega)]
  have y2 : (((cR (layP m a n)).set n ((cQ z0).set up (c1Q (0 + m.come)))).set n ((cQ r1).set (n - 1) (c1Q (r1.getD (n - 1) 0 + m.serve))))[n]? = some (cQ r2') := by
   rw [cQ_set (k := n - 1), ← e2, List.getElem?_set_self (by rw [List.length_set, cR_len, layP_len]; omega)]
  have y3 : ((((cR (layP m a n)).set n ((cQ z0).set up (c1Q (0 + m.come)))).set n ((cQ r1).set (n - 1) (c1Q (r1.getD (n - 1) 0 + m.serve))))).set n ((cQ r2').set n (c1Q (r2'.getD n 0 + m.stay))) = cR (layP m a (n + 1)) := by
   rw [List.set_set, List.set_set, cQ_set (k := n), ← e3, er, cR_set, layP_next (by omega)]
  conv => whnf
  by_cases hr : n < m.room
  ·rw [decide_eq_true (show (n : Int) < (m.room : Int) by omega)]
   conv => whnf
   refine ⟨⟨⟨by omega, by rw [cBo_len]; omega⟩, cBo_sz _⟩, ?_⟩
   conv => whnf
   refine ⟨_, cBo_as (x := a n) (by omega) (ea n), ?_⟩
   conv => whnf
   cases hact : a n with
   | true =>
    have et : up = n + 1 := by rw [eup]; exact if_pos ⟨hr, hact⟩
    conv => whnf
    refine Wr.i64 (y := (up : Int)) (by omega) (by omega) (by omega) ?_
    conv => whnf
    refine VDraw.go hmo hty 16 [] rfl ?_
    conv => whnf
    refine ⟨by omega, ?_⟩
    conv => whnf
    refine ⟨_, x1, ?_⟩
    conv => whnf
    refine ⟨by omega, ?_⟩
    conv => whnf
    refine ⟨_, x1, ?_⟩
    conv => whnf
    refine ⟨by omega, ?_⟩
    conv => whnf
    refine ⟨_, y0, ?_⟩
    conv => whnf
    refine ⟨_, cQ_as (x := 0) (i := up) (by rw [z0l]; omega) (z0at _), ?_⟩
    conv => whnf
    refine QCall.of_data k1 (ndA fun k => rfl) ?_
    conv => whnf
    refine ⟨by omega, ?_⟩
    conv => whnf
    refine ⟨_, y0, ?_⟩
    conv => whnf
    refine ⟨by rw [cQ_len, z0l]; show up + 0 < N; omega, ?_⟩
    conv => whnf
    refine VDraw.go hmo hty 20 [] rfl ?_
    conv => whnf
    refine ⟨by omega, ?_⟩
    conv => whnf
    refine ⟨_, x1, ?_⟩
    conv => whnf
    refine Wr.i64 (y := (n : Int) - 1) rfl (by omega) (by omega) ?_
    conv => whnf
    refine ⟨by omega, ?_⟩
    conv => whnf
    refine ⟨_, x1, ?_⟩
    conv => whnf
    refine Wr.i64 (y := (n : Int) - 1) rfl (by omega) (by omega) ?_
    conv => whnf
    rw [show max ((n : Int) - 1) 0 = ((n - 1 : Nat) : Int) by omega]
    conv => whnf
    refine ⟨by omega, ?_⟩
    conv => whnf
    refine ⟨_, y1, ?_⟩
    conv => whnf
    refine ⟨_, cQ_as (x := r1.getD (n - 1) 0) (i := n - 1) (by rw [l1]; omega) rfl, ?_⟩
    conv => whnf
    refine QCall.of_data k2 (ndA fun k => rfl) ?_
    conv => whnf
    refine ⟨by omega, ?_⟩
    conv => whnf
    refine ⟨_, y1, ?_⟩
    conv => whnf
    refine ⟨by rw [cQ_len, l1]; show n - 1 + 0 < N; omega, ?_⟩
    conv => whnf
    refine VDraw.go hmo hty 21 [] rfl ?_
    conv => whnf
    refine ⟨by omega, ?_⟩
    conv => whnf
    refine ⟨_, x1, ?_⟩
    conv => whnf
    refine ⟨by omega, ?_⟩
    conv => whnf
    refine ⟨_, x1, ?_⟩
    conv => whnf
    refine ⟨by omega, ?_⟩
    conv => whnf
    refine ⟨_, y2, ?_⟩
    conv => whnf
    refine ⟨_, cQ_as (x := r2'.getD n 0) (i := n) (by rw [l2]; omega) rfl, ?_⟩
    conv => whnf
    refine QCall.of_data k4 (ndA fun k => rfl) ?_
    conv => whnf
    refine QCall.of_data k5 (ndA fun k => rfl) ?_
    conv => whnf
    refine QCall.of_data k6 (ndA fun k => rfl) ?_
    conv => whnf
    refine QCall.of_data k3 (ndA fun k => rfl) ?_
    conv => whnf
    refine ⟨by omega, ?_⟩
    conv => whnf
    refine ⟨_, y2, ?_⟩
    conv => whnf
    refine ⟨by rw [cQ_len, l2]; show n + 0 < N; omega, ?_⟩
    conv => whnf
    refine Wr.i64 (y := ((n + 1 : Nat) : Int)) rfl (by omega) (by omega) ?_
    conv => whnf
    refine ⟨n + 1, h, by show N - (n + 1) < N - n; omega, ⟨rfl, rfl, rfl, rfl, rfl, trivial⟩, ?_, rfl, trivial⟩
    exact congrArg (Ob.mat 3 (ixQ N N)) y3
   | false =>
    have et : n = up := by rw [eup]; exact (if_neg (by rw [hact]; simp)).symm
    subst et
    conv => whnf
    refine VDraw.go hmo hty 16 [] rfl ?_
    conv => whnf
    refine ⟨by omega, ?_⟩
    conv => whnf
    refine ⟨_, x1, ?_⟩
    conv => whnf
    refine ⟨by omega, ?_⟩
    conv => whnf
    refine ⟨_, x1, ?_⟩
    conv => whnf
    refine ⟨by omega, ?_⟩
    conv => whnf
    refine ⟨_, y0, ?_⟩
    conv => whnf
    refine ⟨_, cQ_as (x := 0) (i := n) (by rw [z0l]; omega) (z0at _), ?_⟩
    conv => whnf
    refine QCall.of_data k1 (ndA fun k => rfl) ?_
    conv => whnf
    refine ⟨by omega, ?_⟩
    conv => whnf
    refine ⟨_, y0, ?_⟩
    conv => whnf
    refine ⟨by rw [cQ_len, z0l]; show n + 0 < N; omega, ?_⟩
    conv => whnf
    refine VDraw.go hmo hty 20 [] rfl ?_
    conv => whnf
    refine ⟨by omega, ?_⟩
    conv => whnf
    refine ⟨_, x1, ?_⟩
    conv => whnf
    refine Wr.i64 (y := (n : Int) - 1) rfl (by omega) (by omega) ?_
    conv => whnf
    refine ⟨by omega, ?_⟩
    conv => whnf
    refine ⟨_, x1, ?_⟩
    conv => whnf
    refine Wr.i64 (y := (n : Int) - 1) rfl (by omega) (by omega) ?_
    conv => whnf
    rw [show max ((n : Int) - 1) 0 = ((n - 1 : Nat) : Int) by omega]
    conv => whnf
    refine ⟨by omega, ?_⟩
    conv => whnf
    refine ⟨_, y1, ?_⟩
    conv => whnf
    refine ⟨_, cQ_as (x := r1.getD (n - 1) 0) (i := n - 1) (by rw [l1]; omega) rfl, ?_⟩
    conv => whnf
    refine QCall.of_data k2 (ndA fun k => rfl) ?_
    conv => whnf
    refine ⟨by omega, ?_⟩
    conv => whnf
    refine ⟨_, y1, ?_⟩
    conv => whnf
    refine ⟨by rw [cQ_len, l1]; show n - 1 + 0 < N; omega, ?_⟩
    conv => whnf
    refine VDraw.go hmo hty 21 [] rfl ?_
    conv => whnf
    refine ⟨by omega, ?_⟩
    conv => whnf
    refine ⟨_, x1, ?_⟩
    conv => whnf
    refine ⟨by omega, ?_⟩
    conv => whnf
    refine ⟨_, x1, ?_⟩
    conv => whnf
    refine ⟨by omega, ?_⟩
    conv => whnf
    refine ⟨_, y2, ?_⟩
    conv => whnf
    refine ⟨_, cQ_as (x := r2'.getD n 0) (i := n) (by rw [l2]; omega) rfl, ?_⟩
    conv => whnf
    refine QCall.of_data k4 (ndA fun k => rfl) ?_
    conv => whnf
    refine QCall.of_data k5 (ndA fun k => rfl) ?_
    conv => whnf
    refine QCall.of_data k6 (ndA fun k => rfl) ?_
    conv => whnf
    refine QCall.of_data k3 (ndA fun k => rfl) ?_
    conv => whnf
    refine ⟨by omega, ?_⟩
    conv => whnf
    refine ⟨_, y2, ?_⟩
    conv => whnf
    refine ⟨by rw [cQ_len, l2]; show n + 0 < N; omega, ?_⟩
    conv => whnf
    refine Wr.i64 (y := ((n + 1 : Nat) : Int)) rfl (by omega) (by omega) ?_
    conv => whnf
    refine ⟨n + 1, h, by show N - (n + 1) < N - n; omega, ⟨rfl, rfl, rfl, rfl, rfl, trivial⟩, ?_, rfl, trivial⟩
    exact congrArg (Ob.mat 3 (ixQ N N)) y3
  ·have et : n = up := by rw [eup]; exact (if_neg (fun e => hr e.1)).symm
   subst et
   rw [decide_eq_false (show ¬ (n : Int) < (m.room : Int) by omega)]
   conv => whnf
   refine VDraw.go hmo hty 16 [] rfl ?_
   conv => whnf
   refine ⟨by omega, ?_⟩
   conv => whnf
   refine ⟨_, x1, ?_⟩
   conv => whnf
   refine ⟨by omega, ?_⟩
   conv => whnf
   refine ⟨_, x1, ?_⟩
   conv => whnf
   refine ⟨by omega, ?_⟩
   conv => whnf
   refine ⟨_, y0, ?_⟩
   conv => whnf
   refine ⟨_, cQ_as (x := 0) (i := n) (by rw [z0l]; omega) (z0at _), ?_⟩
   conv => whnf
   refine QCall.of_data k1 (ndA fun k => rfl) ?_
   conv => whnf
   refine ⟨by omega, ?_⟩
   conv => whnf
   refine ⟨_, y0, ?_⟩
   conv => whnf
   refine ⟨by rw [cQ_len, z0l]; show n + 0 < N; omega, ?_⟩
   conv => whnf
   refine VDraw.go hmo hty 20 [] rfl ?_
   conv => whnf
   refine ⟨by omega, ?_⟩
   conv => whnf
   refine ⟨_, x1, ?_⟩
   conv => whnf
   refine Wr.i64 (y := (n : Int) - 1) rfl (by omega) (by omega) ?_
   conv => whnf
   refine ⟨by omega, ?_⟩
   conv => whnf
   refine ⟨_, x1, ?_⟩
   conv => whnf
   refine Wr.i64 (y := (n : Int) - 1) rfl (by omega) (by omega) ?_
   conv => whnf
   rw [show max ((n : Int) - 1) 0 = ((n - 1 : Nat) : Int) by omega]
   conv => whnf
   refine ⟨by omega, ?_⟩
   conv => whnf
   refine ⟨_, y1, ?_⟩
   conv => whnf
   refine ⟨_, cQ_as (x := r1.getD (n - 1) 0) (i := n - 1) (by rw [l1]; omega) rfl, ?_⟩
   conv => whnf
   refine QCall.of_data k2 (ndA fun k => rfl) ?_
   conv => whnf
   refine ⟨by omega, ?_⟩
   conv => whnf
   refine ⟨_, y1, ?_⟩
   conv => whnf
   refine ⟨by rw [cQ_len, l1]; show n - 1 + 0 < N; omega, ?_⟩
   conv => whnf
   refine VDraw.go hmo hty 21 [] rfl ?_
   conv => whnf
   refine ⟨by omega, ?_⟩
   conv => whnf
   refine ⟨_, x1, ?_⟩
   conv => whnf
   refine ⟨by omega, ?_⟩
   conv => whnf
   refine ⟨_, x1, ?_⟩
   conv => whnf
   refine ⟨by omega, ?_⟩
   conv => whnf
   refine ⟨_, y2, ?_⟩
   conv => whnf
   refine ⟨_, cQ_as (x := r2'.getD n 0) (i := n) (by rw [l2]; omega) rfl, ?_⟩
   conv => whnf
   refine QCall.of_data k4 (ndA fun k => rfl) ?_
   conv => whnf
   refine QCall.of_data k5 (ndA fun k => rfl) ?_
   conv => whnf
   refine QCall.of_data k6 (ndA fun k => rfl) ?_
   conv => whnf
   refine QCall.of_data k3 (ndA fun k => rfl) ?_
   conv => whnf
   refine ⟨by omega, ?_⟩
   conv => whnf
   refine ⟨_, y2, ?_⟩
   conv => whnf
   refine ⟨by rw [cQ_len, l2]; show n + 0 < N; omega, ?_⟩
   conv => whnf
   refine Wr.i64 (y := ((n + 1 : Nat) : Int)) rfl (by omega) (by omega) ?_
   conv => whnf
   refine ⟨n + 1, h, by show N - (n + 1) < N - n; omega, ⟨rfl, rfl, rfl, rfl, rfl, trivial⟩, ?_, rfl, trivial⟩
   exact congrArg (Ob.mat 3 (ixQ N N)) y3
 ·have h : n = N := by simp only [decide_eq_false_iff_not] at h; omega
  rw [h]
  conv => whnf
  exact ⟨⟨rfl, rfl, rfl, rfl, rfl⟩, [], rfl, trivial, rfl⟩
theorem chainP_sq (m : Mo) (a : Nat → Bool) : ∀ i, i < m.room + 1 → ((chainP m a).getD i []).length = m.room + 1 := fun i hi => by rw [chainP_at hi, rowP_len]
theorem fn_chain (m : Mo) (hm : m.Ok) (acts : List Bool) (ha : acts.length = m.room) : Fn Tryz.prog 74 [moI m, lBo acts] [] (lM (chainP m (acts.getD · false))) [] :=
 freezeSq (fn_chain0 m hm acts ha) (chainP_len _ _) (chainP_sq _ _)
theorem Fn.freezeMA {P : Program} {f : FuncId} {xs : List AV} {lo n sz : Nat} {ix : List MC} {rows : List (List (List C))} (h : Fn P f xs [] (.ag [.ls 0 lo n 1]) [(0, .mat sz ix rows)]) (hn : n + lo ≤ ix.length) (hin : matIn rows ix) : Fn P f xs [] (.ag [.d (.sl (((matD rows ix).drop lo).take n))]) [] where
 en := h.en
 out := fun κ ρ w vs hm hs hv => (h.out κ ρ w vs hm hs hv).mono fun e w' ⟨v, κ', ρ', h1, h2, h3, h4⟩ => by
  have hob := h3.ob 0
  obtain ⟨L, hL, _⟩ := hob
  obtain ⟨κ'', g1, g2, _, g4⟩ := h3.freezeM (id := 0) rfl hL hin
  obtain ⟨us, rfl, hn', ho, hu⟩ := h4.agg
  refine ⟨_, κ'', _, h1, Know.le_trans h2 g1, g2, .ag us _ (by simpa using hn') ho fun k u c hk hc => ?_⟩
  cases k with
  | zero =>
   simp at hc; subst hc
   exact g4 u lo n (hu 0 u _ hk rfl) hn
  | succ k => simp at hc
theorem cRS_getD {R : Mt} {i : Nat} (h : i < R.length) : (cRS R).getD i [] = cS (R.getD i []) := by
 rw [List.getD_eq_getElem?_getD, cRS_at h rfl]; rfl
theorem matDS_ixQ {R : Mt} {n w : Nat} (hn : R.length = n) (hw : ∀ i, i < n → (R.getD i []).length = w) : matD (cRS R) (ixQ n w) = cMS R := by
 have := matD_map (cRS R) (fun i => .r i 0 w) (fun i => [.sl (cS (R.getD i []))]) (List.range n) fun k hk => by
  have hk : k < n := by simpa using hk
  show [[C.sl ((((cRS R).getD k []).drop 0).take w)]] = [[.sl (cS (R.getD k []))]]
  rw [cRS_getD (by omega), List.drop_zero, List.take_of_length_le (by rw [cS_len, hw k hk]; exact Nat.le_refl _)]
 unfold ixQ
 rw [this]
 apply List.ext_getElem (by simp [cMS_len, hn])
 intro i h1 h2
 have hi : i < R.length := by rw [cMS_len] at h2; exact h2
 simp [cMS, hi]
theorem matInS_ixQ {R : Mt} {n w : Nat} (hn : R.length = n) (hw : ∀ i, i < n → (R.getD i []).length = w) : matIn (cRS R) (ixQ n w) := fun i lo m hm => by
 obtain ⟨k, hk, e⟩ := List.mem_map.1 hm
 have hk : k < n := by simpa using hk
 cases e
 rw [cRS_getD (by omega), cS_len, hw _ hk]
 omega
def firP (m : Mo) (a : Nat → Bool) (n : Nat) : Mt := (List.range n).map (rowP m a)
theorem firP_len (m : Mo) (a : Nat → Bool) (n : Nat) : (firP m a n).length = n := by simp [firP]
theorem firP_next (m : Mo) (a : Nat → Bool) (n : Nat) : cRS (firP m a (n + 1)) = cRS (firP m a n) ++ [cS (rowP m a n)] := by unfold firP cRS; rw [List.range_succ, List.map_append, List.map_append]; rfl
def firL (m : Mo) (a : Nat → Bool) (N : Nat) : Nat → LL
 | 0 => [(5, .box true [.d (.s (.slice none 0 0))]), (4, .box true [.d (.s (.slice none 0 0))])]
 | k + 1 => [(200, .mat 3 (ixQ (k + 1) N) (cRS (firP m a (k + 1)))), (5, .box true [.ls 200 0 (k + 1) 1]), (4, .box true [.d (.s (.slice none 0 0))])]
theorem fn_sChain0 (m : Mo) (hm : m.Ok) (acts : List Bool) (ha : acts.length = m.room) : Fn Tryz.prog 71 [moP m, lBo acts] [] (.ag [.ls 0 0 (m.room + 1) 1]) [(0, .mat 3 (ixQ (m.room + 1) (m.room + 1)) (cRS (chainP m (acts.getD · false))))] := by
 have r2 := hm.r2
 have cz := fn_sZeros m (by omega)
 obtain ⟨a, ea'⟩ : ∃ a : Nat → Bool, (acts.getD · false) = a := ⟨_, rfl⟩
 have ea : ∀ n, acts.getD n false = a n := fun n => by rw [← ea']
 rw [ea', show chainP m a = firP m a (m.room + 1) from rfl]
 obtain ⟨N, eN⟩ : ∃ N, m.room + 1 = N := ⟨_, rfl⟩
 rw [eN] at cz ⊢
 refine Fn.intro (ks := [0,1,4,5,6,7,14,27,59]) hty rfl rfl rfl rfl rfl ?_
 conv => whnf
 refine VLoop.invR hty (S := Nat) [(84, 200)] (fun k => [(6, I k), (5, .lp 5 0), (4, .lp 4 0), (1, lBo acts), (0, moP m)]) (firL m a N)
  (fun k => k ≤ N) (fun k => N - k) 0 (Nat.zero_le _) ⟨rfl, rfl, rfl, rfl, rfl, trivial⟩ ⟨rfl, rfl, trivial⟩ ?_
 rintro (_ | k) hk
 ·have h : 0 < N := by omega
  conv => whnf
  ·
   obtain ⟨z0, ez0⟩ : ∃ z0 : List Rat, List.replicate (m.room + 1) 0 = z0 := ⟨_, rfl⟩
   have z0l : z0.length = N := by rw [← ez0, List.length_replicate]; exact eN
   have z0at : ∀ j, z0.getD j 0 = 0 := fun j => by rw [← ez0]; exact rep_getD _ _
   have cz' := cz
   rw [show zeroQ m = z0 from ez0] at cz'
   obtain ⟨r1, e1⟩ : ∃ r1, r1 = (List.replicate (m.room + 1) (0 : Rat)).set 0 m.stay := ⟨_, rfl⟩
   obtain ⟨r2', e2⟩ : ∃ r2, r2 = if 0 < 0 then r1.set (0 - 1) m.serve else r1.set 0 (r1.getD 0 0 + m.serve) := ⟨_, rfl⟩
   obtain ⟨r3, e3⟩ : ∃ r3, r3 = if 0 < m.room ∧ a 0 = true then r2'.set (0 + 1) m.come else r2'.set 0 (r2'.getD 0 0 + m.come) := ⟨_, rfl⟩
   have er := rowP_lay2 m a (n := 0) (by omega) e1 e2 e3
   rw [ez0] at e1
   have l1 : r1.length = N := by rw [e1, List.length_set, z0l]
   have l2 : r2'.length = N := by rw [e2]; split <;> rw [List.length_set, l1]
   have s1 : ∀ j, sz (r1.getD j 0) ≤ 1603 := fun j => by
    rw [e1, gsetD (by rw [z0l]; exact h)]
    split
    ·exact hm.zt
    ·rw [z0at]; exact Nat.le_trans (by decide : sz (0 : Rat) ≤ 1) (by decide)
   have s2 : ∀ j, sz (r2'.getD j 0) ≤ 3000 := fun j => by
    rw [e2]
    split
    ·rw [gsetD (by rw [l1]; omega)]
     split
     ·have := hm.zs; omega
     ·have := s1 j; omega
    ·rw [gsetD (by rw [l1]; exact h)]
     split
     ·have := sz_add (r1.getD 0 0) m.serve; have := s1 0; have := hm.zs; omega
     ·have := s1 j; omega
   have k1 := fn_sSum (r1.getD 0 0) m.serve (by have := s1 0; have := hm.zs; omega)
   have k2 := fn_sSum (r2'.getD 0 0) m.come (by have := s2 0; have := hm.zc; omega)
   have w1 : ((cS z0).set 0 (c1S m.stay))[0]? = some (c1S (r1.getD 0 0)) := by rw [cS_set, ← e1]; exact cS_as (by rw [l1]; exact h) rfl
   have v2 : ((cS z0).set 0 (c1S m.stay)).set 0 (c1S (r1.getD 0 0 + m.serve)) = cS r2' := by rw [cS_set, ← e1, cS_set, e2, if_neg (by omega)]
   have w2 : (((cS z0).set 0 (c1S m.stay)).set 0 (c1S (r1.getD 0 0 + m.serve)))[0]? = some (c1S (r2'.getD 0 0)) := by rw [v2]; exact cS_as (by rw [l2]; exact h) rfl
   have vl : (((cS z0).set 0 (c1S m.stay)).set 0 (c1S (r1.getD 0 0 + m.serve))).length = N := by rw [v2, cS_len, l2]
   refine VCall.of_ls (k := 18) cz' rfl ?_
   conv => whnf
   refine ⟨by omega, ?_⟩
   conv => whnf
   refine ⟨by rw [cS_len, z0l]; show 0 + 0 < N; omega, ?_⟩
   conv => whnf
   refine VDraw.go hmo hty 12 [] rfl ?_
   conv => whnf
   refine ⟨by omega, ?_⟩
   conv => whnf
   refine ⟨_, w1, ?_⟩
   conv => whnf
   refine QCall.of_data k1 (ndA fun k => rfl) ?_
   conv => whnf
   refine ⟨by omega, ?_⟩
   conv => whnf
   refine ⟨by rw [List.length_set, cS_len, z0l]; show 0 + 0 < N; omega, ?_⟩
   conv => whnf
   by_cases hr : 0 < m.room
   ·rw [decide_eq_true (show ((0 : Nat) : Int) < (m.room : Int) by omega)]
    conv => whnf
    refine ⟨⟨⟨by omega, by rw [cBo_len]; omega⟩, cBo_sz _⟩, ?_⟩
    conv => whnf
    refine ⟨_, cBo_as (x := a 0) (by omega) (ea _), ?_⟩
    conv => whnf
    cases hact : a 0 with
    | true =>
     have v3 : (((cS z0).set 0 (c1S m.stay)).set 0 (c1S (r1.getD 0 0 + m.serve))).set (0 + 1) (c1S m.come) = cS (rowP m a 0) := by rw [v2, cS_set, ← er, e3, if_pos ⟨hr, hact⟩]
     conv => whnf
     refine Wr.i64 (y := ((0 + 1 : Nat) : Int)) rfl (by omega) (by omega) ?_
     conv => whnf
     refine ⟨by omega, ?_⟩
     conv => whnf
     refine ⟨by refine Nat.lt_of_lt_of_eq ?_ vl.symm; show 0 + 1 + 0 < N; omega, ?_⟩
     conv => whnf
     refine ⟨by decide, ?_⟩
     conv => whnf
     refine Wr.i64 (y := ((0 + 1 : Nat) : Int)) rfl (by omega) (by omega) ?_
     conv => whnf
     refine ⟨0 + 1, h, by show N - (0 + 1) < N - 0; omega, rfl, ?_⟩
     conv => whnf
     refine ⟨⟨rfl, rfl, rfl, rfl, rfl, trivial⟩, ⟨?_, rfl, rfl, trivial⟩⟩
     show Ob.mat 3 _ _ = Ob.mat 3 (ixQ (0 + 1) N) (cRS (firP m a (0 + 1)))
     conv => rhs; rw [firP_next m a (0), ixQ_snoc, ← v3]
     first | rfl | (rw [cRS_len, firP_len]; rfl)
    | false =>
     have v3 : (((cS z0).set 0 (c1S m.stay)).set 0 (c1S (r1.getD 0 0 + m.serve))).set 0 (c1S (r2'.getD 0 0 + m.come)) = cS (rowP m a 0) := by rw [v2, cS_set, ← er, e3, if_neg (by rw [hact]; simp)]
     conv => whnf
     refine VDraw.go hmo hty 12 [] rfl ?_
     conv => whnf
     refine ⟨by omega, ?_⟩
     conv => whnf
     refine ⟨_, w2, ?_⟩
     conv => whnf
     refine QCall.of_data k2 (ndA fun k => rfl) ?_
     conv => whnf
     refine ⟨by omega, ?_⟩
     conv => whnf
     refine ⟨by refine Nat.lt_of_lt_of_eq ?_ vl.symm; show 0 + 0 < N; omega, ?_⟩
     conv => whnf
     refine ⟨by decide, ?_⟩
     conv => whnf
     refine Wr.i64 (y := ((0 + 1 : Nat) : Int)) rfl (by omega) (by omega) ?_
     conv => whnf
     refine ⟨0 + 1, h, by show N - (0 + 1) < N - 0; omega, rfl, ?_⟩
     conv => whnf
     refine ⟨⟨rfl, rfl, rfl, rfl, rfl, trivial⟩, ⟨?_, rfl, rfl, trivial⟩⟩
     show Ob.mat 3 _ _ = Ob.mat 3 (ixQ (0 + 1) N) (cRS (firP m a (0 + 1)))
     conv => rhs; rw [firP_next m a (0), ixQ_snoc, ← v3]
     first | rfl | (rw [cRS_len, firP_len]; rfl)
   ·have v3 : (((cS z0).set 0 (c1S m.stay)).set 0 (c1S (r1.getD 0 0 + m.serve))).set 0 (c1S (r2'.getD 0 0 + m.come)) = cS (rowP m a 0) := by rw [v2, cS_set, ← er, e3, if_neg (fun e => hr e.1)]
    rw [decide_eq_false (show ¬ ((0 : Nat) : Int) < (m.room : Int) by omega)]
    conv => whnf
    refine VDraw.go hmo hty 12 [] rfl ?_
    conv => whnf
    refine ⟨by omega, ?_⟩
    conv => whnf
    refine ⟨_, w2, ?_⟩
    conv => whnf
    refine QCall.of_data k2 (ndA fun k => rfl) ?_
    conv => whnf
    refine ⟨by omega, ?_⟩
    conv => whnf
    refine ⟨by refine Nat.lt_of_lt_of_eq ?_ vl.symm; show 0 + 0 < N; omega, ?_⟩
    conv => whnf
    refine ⟨by decide, ?_⟩
    conv => whnf
    refine Wr.i64 (y := ((0 + 1 : Nat) : Int)) rfl (by omega) (by omega) ?_
    conv => whnf
    refine ⟨0 + 1, h, by show N - (0 + 1) < N - 0; omega, rfl, ?_⟩
    conv => whnf
    refine ⟨⟨rfl, rfl, rfl, rfl, rfl, trivial⟩, ⟨?_, rfl, rfl, trivial⟩⟩
    show Ob.mat 3 _ _ = Ob.mat 3 (ixQ (0 + 1) N) (cRS (firP m a (0 + 1)))
    conv => rhs; rw [firP_next m a (0), ixQ_snoc, ← v3]
    first | rfl | (rw [cRS_len, firP_len]; rfl)
 ·conv => whnf
  refine Br.mk (fun h => ?_) (fun h => ?_)
  ·have h : k + 1 < N := by simp only [decide_eq_true_eq] at h; omega
   conv => whnf
   ·
    obtain ⟨z0, ez0⟩ : ∃ z0 : List Rat, List.replicate (m.room + 1) 0 = z0 := ⟨_, rfl⟩
    have z0l : z0.length = N := by rw [← ez0, List.length_replicate]; exact eN
    have z0at : ∀ j, z0.getD j 0 = 0 := fun j => by rw [← ez0]; exact rep_getD _ _
    have cz' := cz
    rw [show zeroQ m = z0 from ez0] at cz'
    obtain ⟨r1, e1⟩ : ∃ r1, r1 = (List.replicate (m.room + 1) (0 : Rat)).set (k+1) m.stay := ⟨_, rfl⟩
    obtain ⟨r2', e2⟩ : ∃ r2, r2 = if 0 < (k+1) then r1.set ((k+1) - 1) m.serve else r1.set (k+1) (r1.getD (k+1) 0 + m.serve) := ⟨_, rfl⟩
    obtain ⟨r3, e3⟩ : ∃ r3, r3 = if (k+1) < m.room ∧ a (k+1) = true then r2'.set ((k+1) + 1) m.come else r2'.set (k+1) (r2'.getD (k+1) 0 + m.come) := ⟨_, rfl⟩
    have er := rowP_lay2 m a (n := (k+1)) (by omega) e1 e2 e3
    rw [ez0] at e1
    have l1 : r1.length = N := by rw [e1, List.length_set, z0l]
    have l2 : r2'.length = N := by rw [e2]; split <;> rw [List.length_set, l1]
    have s1 : ∀ j, sz (r1.getD j 0) ≤ 1603 := fun j => by
     rw [e1, gsetD (by rw [z0l]; exact h)]
     split
     ·exact hm.zt
     ·rw [z0at]; exact Nat.le_trans (by decide : sz (0 : Rat) ≤ 1) (by decide)
    have s2 : ∀ j, sz (r2'.getD j 0) ≤ 3000 := fun j => by
     rw [e2]
     split
     ·rw [gsetD (by rw [l1]; omega)]
      split
      ·have := hm.zs; omega
      ·have := s1 j; omega
     ·rw [gsetD (by rw [l1]; exact h)]
      split
      ·have := sz_add (r1.getD (k+1) 0) m.serve; have := s1 (k+1); have := hm.zs; omega
      ·have := s1 j; omega
    have k1 := fn_sSum (r1.getD (k+1) 0) m.serve (by have := s1 (k+1); have := hm.zs; omega)
    have k2 := fn_sSum (r2'.getD (k+1) 0) m.come (by have := s2 (k+1); have := hm.zc; omega)
    have w1 : ((cS z0).set (k+1) (c1S m.stay))[(k+1)]? = some (c1S (r1.getD (k+1) 0)) := by rw [cS_set, ← e1]; exact cS_as (by rw [l1]; exact h) rfl
    have v2 : ((cS z0).set (k + 1) (c1S m.stay)).set k (c1S m.serve) = cS r2' := by rw [cS_set, ← e1, cS_set, e2, if_pos (by omega)]; rfl
    have w2 : (((cS z0).set (k + 1) (c1S m.stay)).set k (c1S m.serve))[(k+1)]? = some (c1S (r2'.getD (k+1) 0)) := by rw [v2]; exact cS_as (by rw [l2]; exact h) rfl
    have vl : (((cS z0).set (k + 1) (c1S m.stay)).set k (c1S m.serve)).length = N := by rw [v2, cS_len, l2]
    refine VCall.of_ls (k := 18) cz' rfl ?_
    conv => whnf
    refine ⟨by omega, ?_⟩
    conv => whnf
    refine ⟨by rw [cS_len, z0l]; show (k+1) + 0 < N; omega, ?_⟩
    conv => whnf
    rw [decide_eq_true (show (0 : Int) < ((k + 1 : Nat) : Int) by omega)]
    conv => whnf
    refine Wr.i64 (y := (k : Int)) (by omega) (by omega) (by omega) ?_
    conv => whnf
    refine ⟨by omega, ?_⟩
    conv => whnf
    refine ⟨by rw [List.length_set, cS_len, z0l]; show k + 0 < N; omega, ?_⟩
    conv => whnf
    by_cases hr : (k+1) < m.room
    ·rw [decide_eq_true (show (((k+1) : Nat) : Int) < (m.room : Int) by omega)]
     conv => whnf
     refine ⟨⟨⟨by omega, by rw [cBo_len]; omega⟩, cBo_sz _⟩, ?_⟩
     conv => whnf
     refine ⟨_, cBo_as (x := a (k+1)) (by omega) (ea _), ?_⟩
     conv => whnf
     cases hact : a (k+1) with
     | true =>
      have v3 : (((cS z0).set (k + 1) (c1S m.stay)).set k (c1S m.serve)).set ((k+1) + 1) (c1S m.come) = cS (rowP m a (k+1)) := by rw [v2, cS_set, ← er, e3, if_pos ⟨hr, hact⟩]
      conv => whnf
      refine Wr.i64 (y := (((k+1) + 1 : Nat) : Int)) rfl (by omega) (by omega) ?_
      conv => whnf
      refine ⟨by omega, ?_⟩
      conv => whnf
      refine ⟨by refine Nat.lt_of_lt_of_eq ?_ vl.symm; show (k+1) + 1 + 0 < N; omega, ?_⟩
      conv => whnf
      refine ⟨⟨by rw [ixQ_len], by show (k + 1 + 1) * 24 ≤ _; omega⟩, ?_⟩
      conv => whnf
      refine Wr.i64 (y := (((k+1) + 1 : Nat) : Int)) rfl (by omega) (by omega) ?_
      conv => whnf
      refine ⟨(k+1) + 1, h, by show N - ((k+1) + 1) < N - (k+1); omega, rfl, ?_⟩
      conv => whnf
      refine ⟨⟨rfl, rfl, rfl, rfl, rfl, trivial⟩, ⟨?_, rfl, rfl, trivial⟩⟩
      show Ob.mat 3 _ _ = Ob.mat 3 (ixQ ((k+1) + 1) N) (cRS (firP m a ((k+1) + 1)))
      conv => rhs; rw [firP_next m a ((k+1)), ixQ_snoc, ← v3]
      first | rfl | (rw [cRS_len, firP_len]; rfl)
     | false =>
      have v3 : (((cS z0).set (k + 1) (c1S m.stay)).set k (c1S m.serve)).set (k+1) (c1S (r2'.getD (k+1) 0 + m.come)) = cS (rowP m a (k+1)) := by rw [v2, cS_set, ← er, e3, if_neg (by rw [hact]; simp)]
      conv => whnf
      refine VDraw.go hmo hty 12 [] rfl ?_
      conv => whnf
      refine ⟨by omega, ?_⟩
      conv => whnf
      refine ⟨_, w2, ?_⟩
      conv => whnf
      refine QCall.of_data k2 (ndA fun k => rfl) ?_
      conv => whnf
      refine ⟨by omega, ?_⟩
      conv => whnf
      refine ⟨by refine Nat.lt_of_lt_of_eq ?_ vl.symm; show (k+1) + 0 < N; omega, ?_⟩
      conv => whnf
      refine ⟨⟨by rw [ixQ_len], by show (k + 1 + 1) * 24 ≤ _; omega⟩, ?_⟩
      conv => whnf
      refine Wr.i64 (y := (((k+1) + 1 : Nat) : Int)) rfl (by omega) (by omega) ?_
      conv => whnf
      refine ⟨(k+1) + 1, h, by show N - ((k+1) + 1) < N - (k+1); omega, rfl, ?_⟩
      conv => whnf
      refine ⟨⟨rfl, rfl, rfl, rfl, rfl, trivial⟩, ⟨?_, rfl, rfl, trivial⟩⟩
      show Ob.mat 3 _ _ = Ob.mat 3 (ixQ ((k+1) + 1) N) (cRS (firP m a ((k+1) + 1)))
      conv => rhs; rw [firP_next m a ((k+1)), ixQ_snoc, ← v3]
      first | rfl | (rw [cRS_len, firP_len]; rfl)
    ·have v3 : (((cS z0).set (k + 1) (c1S m.stay)).set k (c1S m.serve)).set (k+1) (c1S (r2'.getD (k+1) 0 + m.come)) = cS (rowP m a (k+1)) := by rw [v2, cS_set, ← er, e3, if_neg (fun e => hr e.1)]
     rw [decide_eq_false (show ¬ (((k+1) : Nat) : Int) < (m.room : Int) by omega)]
     conv => whnf
     refine VDraw.go hmo hty 12 [] rfl ?_
     conv => whnf
     refine ⟨by omega, ?_⟩
     conv => whnf
     refine ⟨_, w2, ?_⟩
     conv => whnf
     refine QCall.of_data k2 (ndA fun k => rfl) ?_
     conv => whnf
     refine ⟨by omega, ?_⟩
     conv => whnf
     refine ⟨by refine Nat.lt_of_lt_of_eq ?_ vl.symm; show (k+1) + 0 < N; omega, ?_⟩
     conv => whnf
     refine ⟨⟨by rw [ixQ_len], by show (k + 1 + 1) * 24 ≤ _; omega⟩, ?_⟩
     conv => whnf
     refine Wr.i64 (y := (((k+1) + 1 : Nat) : Int)) rfl (by omega) (by omega) ?_
     conv => whnf
     refine ⟨(k+1) + 1, h, by show N - ((k+1) + 1) < N - (k+1); omega, rfl, ?_⟩
     conv => whnf
     refine ⟨⟨rfl, rfl, rfl, rfl, rfl, trivial⟩, ⟨?_, rfl, rfl, trivial⟩⟩
     show Ob.mat 3 _ _ = Ob.mat 3 (ixQ ((k+1) + 1) N) (cRS (firP m a ((k+1) + 1)))
     conv => rhs; rw [firP_next m a ((k+1)), ixQ_snoc, ← v3]
     first | rfl | (rw [cRS_len, firP_len]; rfl)
  ·have h : k + 1 = N := by simp only [decide_eq_false_iff_not] at h; omega
   subst h
   conv => whnf
   exact ⟨⟨rfl, rfl, rfl, rfl, rfl⟩, _, rfl, trivial, rfl⟩
theorem fn_sChain (m : Mo) (hm : m.Ok) (acts : List Bool) (ha : acts.length = m.room) : Fn Tryz.prog 71 [moP m, lBo acts] [] (mS (chainP m (acts.getD · false))) [] := by
 have := (fn_sChain0 m hm acts ha).freezeMA (by rw [ixQ_len]; omega) (matInS_ixQ (chainP_len _ _) (chainP_sq _ _))
 rwa [matDS_ixQ (chainP_len _ _) (chainP_sq _ _), List.drop_zero, List.take_of_length_le (by rw [cMS_len, chainP_len]; omega)] at this
end Go.V
namespace Go.V
open Go.Proofs Go.RowKit
set_option maxRecDepth 10000
set_option maxHeartbeats 1000000
def polO (r : Int) (a b c d : List UInt8) (acts : List Bool) : Option Tss := (actQ r a b c d acts).bind fun m => toldC (chainP m (acts.getD · false))
theorem chainP_in {m : Mo} (h : m.Ok) (a : Nat → Bool) : 1 ≤ (chainP m a).length ∧ (chainP m a).length ≤ 1000000 ∧ (∀ r, r ∈ chainP m a → r.length ≤ 1000000) ∧ ∀ r, r ∈ chainP m a → ∀ q, q ∈ r → sz q ≤ 100000000000 := by
 have r2 := h.r2
 refine ⟨by rw [chainP_len]; omega, by rw [chainP_len]; omega, fun r hr => ?_, fun r hr q hq => ?_⟩
 ·obtain ⟨n, _, rfl⟩ := List.mem_map.1 hr
  rw [rowP_len]; omega
 ·obtain ⟨n, hn, rfl⟩ := List.mem_map.1 hr
  obtain ⟨j, hj, rfl⟩ := List.mem_map.1 hq
  have := entP_sz h a (n := n) (j := j) (by simpa using hn) (by simpa using hj)
  omega
theorem fn_PolicyChain (r : Int) (a b c d : List UInt8) (hi : MdIn a b c d) (acts : List Bool) : Fn Tryz.prog 27 [mdI r a b c d, lBo acts] [] (ansC (polO r a b c d acts)).1 (ansC (polO r a b c d acts)).2 := by
 have c1 := fn_withActs r a b c d hi acts
 refine Fn.intro (ks := [0,1,2,4,5,6,7,15]) hty rfl rfl rfl rfl rfl ?_
 conv => whnf
 unfold polO
 cases hm : modQ r a b c d with
 | none =>
  rw [actQ_none hm]
  rw [hm, actQ_none hm] at c1
  refine VCall.of_data c1 (ndT fun _ => rfl) ?_
  conv => whnf
  exact ⟨rfl, trivial, rfl⟩
 | some m =>
  obtain ⟨hok, _⟩ := modQ_ok hm
  rw [actQ_some hm]
  rw [hm, actQ_some hm] at c1
  by_cases ha : acts.length = m.room
  case neg =>
   rw [if_neg ha] at c1 ⊢
   replace c1 : Fn Tryz.prog 66 [mdI r a b c d, lBo acts] [] (.tup [moI m, B false]) [] := c1
   refine VCall.of_data c1 (ndT fun _ => rfl) ?_
   conv => whnf
   exact ⟨rfl, trivial, rfl⟩
  rw [if_pos ha] at c1 ⊢
  replace c1 : Fn Tryz.prog 66 [mdI r a b c d, lBo acts] [] (.tup [moI m, B true]) [] := c1
  obtain ⟨g1, g2, g3, g4⟩ := chainP_in hok (acts.getD · false)
  have c2 := fn_chain m hok acts ha
  have c3 := fn_toldChain _ g1 g2 g3 g4
  rw [show ((some m).bind fun m => toldC (chainP m (acts.getD · false))) = toldC (chainP m (acts.getD · false)) from rfl]
  refine VCall.of_data c1 (ndT fun _ => rfl) ?_
  conv => whnf
  refine VCall.of_data c2 (nd _) ?_
  conv => whnf
  cases h4 : toldC (chainP m (acts.getD · false)) with
  | none =>
   rw [h4] at c3
   refine VCall.of_data c3 (ndT fun _ => rfl) ?_
   conv => whnf
   first | exact ⟨rfl, trivial, rfl⟩ | exact ⟨rfl, rfl, trivial, rfl⟩
  | some ts =>
   rw [h4] at c3
   refine VCall.of_fn (k := 20) c3 (namesTC (fun e => by cases e)) rfl ?_
   conv => whnf
   exact ⟨⟨rfl, rfl, rfl, rfl, rfl⟩, _, rfl, rfl, trivial, rfl⟩
theorem fn_sPolicyChain (r : Int) (a b c d : List UInt8) (hi : MdIn a b c d) (acts : List Bool) : Fn Tryz.prog 26 [mdI r a b c d, lBo acts] [] (ansC (polO r a b c d acts)).1 (ansC (polO r a b c d acts)).2 := by
 have c1 := fn_l09Acts r a b c d hi acts
 refine Fn.intro (ks := [0,1,2,4,5,6,7,8,15]) hty rfl rfl rfl rfl rfl ?_
 conv => whnf
 refine VCall.thaw 2 (cs := [.s (.int .i64 r), .s (.string ⟨a.toArray⟩), .s (.string ⟨b.toArray⟩), .s (.string ⟨c.toArray⟩), .s (.string ⟨d.toArray⟩)]) rfl ?_
 unfold polO
 cases hm : modQ r a b c d with
 | none =>
  rw [actQ_none hm]
  rw [hm, actQ_none hm] at c1
  refine VCall.of_data c1 (ndT fun _ => rfl) ?_
  conv => whnf
  exact ⟨rfl, trivial, rfl⟩
 | some m =>
  obtain ⟨hok, _⟩ := modQ_ok hm
  rw [actQ_some hm]
  rw [hm, actQ_some hm] at c1
  by_cases ha : acts.length = m.room
  case neg =>
   rw [if_neg ha] at c1 ⊢
   replace c1 : Fn Tryz.prog 62 [mdP r a b c d, lBo acts] [] (.tup [moS m, B false]) [] := c1
   refine VCall.of_data c1 (ndT fun _ => rfl) ?_
   conv => whnf
   exact ⟨rfl, trivial, rfl⟩
  rw [if_pos ha] at c1 ⊢
  replace c1 : Fn Tryz.prog 62 [mdP r a b c d, lBo acts] [] (.tup [moS m, B true]) [] := c1
  obtain ⟨g1, g2, g3, g4⟩ := chainP_in hok (acts.getD · false)
  have c2 := fn_sChain m hok acts ha
  have c3 := fn_sGiveM _ g1 g2 g3 g4
  rw [show ((some m).bind fun m => toldC (chainP m (acts.getD · false))) = toldC (chainP m (acts.getD · false)) from rfl]
  refine VCall.of_data c1 (ndT fun _ => rfl) ?_
  conv => whnf
  refine VCall.thaw 6 (cs := moC m) rfl ?_
  refine VCall.of_data c2 (ndA fun k => rfl) ?_
  conv => whnf
  refine VCall.thaw 8 (cs := [.sl (cMS (chainP m (acts.getD · false)))]) rfl ?_
  cases h4 : toldC (chainP m (acts.getD · false)) with
  | none =>
   rw [h4] at c3
   refine VCall.of_data c3 (ndT fun _ => rfl) ?_
   conv => whnf
   first | exact ⟨rfl, trivial, rfl⟩ | exact ⟨rfl, rfl, trivial, rfl⟩
  | some ts =>
   rw [h4] at c3
   refine VCall.of_fn (k := 19) c3 (namesTC (fun e => by cases e)) rfl ?_
   conv => whnf
   exact ⟨⟨rfl, rfl, rfl, rfl, rfl⟩, _, rfl, rfl, trivial, rfl⟩
theorem polO_in {r : Int} {a b c d : List UInt8} {acts : List Bool} {ts : Tss} (h : polO r a b c d acts = some ts) : ts.length ≤ 12 ∧ (∀ i, i < ts.length → (ts.map List.length).getD i 0 ≤ 12) ∧ (∀ r, r ∈ ts → r.length ≤ 12) ∧ (ts.map List.length).sum ≤ 144 := by
 unfold polO at h
 cases hq : actQ r a b c d acts with
 | none => rw [hq] at h; cases h
 | some m =>
  rw [hq] at h
  replace h : toldC (chainP m (acts.getD · false)) = some ts := h
  have hm := (actQ_ok hq).1
  obtain ⟨h1, h2⟩ := toldC_len h
  have r2 := hm.r2
  rw [chainP_len] at h1
  have h3 : ∀ i, i < ts.length → (ts.map List.length).getD i 0 ≤ 12 := fun i hi => by
   rw [h2 i hi, chainP_sq _ _ i (by omega)]; omega
  have h4 := lsum_le (m := 12) (ts.map List.length) fun i hi => h3 i (by simpa using hi)
  rw [List.length_map] at h4
  have h5 : ts.length * 12 ≤ 12 * 12 := Nat.mul_le_mul_right _ (by omega)
  refine ⟨by omega, h3, fun r hr => ?_, by omega⟩
  obtain ⟨i, hi, e⟩ := List.mem_iff_getElem.1 hr
  have := h3 i hi
  rw [List.getD_eq_getElem?_getD, List.getElem?_eq_getElem (by simpa using hi)] at this
  simp [e] at this
  exact this
theorem law_policyChain (r : Int) (a b c d : List UInt8) (acts : List Bool) (ha : a.length < 2 ^ 47) (hb : b.length < 2 ^ 47) (hc : c.length < 2 ^ 47) (hd : d.length < 2 ^ 47) (hx : acts.length < 2 ^ 47) : Fn Tryz.prog 5 [mdI r a b c d, lBo acts] [] (B true) [] := by
 have hz : ((cBo acts).length : Int) = acts.length := by rw [cBo_len]
 have c0 := fn_szModel r a b c d (1000000 - acts.length) ha hb hc hd (by omega) (by omega)
 have cm := fn_toModel r a b c d
 refine Fn.intro (ks := [0,1,2,4,5,6,7,8,9,10,11,12,13,14,15,23,49,54,70,78,81,98,103,106]) hty rfl rfl rfl rfl rfl ?_
 conv => whnf
 rw [hz]
 refine Wr.i64 (y := 1000000 - (acts.length : Int)) rfl (by omega) (by omega) ?_
 conv => whnf
 refine VCall.of_data c0 (nd _) ?_
 obtain ⟨m, em⟩ : ∃ m, szMd (1000000 - acts.length) a b c d = m := ⟨_, rfl⟩
 rw [em]
 conv => whnf
 refine Br.mk (fun h => ?_) (fun h => ?_)
 ·conv => whnf
  exact ⟨rfl, trivial, rfl⟩
 ·have h : 0 ≤ m := by simpa using h
  have hi := szMd_in (em ▸ h) (by omega)
  have hl : acts.length ≤ 1000000 := by
   rw [← em] at h
   unfold szMd at h
   split at h
   ·omega
   ·omega
  have cs := fn_sPolicyChain r a b c d hi acts
  have ci := fn_PolicyChain r a b c d hi acts
  have ct := fn_toBo acts false (.inl rfl) hl
  have cx := fn_intactBo acts hl
  have ck := fn_markBo (withRoomB acts) acts.length 101 (by simp [withRoomB]) hl (by omega)
  obtain ⟨zm, ezm⟩ : ∃ z : Int, ((101 + acts.length : Nat) : Int) = z := ⟨_, rfl⟩
  have dzm : decide (zm < 0) = false := decide_eq_false (by omega)
  rw [ezm] at ck
  clear c0 em ezm
  conv => whnf
  refine VCall.of_data cm (ndA fun k => rfl) ?_
  conv => whnf
  refine VCall.of_data (fn_toBod acts false hl) (nd _) ?_
  conv => whnf
  cases hr : polO r a b c d acts with
  | none =>
   rw [hr] at cs ci
   replace cs : Fn Tryz.prog 26 [mdI r a b c d, lBo acts] [] (.tup [chI [], B false]) [] := cs
   replace ci : Fn Tryz.prog 27 [mdI r a b c d, lBo acts] [] (.tup [chI [], B false]) [] := ci
   have ce := fn_eqChain [] (by decide) (fun r hr => by cases hr)
   have ch := fn_heldChain [] 101 (by decide) (fun i h => by cases h) (by decide)
   refine VCall.of_data cs (ndT fun _ => rfl) ?_
   conv => whnf
   refine VCall.of_fn (k := 33) ct namesBo rfl ?_
   conv => whnf
   refine VCall.of_data cm (ndA fun k => rfl) ?_
   conv => whnf
   refine VCall.lendN (k := 38) ci ⟨⟨rfl, rfl, rfl, rfl, rfl, trivial⟩, lend_roomBo rfl, trivial⟩ trivial agN_any (fun j hj => by cases hj) rfl ?_
   conv => whnf
   refine VCall.of_data ce (nd _) ?_
   conv => whnf
   refine VCall.of_fn (k := 52) ct namesBo rfl ?_
   conv => whnf
   refine VCall.parN [(1000000, 33), (1000001, 52)] cx ⟨⟨rfl, rfl, rfl, rfl⟩, ⟨rfl, rfl, rfl, rfl⟩, trivial⟩ ⟨⟨rfl, rfl⟩, ⟨rfl, rfl⟩, trivial⟩ rfl rfl rfl rfl ?_
   conv => whnf
   refine VCall.par1 33 ck ⟨⟨rfl, rfl, rfl, rfl⟩, rfl, trivial⟩ rfl ?_
   conv => whnf
   rw [dzm]
   conv => whnf
   refine VCall.of_data ce (nd _) ?_
   conv => whnf
   refine VCall.of_data (fn_markC0 101) (nd _) ?_
   conv => whnf
   refine VCall.of_data ch (nd _) ?_
   conv => whnf
   refine VCall.of_data cm (ndA fun k => rfl) ?_
   conv => whnf
   refine VCall.of_data (fn_toBod acts true hl) (nd _) ?_
   conv => whnf
   refine VCall.of_data ci (ndT fun _ => rfl) ?_
   conv => whnf
   refine VCall.of_data ce (nd _) ?_
   conv => whnf
   refine VCall.of_data ch (nd _) ?_
   conv => whnf
   exact ⟨rfl, trivial, rfl⟩
  | some ts =>
   rw [hr] at cs ci
   replace cs : Fn Tryz.prog 26 [mdI r a b c d, lBo acts] [] (.tup [.ag [.ls 0 0 ts.length 1], B true]) [(0, tldO ts)] := cs
   replace ci : Fn Tryz.prog 27 [mdI r a b c d, lBo acts] [] (.tup [.ag [.ls 0 0 ts.length 1], B true]) [(0, tldO ts)] := ci
   obtain ⟨g1, g2, g3, g4⟩ := polO_in hr
   have ce := fn_eqChain ts (by omega) (fun r hr => by have := g3 r hr; omega)
   have cg := fn_markChain ts (ts.map List.length) ts.length 101 (by simp) (by simp) (by omega) (fun i hi2 => by
    refine ⟨?_, by have := g2 i hi2; omega⟩
    rw [List.getD_eq_getElem?_getD, List.getD_eq_getElem?_getD, List.getElem?_eq_getElem (by simpa using hi2), List.getElem?_eq_getElem hi2]; simp) (by rw [List.take_of_length_le (by simp)]; omega)
   rw [List.take_of_length_le (by simp), mkR_all] at cg
   have ch := fn_heldChain (ts.map List.length) 101 (by simp; omega) (fun i hi2 => by have := g2 i (by simpa using hi2); omega) (by omega)
   obtain ⟨z2, ez2⟩ : ∃ z : Int, ((101 + (ts.map List.length).sum : Nat) : Int) = z := ⟨_, rfl⟩
   have hz2 : 0 ≤ z2 := by omega
   have dz2 : decide (z2 < 0) = false := decide_eq_false (by omega)
   rw [ez2] at cg ch
   refine VCall.of_fn (k := 29) cs (namesTC (fun e => by cases e)) rfl ?_
   conv => whnf
   refine VCall.of_fn (k := 33) ct namesBo rfl ?_
   conv => whnf
   refine VCall.of_data cm (ndA fun k => rfl) ?_
   conv => whnf
   refine VCall.lendN (k := 38) ci ⟨⟨rfl, rfl, rfl, rfl, rfl, trivial⟩, lend_roomBo rfl, trivial⟩ ⟨told_flat ts, trivial⟩ agT_any (namesTC (fun e => by cases e)) rfl ?_
   conv => whnf
   refine VCall.lend ce ⟨lend_told rfl, lend_told rfl, trivial⟩ rfl ?_
   conv => whnf
   refine VCall.of_fn (k := 52) ct namesBo rfl ?_
   conv => whnf
   refine VCall.parN [(1000000, 33), (1000001, 52)] cx ⟨⟨rfl, rfl, rfl, rfl⟩, ⟨rfl, rfl, rfl, rfl⟩, trivial⟩ ⟨⟨rfl, rfl⟩, ⟨rfl, rfl⟩, trivial⟩ rfl rfl rfl rfl ?_
   conv => whnf
   refine VCall.par1 33 ck ⟨⟨rfl, rfl, rfl, rfl⟩, rfl, trivial⟩ rfl ?_
   conv => whnf
   rw [dzm]
   conv => whnf
   refine VCall.lend ce ⟨lend_told rfl, lend_told rfl, trivial⟩ rfl ?_
   conv => whnf
   refine VCall.parN [(1000000, 38)] cg ⟨⟨⟨rfl, rfl, rfl, rfl⟩, trivial⟩, rfl, trivial⟩ ⟨⟨rfl, rfl⟩, trivial⟩ rfl rfl rfl rfl ?_
   conv => whnf
   refine VCall.lend ch ⟨lend_mark (by simp) rfl, rfl, trivial⟩ rfl ?_
   conv => whnf
   rw [dz2]
   conv => whnf
   rw [decide_eq_true (rfl : z2 = z2)]
   conv => whnf
   refine VCall.of_data cm (ndA fun k => rfl) ?_
   conv => whnf
   refine VCall.of_data (fn_toBod acts true hl) (nd _) ?_
   conv => whnf
   refine VCall.of_fn (k := 87) ci (namesTC (fun e => by cases e)) rfl ?_
   conv => whnf
   refine VCall.lend ce ⟨lend_told rfl, lend_told rfl, trivial⟩ rfl ?_
   conv => whnf
   refine VCall.lend ch ⟨lend_mark (by simp) rfl, rfl, trivial⟩ rfl ?_
   conv => whnf
   rw [dz2]
   conv => whnf
   rw [decide_eq_true (rfl : z2 = z2)]
   conv => whnf
   exact ⟨rfl, trivial, rfl⟩
end Go.V
