/- Part 8: the abstract machine, its soundness, contracts of functions. -/
import Derived.Test.YtkamaadnickhpaaGreatDoorK7
import Derived.Test.YtkamaadnickhpaaGreatDoorK4
set_option linter.unusedVariables false
set_option linter.unusedSimpArgs false
namespace Go.V
abbrev Mt := List (List Rat)
def ent (p : Mt) (i j : Nat) : Rat := (p.getD i []).getD j 0
def stepAt (p : Mt) (w : List Rat) (j k : Nat) : Rat := sN k fun i => w.getD i 0 * ent p i j
def stepQ (p : Mt) (w : List Rat) : List Rat := (List.range w.length).map fun j => stepAt p w j w.length
theorem stepQ_len (p : Mt) (w : List Rat) : (stepQ p w).length = w.length := by simp [stepQ]
def afterQ (p : Mt) : Nat → List Rat → List Rat
 | 0, w => w
 | k + 1, w => stepQ p (afterQ p k w)
theorem getD_mem {α : Type} {xs : List α} {i : Nat} {d : α} (h : i < xs.length) : xs.getD i d ∈ xs := by
 rw [List.getD_eq_getElem?_getD, List.getElem?_eq_getElem h]; exact List.getElem_mem h
theorem stepQ_at {p : Mt} {w : List Rat} {j : Nat} (h : j < w.length) : (stepQ p w).getD j 0 = stepAt p w j w.length := by
 rw [List.getD_eq_getElem?_getD, List.getElem?_eq_getElem (by rw [stepQ_len]; exact h)]; simp [stepQ]
structure MtOk (p : Mt) : Prop where
 n1 : 1 ≤ p.length
 n2 : p.length ≤ 12
 sq : ∀ r, r ∈ p → r.length = p.length
 pos : ∀ r, r ∈ p → ∀ q, q ∈ r → 0 ≤ q
 sz : ∀ r, r ∈ p → ∀ q, q ∈ r → Go.V.sz q ≤ 800
 one : ∀ r, r ∈ p → sN r.length (r.getD · 0) = 1
theorem MtOk.ent_mem {p : Mt} (h : MtOk p) {i j : Nat} (hi : i < p.length) (hj : j < p.length) : p.getD i [] ∈ p ∧ ent p i j ∈ p.getD i [] := by
 have h1 : p.getD i [] ∈ p := getD_mem hi
 exact ⟨h1, getD_mem (by rw [h.sq _ h1]; exact hj)⟩
theorem MtOk.ent_pos {p : Mt} (h : MtOk p) {i j : Nat} (hi : i < p.length) (hj : j < p.length) : 0 ≤ ent p i j := h.pos _ (h.ent_mem hi hj).1 _ (h.ent_mem hi hj).2
theorem MtOk.ent_sz {p : Mt} (h : MtOk p) {i j : Nat} (hi : i < p.length) (hj : j < p.length) : Go.V.sz (ent p i j) ≤ 800 := h.sz _ (h.ent_mem hi hj).1 _ (h.ent_mem hi hj).2
theorem MtOk.row_one {p : Mt} (h : MtOk p) {i : Nat} (hi : i < p.length) : sN p.length (ent p i) = 1 := by
 have h1 : p.getD i [] ∈ p := getD_mem hi
 have h2 := h.one _ h1
 rw [h.sq _ h1] at h2
 exact h2
theorem MtOk.ent_le {p : Mt} (h : MtOk p) {i j : Nat} (hi : i < p.length) (hj : j < p.length) : ent p i j ≤ 1 := by
 rw [← h.row_one hi]
 exact sN_one_le (f := ent p i) hj fun k hk => h.ent_pos hi hk
def dM (p : Mt) : Nat := dens p.flatten
theorem dM_pos (p : Mt) : dM p ≠ 0 := dens_pos _
theorem flat_len {m : Nat} : ∀ {p : Mt}, (∀ r, r ∈ p → r.length = m) → p.flatten.length = p.length * m
 | [], _ => by simp
 | r :: p, h => by
  have h1 := flat_len (p := p) fun r hr => h r (List.mem_cons_of_mem _ hr)
  rw [List.flatten_cons, List.length_append, h1, h r (by simp), List.length_cons, Nat.succ_mul, Nat.add_comm]
theorem MtOk.dM_bl {p : Mt} (h : MtOk p) : bl (dM p) ≤ 115201 := by
 have h1 := dens_bl (xs := p.flatten) (m := 800) fun q hq => by
  obtain ⟨r, hr, hq⟩ := List.mem_flatten.1 hq
  exact h.sz r hr q hq
 rw [flat_len h.sq] at h1
 have h2 : p.length * p.length ≤ 12 * 12 := Nat.mul_le_mul h.n2 h.n2
 have h3 : p.length * p.length * 800 ≤ 144 * 800 := Nat.mul_le_mul_right _ h2
 unfold dM
 omega
theorem MtOk.ent_iz {p : Mt} (h : MtOk p) {i j : Nat} (hi : i < p.length) (hj : j < p.length) : Iz (dM p) (ent p i j) :=
 (Iz.den _).of_dvd (dens_dvd (List.mem_flatten.2 ⟨_, (h.ent_mem hi hj).1, (h.ent_mem hi hj).2⟩))
def Wk (n s : Nat) (w : List Rat) : Prop := w.length = n ∧ ∃ E M : Nat, E ≠ 0 ∧ bl M + bl E ≤ s ∧ ∀ q, q ∈ w → 0 ≤ q ∧ q ≤ ((M : Int) : Rat) ∧ Iz E q
theorem Iz.sz2 {E M : Nat} {a : Rat} (h : Iz E a) (hE : E ≠ 0) (h0 : 0 ≤ a) (h1 : a ≤ ((M : Int) : Rat)) : Go.V.sz a ≤ bl M + bl E := by
 have h2 := h.sz hE h0 M h1
 have h3 := bl_mul M E
 omega
theorem Wk.sz {n s : Nat} {w : List Rat} (h : Wk n s w) {q : Rat} (hq : q ∈ w) : Go.V.sz q ≤ s := by
 obtain ⟨_, E, M, h1, h2, h3⟩ := h
 obtain ⟨h4, h5, h6⟩ := h3 q hq
 have := h6.sz2 h1 h4 h5
 omega
theorem Wk.pos {n s : Nat} {w : List Rat} (h : Wk n s w) {q : Rat} (hq : q ∈ w) : 0 ≤ q := by
 obtain ⟨_, E, M, h1, h2, h3⟩ := h
 exact (h3 q hq).1
theorem step_part {p : Mt} (hp : MtOk p) {s : Nat} {w : List Rat} (h : Wk p.length s w) :
  ∃ E M : Nat, E ≠ 0 ∧ bl M + bl E ≤ s + 115210 ∧ ∀ j k, j < p.length → k ≤ p.length → 0 ≤ stepAt p w j k ∧ stepAt p w j k ≤ ((M : Int) : Rat) ∧ Iz E (stepAt p w j k) := by
 obtain ⟨hl, E, M, h1, h2, h3⟩ := h
 have hb := hp.dM_bl
 have h12 : bl (p.length * M) ≤ 4 + bl M := by
  have h4 := bl_mul p.length M
  have h5 : bl p.length ≤ 4 := bl_le (by have := hp.n2; omega)
  omega
 have h6 := bl_mul E (dM p)
 refine ⟨E * dM p, p.length * M, Nat.mul_ne_zero h1 (dM_pos p), by omega, fun j k hj hk => ?_⟩
 have hm : ∀ i, i < p.length → 0 ≤ w.getD i 0 ∧ w.getD i 0 ≤ ((M : Int) : Rat) ∧ Iz E (w.getD i 0) := fun i hi => h3 _ (getD_mem (by omega))
 have t0 : ∀ i, i < p.length → 0 ≤ w.getD i 0 * ent p i j := fun i hi => Rat.mul_nonneg (hm i hi).1 (hp.ent_pos hi hj)
 refine ⟨sN_nonneg fun i hi => t0 i (by omega), ?_, sN_iz fun i hi => (hm i (by omega)).2.2.mul (hp.ent_iz (by omega) hj)⟩
 refine Rat.le_trans (sN_mono hk t0) (sN_const_le fun i hi => ?_)
 have h7 := Rat.mul_le_mul_of_nonneg_left (hp.ent_le hi hj) (hm i hi).1
 rw [Rat.mul_one] at h7
 exact Rat.le_trans h7 (hm i hi).2.1
theorem step_sz {p : Mt} (hp : MtOk p) {s : Nat} {w : List Rat} (h : Wk p.length s w) {j k : Nat} (hj : j < p.length) (hk : k ≤ p.length) : sz (stepAt p w j k) ≤ s + 115210 := by
 obtain ⟨E, M, h1, h2, h3⟩ := step_part hp h
 obtain ⟨h4, h5, h6⟩ := h3 j k hj hk
 have := h6.sz2 h1 h4 h5
 omega
theorem Wk.step {p : Mt} (hp : MtOk p) {s : Nat} {w : List Rat} (h : Wk p.length s w) : Wk p.length (s + 115210) (stepQ p w) := by
 obtain ⟨E, M, h1, h2, h3⟩ := step_part hp h
 refine ⟨by rw [stepQ_len, h.1], E, M, h1, h2, fun q hq => ?_⟩
 obtain ⟨j, hj, rfl⟩ := List.mem_map.1 hq
 rw [h.1] at hj ⊢
 exact h3 j p.length (by simpa using hj) (Nat.le_refl _)
theorem Wk.after {p : Mt} (hp : MtOk p) {s : Nat} {w : List Rat} (h : Wk p.length s w) : ∀ k, Wk p.length (s + k * 115210) (afterQ p k w)
 | 0 => by rw [Nat.zero_mul]; exact h
 | k + 1 => by
  have := (Wk.after hp h k).step hp
  rwa [Nat.add_assoc, ← Nat.succ_mul] at this
def pointQ (n i : Nat) : List Rat := (List.range n).map fun j => if j = i then 1 else 0
theorem pointQ_len (n i : Nat) : (pointQ n i).length = n := by simp [pointQ]
theorem pointQ_at {n i j : Nat} (h : j < n) : (pointQ n i).getD j 0 = if j = i then 1 else 0 := by
 rw [List.getD_eq_getElem?_getD, List.getElem?_eq_getElem (by rw [pointQ_len]; exact h)]; simp [pointQ]
theorem pointQ_wk (n i : Nat) : Wk n 2 (pointQ n i) := by
 refine ⟨pointQ_len n i, 1, 1, by decide, by decide, fun q hq => ?_⟩
 obtain ⟨j, _, rfl⟩ := List.mem_map.1 hq
 by_cases h : j = i
 ·rw [if_pos h]; exact ⟨by decide, by decide, Iz.one 1⟩
 ·rw [if_neg h]; exact ⟨by decide, by decide, Iz.zero 1⟩
theorem list_getD_ext {xs ys : List Rat} (hl : xs.length = ys.length) (h : ∀ i, i < xs.length → xs.getD i 0 = ys.getD i 0) : xs = ys := by
 apply List.ext_getElem hl
 intro i h1 h2
 have := h i h1
 rwa [List.getD_eq_getElem?_getD, List.getD_eq_getElem?_getD, List.getElem?_eq_getElem h1, List.getElem?_eq_getElem h2] at this
theorem step_point {p : Mt} (hp : MtOk p) {i : Nat} (hi : i < p.length) : stepQ p (pointQ p.length i) = p.getD i [] := by
 have h1 : p.getD i [] ∈ p := getD_mem hi
 apply list_getD_ext (by rw [stepQ_len, pointQ_len, hp.sq _ h1])
 intro j hj
 rw [stepQ_len, pointQ_len] at hj
 rw [stepQ_at (by rw [pointQ_len]; exact hj), pointQ_len]
 unfold stepAt
 have : (sN p.length fun k => (pointQ p.length i).getD k 0 * ent p k j) = sN p.length fun k => if k = i then ent p k j else 0 := sN_congr fun k hk => by
  rw [pointQ_at hk]
  by_cases h : k = i
  ·rw [if_pos h, if_pos h, Rat.one_mul]
  ·rw [if_neg h, if_neg h, Rat.zero_mul]
 rw [this, sN_delta p.length i (fun k => ent p k j), if_pos hi]
 rfl
end Go.V
namespace Go.V
open Go.Proofs Go.RowKit
set_option maxRecDepth 10000
set_option maxHeartbeats 1000000
theorem cmpZ_zero' {a b : Nat} : cmpZ a b = 0 ↔ a = b := by
 unfold cmpZ; split
 ·simp; omega
 ·split
  ·simp; omega
  ·simp; omega
theorem fn_sEqual (p q : Rat) (hp : sz p ≤ 10000000000) (hq : sz q ≤ 10000000000) : Fn Tryz.prog 134 [rS p, rS q] [] (B (decide (p = q))) [] := by
 have b1 := bl_tp p
 have b2 := bl_den p
 have b3 := bl_tp q
 have b4 := bl_den q
 have k1 := bl_mul (tp p) q.den
 have k2 := bl_mul (tp q) p.den
 have m1 := fn_sMul (tp p) q.den (by omega) (by omega)
 have m2 := fn_sMul (tp q) p.den (by omega) (by omega)
 have cc := fn_sCmp (tp p * q.den) (tp q * p.den) (by omega) (by omega)
 obtain ⟨c, ec⟩ : ∃ x, cmpZ (tp p * q.den) (tp q * p.den) = x := ⟨_, rfl⟩
 have e := eq_cross p q
 rw [← cmpZ_zero', ec] at e
 rw [ec] at cc
 refine Fn.intro (ks := [0,1,2,3,4]) hty rfl rfl rfl rfl rfl ?_
 conv => whnf
 refine VDraw.go hmo hty 20 [] rfl ?_
 conv => whnf
 by_cases h : ng p = ng q
 ·rw [show (ng p == ng q) = true by simpa using h]
  conv => whnf
  refine QCall.of_data m1 (nd _) ?_
  conv => whnf
  refine QCall.of_data m2 (nd _) ?_
  conv => whnf
  refine QCall.of_data cc (nd _) ?_
  conv => whnf
  exact ⟨by rw [decide_eq_decide.2 (show p = q ↔ c = 0 from e.trans ⟨fun x => x.2, fun x => ⟨h, x⟩⟩)], trivial, rfl⟩
 ·rw [show (ng p == ng q) = false by simpa using h]
  conv => whnf
  exact ⟨by rw [decide_eq_false (fun x => h (e.1 x).1)], trivial, rfl⟩
theorem sz_sN {m n : Nat} {f : Nat → Rat} (h : ∀ i, i < n → sz (f i) ≤ m) : ∀ k, k ≤ n → sz (sN k f) ≤ k * (m + 1) + 1
 | 0, _ => by show sz (0 : Rat) ≤ _; exact Nat.le_trans (by decide : sz (0 : Rat) ≤ 1) (by omega)
 | k + 1, hk => by
  show sz (sN k f + f k) ≤ _
  have h1 := sz_add (sN k f) (f k)
  have h2 := sz_sN h k (by omega)
  have h3 := h k (by omega)
  have : (k + 1) * (m + 1) = k * (m + 1) + (m + 1) := Nat.succ_mul _ _
  omega
theorem psum_sN (xs : List Rat) : ∀ k, psum xs k = sN k (xs.getD · 0)
 | 0 => rfl
 | k + 1 => by show psum xs k + _ = sN k _ + _; rw [psum_sN xs k]
theorem rsum_sN (xs : List Rat) : rsum xs = sN xs.length (xs.getD · 0) := psum_sN xs _
end Go.V
namespace Go.V
open Go.Proofs Go.RowKit
set_option maxRecDepth 10000
set_option maxHeartbeats 1000000
theorem ng_lt (q : Rat) : ng q = decide (q < 0) := by
 unfold ng
 refine decide_eq_decide.2 ?_
 have h := Rat.num_nonneg (q := q)
 rw [← Rat.not_le, ← h]; omega
theorem sgI_negD (q : Rat) : decide (sgI q < 0) = decide (q < 0) := by
 rw [← ng_lt]
 unfold sgI
 by_cases h : tp q = 0
 ·rw [if_pos h]
  have : q = 0 := tp_zero.1 h
  subst this; rfl
 ·rw [if_neg h]
  cases ng q <;> rfl
def isW (x : List Rat) : Bool := (x.all fun q => !decide (q < 0)) && decide (rsum x = 1)
def wQ (xs : List (List UInt8)) : Option (List Rat) := match rdRats xs with
 | none => none
 | some x => if isW x then some x else none
theorem fn_weightsOf (xs : List (List UInt8)) (hl : xs.length ≤ 1000000) (hs : ∀ x, x ∈ xs → x.length ≤ 1000000) : Fn Tryz.prog 98 [lT xs] [] (.tup [lQ ((wQ xs).getD []), B (wQ xs).isSome]) [] := by
 have c1 := fn_rats xs (by omega) (fun x hx => by have := hs x hx; omega)
 refine Fn.intro (ks := [0,2,3,4,5,22]) hty rfl rfl rfl rfl rfl ?_
 cases h : rdRats xs with
 | none =>
  rw [h] at c1
  rw [show wQ xs = none by unfold wQ; rw [h]]
  conv => whnf
  refine VCall.of_data c1 (ndT fun _ => rfl) ?_
  conv => whnf
  exact ⟨rfl, trivial, rfl⟩
 | some x =>
  obtain ⟨l1, l2, l3⟩ := rdRats_sz h
  rw [h] at c1
  replace c1 : Fn Tryz.prog 141 [lT xs] [] (.tup [lQ x, B true]) [] := c1
  have c2 := fn_containsQ 143 (fun q => decide (sgI q < 0)) x (by omega) (fun q hq => fn_isMinus q (by have := l3 q hq; omega))
  have hm : x.length * 801 ≤ 300 * 801 := Nat.mul_le_mul_right _ l1
  have c3 := fn_sum x 800 l3 (by decide) (by omega) (by omega)
  have z3 := sz_psum l3 (by decide) x.length
  have c4 := fn_isOne (rsum x) (by show sz (psum x x.length) ≤ _; omega)
  have e : (x.any fun q => decide (sgI q < 0)) = !(x.all fun q => !decide (q < 0)) := by
   rw [List.not_all_eq_any_not]
   congr 1
   funext q
   rw [Bool.not_not]; exact sgI_negD q
  rw [e] at c2
  obtain ⟨b1, e1⟩ : ∃ b, (x.all fun q => !decide (q < 0)) = b := ⟨_, rfl⟩
  obtain ⟨b2, e2⟩ : ∃ b, decide (rsum x = 1) = b := ⟨_, rfl⟩
  have hw : wQ xs = if (b1 && b2) = true then some x else none := by unfold wQ isW; rw [h, ← e1, ← e2]
  rw [e1] at c2
  rw [e2] at c4
  rw [hw]
  conv => whnf
  refine VCall.of_data c1 (ndT fun _ => rfl) ?_
  conv => whnf
  refine VCall.of_data c2 (nd _) ?_
  conv => whnf
  cases b1 with
  | false =>
   conv => whnf
   exact ⟨rfl, trivial, rfl⟩
  | true =>
   conv => whnf
   refine VCall.of_data c3 (ndA fun k => rfl) ?_
   conv => whnf
   refine VCall.of_data c4 (nd _) ?_
   conv => whnf
   cases b2 with
   | false =>
    conv => whnf
    exact ⟨rfl, trivial, rfl⟩
   | true =>
    conv => whnf
    exact ⟨rfl, rfl, trivial, rfl⟩
theorem fn_sWeights (x : List Rat) (hn : x.length ≤ 1000) (hz : ∀ q, q ∈ x → sz q ≤ 800) : Fn Tryz.prog 85 [lS x] [] (B (isW x)) [] := by
 have c1 := fn_sPositive x (by omega)
 have hm : x.length * 801 ≤ 1000 * 801 := Nat.mul_le_mul_right _ hn
 have c2 := fn_sTotal x 800 hz (by decide) (by omega) (by omega)
 have z3 := sz_psum hz (by decide) x.length
 have c3 := fn_sEqual (rsum x) 1 (by show sz (psum x x.length) ≤ _; omega) (by decide)
 have e : (x.all fun q => !ng q) = (x.all fun q => !decide (q < 0)) := by
  congr 1; funext q; rw [ng_lt]
 rw [e] at c1
 refine Fn.intro (ks := [0,2]) hty rfl rfl rfl rfl rfl ?_
 unfold isW
 conv => whnf
 refine VCall.of_data c1 (nd _) ?_
 conv => whnf
 cases (x.all fun q => !decide (q < 0)) with
 | false =>
  conv => whnf
  exact ⟨rfl, trivial, rfl⟩
 | true =>
  conv => whnf
  refine VCall.of_data c2 (ndA fun k => rfl) ?_
  conv => whnf
  refine VCall.of_data fn_sOne (ndA fun k => rfl) ?_
  conv => whnf
  refine VCall.of_data c3 (nd _) ?_
  conv => whnf
  exact ⟨rfl, trivial, rfl⟩
def cTT (rows : List (List (List UInt8))) : List (List C) := rows.map fun r => [.sl (cT r)]
def cM (p : Mt) : List (List C) := p.map fun r => [.sl (cQ r)]
def cMS (p : Mt) : List (List C) := p.map fun r => [.sl (cS r)]
theorem cTT_len (p : List (List (List UInt8))) : (cTT p).length = p.length := by simp [cTT]
theorem cM_len (p : Mt) : (cM p).length = p.length := by simp [cM]
theorem cMS_len (p : Mt) : (cMS p).length = p.length := by simp [cMS]
theorem cTT_sz (p : List (List (List UInt8))) : ∀ r, r ∈ cTT p → r.length = 1 := by intro r hr; obtain ⟨n, _, rfl⟩ := List.mem_map.1 hr; rfl
theorem cM_sz (p : Mt) : ∀ r, r ∈ cM p → r.length = 1 := by intro r hr; obtain ⟨n, _, rfl⟩ := List.mem_map.1 hr; rfl
theorem cMS_sz (p : Mt) : ∀ r, r ∈ cMS p → r.length = 1 := by intro r hr; obtain ⟨n, _, rfl⟩ := List.mem_map.1 hr; rfl
theorem cTT_as {p : List (List (List UInt8))} {i : Nat} {x : List (List UInt8)} (h : i < p.length) (e : p.getD i [] = x) : (cTT p)[i]? = some [.sl (cT x)] := by
 subst e; rw [List.getD_eq_getElem?_getD, List.getElem?_eq_getElem h]; simp [cTT, h]
theorem cM_as {p : Mt} {i : Nat} {x : List Rat} (h : i < p.length) (e : p.getD i [] = x) : (cM p)[i]? = some [.sl (cQ x)] := by
 subst e; rw [List.getD_eq_getElem?_getD, List.getElem?_eq_getElem h]; simp [cM, h]
theorem cMS_as {p : Mt} {i : Nat} {x : List Rat} (h : i < p.length) (e : p.getD i [] = x) : (cMS p)[i]? = some [.sl (cS x)] := by
 subst e; rw [List.getD_eq_getElem?_getD, List.getElem?_eq_getElem h]; simp [cMS, h]
theorem cM_append1 (p : Mt) (x : List Rat) : cM p ++ [[.sl (cQ x)]] = cM (p ++ [x]) := by simp [cM]
theorem cMS_append1 (p : Mt) (x : List Rat) : cMS p ++ [[.sl (cS x)]] = cMS (p ++ [x]) := by simp [cMS]
abbrev lM (p : Mt) : AV := .d (.sl (cM p))
abbrev chI (rows : List (List (List UInt8))) : AV := .ag [.d (.sl (cTT rows))]
abbrev chP (rows : List (List (List UInt8))) : AV := .pp [.sl (cTT rows)] 0
abbrev mS (p : Mt) : AV := .ag [.d (.sl (cMS p))]
abbrev mP (p : Mt) : AV := .pp [.sl (cMS p)] 0
def rowQ (n : Nat) (r : List (List UInt8)) : Option (List Rat) := if r.length = n then wQ r else none
def chainL (n : Nat) : List (List (List UInt8)) → Option Mt
 | [] => some []
 | r :: rs => match rowQ n r with
  | none => none
  | some x => (chainL n rs).map (x :: ·)
def chainQ (rows : List (List (List UInt8))) : Option Mt := if rows.length < 1 ∨ 12 < rows.length then none else chainL rows.length rows
theorem wQ_len {r : List (List UInt8)} {x : List Rat} (h : wQ r = some x) : x.length = r.length ∧ (∀ q, q ∈ x → sz q ≤ 800) ∧ (∀ q, q ∈ x → 0 ≤ q) ∧ rsum x = 1 := by
 unfold wQ at h
 cases h2 : rdRats r with
 | none => rw [h2] at h; cases h
 | some y =>
  rw [h2] at h
  dsimp only at h
  split at h
  ·rename_i hw
   cases h
   obtain ⟨_, l2, l3⟩ := rdRats_sz h2
   unfold isW at hw
   rw [Bool.and_eq_true, List.all_eq_true, decide_eq_true_eq] at hw
   exact ⟨l2, l3, fun q hq => by have := hw.1 q hq; simp at this; exact Rat.not_lt.1 this, hw.2⟩
  ·cases h
theorem chainL_ok {n : Nat} : ∀ {rows : List (List (List UInt8))} {p : Mt}, chainL n rows = some p → p.length = rows.length ∧ ∀ r, r ∈ p → r.length = n ∧ (∀ q, q ∈ r → sz q ≤ 800) ∧ (∀ q, q ∈ r → 0 ≤ q) ∧ rsum r = 1
 | [], p, h => by cases h; exact ⟨rfl, fun r hr => (by cases hr)⟩
 | r :: rs, p, h => by
  unfold chainL at h
  cases h1 : rowQ n r with
  | none => rw [h1] at h; cases h
  | some x =>
   rw [h1] at h
   dsimp only at h
   cases h2 : chainL n rs with
   | none => rw [h2] at h; cases h
   | some q =>
    rw [h2] at h
    cases h
    obtain ⟨g1, g2⟩ := chainL_ok h2
    refine ⟨by simp [g1], fun s hs => ?_⟩
    rcases List.mem_cons.1 hs with rfl | hs
    ·unfold rowQ at h1
     split at h1
     ·rename_i hn
      obtain ⟨w1, w2⟩ := wQ_len h1
      exact ⟨w1.trans hn, w2⟩
     ·cases h1
    ·exact g2 s hs
theorem chainQ_ok {rows : List (List (List UInt8))} {p : Mt} (h : chainQ rows = some p) : MtOk p := by
 unfold chainQ at h
 split at h
 ·cases h
 ·rename_i hn
  obtain ⟨g1, g2⟩ := chainL_ok h
  exact ⟨by omega, by omega, fun r hr => by rw [(g2 r hr).1, g1], fun r hr => (g2 r hr).2.2.1, fun r hr => (g2 r hr).2.1, fun r hr => by rw [← rsum_sN]; exact (g2 r hr).2.2.2⟩
theorem chainL_step {n : Nat} {rows : List (List (List UInt8))} {i : Nat} {acc : Mt} {r : List (List UInt8)} (h : i < rows.length) (er : rows.getD i [] = r) (hI : chainL n rows = (chainL n (rows.drop i)).map (acc ++ ·)) :
  (rowQ n r = none → chainL n rows = none) ∧ ∀ x, rowQ n r = some x → chainL n rows = (chainL n (rows.drop (i + 1))).map ((acc ++ [x]) ++ ·) := by
 have e : rows.drop i = r :: rows.drop (i + 1) := by
  rw [List.drop_eq_getElem_cons h, ← er, List.getD_eq_getElem?_getD, List.getElem?_eq_getElem h]; rfl
 rw [e] at hI
 refine ⟨fun hn => by rw [hI, chainL, hn]; rfl, fun x hx => ?_⟩
 rw [hI, chainL, hx]
 dsimp only
 cases chainL n (rows.drop (i + 1)) with
 | none => rfl
 | some q => simp
theorem fn_chainOf (rows : List (List (List UInt8))) (hl : rows.length ≤ 1000000) (hr : ∀ r, r ∈ rows → r.length ≤ 1000000) (hs : ∀ r, r ∈ rows → ∀ x, x ∈ r → x.length ≤ 1000000) :
  Fn Tryz.prog 44 [chI rows] [] (.tup [lM ((chainQ rows).getD []), B (chainQ rows).isSome]) [] := by
 have hz : ((cTT rows).length : Int) = rows.length := by rw [cTT_len]
 refine Fn.intro (ks := [0,1,2,3,4,6,7,8,18,21,22,23,24,41]) hty rfl rfl rfl rfl rfl ?_
 conv => whnf
 rw [hz]
 refine Br.mk (fun h => ?_) (fun h => ?_)
 ·have h : rows.length < 1 := by simp only [decide_eq_true_eq] at h; omega
  rw [show chainQ rows = none by unfold chainQ; rw [if_pos (.inl h)]]
  conv => whnf
  exact ⟨rfl, trivial, rfl⟩
 ·have h1 : ¬ rows.length < 1 := by simp only [decide_eq_false_iff_not] at h; omega
  conv => whnf
  rw [hz]
  refine Br.mk (fun h => ?_) (fun h => ?_)
  ·have h : 12 < rows.length := by simp only [decide_eq_true_eq] at h; omega
   rw [show chainQ rows = none by unfold chainQ; rw [if_pos (.inr h)]]
   conv => whnf
   exact ⟨rfl, trivial, rfl⟩
  ·have h2 : ¬ 12 < rows.length := by simp only [decide_eq_false_iff_not] at h; omega
   have hq : chainQ rows = chainL rows.length rows := by unfold chainQ; rw [if_neg (by omega)]
   rw [hq]
   conv => whnf
   refine VLoop.ren 19 45 rfl ?_
   refine VLoop.inv hty (S := Mt × Nat) (fun x => [(23, I x.2), (22, I rows.length), (21, .d (.sl (cTT rows))), (4, .ls 45 0 x.2 1), (1, .lp 1 0)]) (fun x => [(45, .row true 1 (cM x.1)), (1, .box true [.d (.sl (cTT rows))])])
    (fun x => x.2 ≤ rows.length ∧ x.1.length = x.2 ∧ chainL rows.length rows = (chainL rows.length (rows.drop x.2)).map (x.1 ++ ·)) (fun x => rows.length - x.2) ([], 0) ⟨Nat.zero_le _, rfl, by rw [List.drop_zero]; cases chainL rows.length rows <;> simp⟩
    ⟨rfl, congrArg I hz, rfl, rfl, rfl, trivial⟩ ⟨rfl, rfl, trivial⟩ ?_
   intro x hx
   obtain ⟨g1, g2, g3⟩ := hx
   conv => whnf
   refine Br.mk (fun h => ?_) (fun h => ?_)
   ·have h : x.2 < rows.length := by simp only [decide_eq_true_eq] at h; omega
    obtain ⟨r, er⟩ : ∃ r, rows.getD x.2 [] = r := ⟨_, rfl⟩
    have hm : r ∈ rows := by rw [← er]; exact getD_mem h
    have c1 := fn_weightsOf r (hr r hm) (hs r hm)
    obtain ⟨s1, s2⟩ := chainL_step h er g3
    conv => whnf
    refine ⟨⟨⟨by omega, by rw [cTT_len]; omega⟩, cTT_sz _⟩, ?_⟩
    conv => whnf
    refine ⟨_, cTT_as h er, ?_⟩
    conv => whnf
    cases hw : wQ r with
    | none =>
     rw [hw] at c1
     refine VCall.of_data c1 (ndT fun _ => rfl) ?_
     conv => whnf
     rw [s1 (by unfold rowQ; rw [hw, ite_self])]
     exact ⟨rfl, trivial, rfl⟩
    | some y =>
     have hy := (wQ_len hw).1
     rw [hw] at c1
     replace c1 : Fn Tryz.prog 98 [lT r] [] (.tup [lQ y, B true]) [] := c1
     refine VCall.of_data c1 (ndT fun _ => rfl) ?_
     conv => whnf
     rw [hz, cQ_len]
     by_cases he : y.length = rows.length
     ·rw [decide_eq_true (show (y.length : Int) = rows.length by omega)]
      conv => whnf
      refine Sub.full rfl ?_
      conv => whnf
      refine Sub.full (by rw [cM_len, g2]) ?_
      conv => whnf
      refine ⟨by show (x.2 + 1) * 24 ≤ _; omega, ?_⟩
      conv => whnf
      refine Wr.i64 (y := ((x.2 + 1 : Nat) : Int)) rfl (by omega) (by omega) ?_
      conv => whnf
      refine ⟨(x.1 ++ [y], x.2 + 1), ⟨h, by simp [g2], s2 y (by unfold rowQ; rw [if_pos (by omega), hw])⟩, by show rows.length - (x.2 + 1) < rows.length - x.2; omega, ⟨rfl, rfl, rfl, rfl, rfl, trivial⟩, ?_, rfl, trivial⟩
      show Ob.row true 1 (cM x.1 ++ _) = _
      rw [cM_append1]
     ·rw [decide_eq_false (show ¬ (y.length : Int) = rows.length by omega)]
      rw [s1 (by unfold rowQ; rw [if_neg (by omega)])]
      conv => whnf
      exact ⟨rfl, trivial, rfl⟩
   ·have h : x.2 = rows.length := by simp only [decide_eq_false_iff_not] at h; omega
    rw [g3, h, List.drop_length]
    conv => whnf
    refine ⟨⟨rfl, by rw [cM_len, g2]; omega, ?_⟩, rfl, trivial, rfl⟩
    rw [List.drop_zero, List.take_of_length_le (by rw [cM_len, g2]; omega)]
    show cM x.1 = cM (x.1 ++ [])
    rw [List.append_nil]
end Go.V
namespace Go.V
open Go.Proofs Go.RowKit
set_option maxRecDepth 10000
set_option maxHeartbeats 1000000
def parL : Mt → LL
 | [] => [(5, .box true [.d (.s (.slice none 0 0))]), (2, .box true [.d (.s (.slice none 0 0))])]
 | y :: ys => [(200, .row true 1 (cMS (y :: ys))), (5, .box true [.ls 200 0 (ys.length + 1) 1]), (2, .box true [.d (.s (.slice none 0 0))])]
theorem fn_l03Parse (rows : List (List (List UInt8))) (hl : rows.length ≤ 1000000) (hr : ∀ r, r ∈ rows → r.length ≤ 1000000) (hs : ∀ r, r ∈ rows → ∀ x, x ∈ r → x.length ≤ 1000000) :
  Fn Tryz.prog 37 [chP rows] [] (.tup [mS ((chainQ rows).getD []), B (chainQ rows).isSome]) [] := by
 have hz : ((cTT rows).length : Int) = rows.length := by rw [cTT_len]
 refine Fn.intro (ks := [0,2,3,4,5,6,7,8,19,26,27,28,39,58]) hty rfl rfl rfl rfl rfl ?_
 conv => whnf
 rw [hz]
 refine Br.mk (fun h => ?_) (fun h => ?_)
 ·have h : rows.length < 1 := by simp only [decide_eq_true_eq] at h; omega
  rw [show chainQ rows = none by unfold chainQ; rw [if_pos (.inl h)]]
  conv => whnf
  exact ⟨rfl, trivial, rfl⟩
 ·have h1 : ¬ rows.length < 1 := by simp only [decide_eq_false_iff_not] at h; omega
  refine Br.mk (fun h => ?_) (fun h => ?_)
  ·have h : 12 < rows.length := by simp only [decide_eq_true_eq] at h; omega
   rw [show chainQ rows = none by unfold chainQ; rw [if_pos (.inr h)]]
   conv => whnf
   exact ⟨rfl, trivial, rfl⟩
  ·have h2 : ¬ 12 < rows.length := by simp only [decide_eq_false_iff_not] at h; omega
   have hq : chainQ rows = chainL rows.length rows := by unfold chainQ; rw [if_neg (by omega)]
   rw [hq]
   conv => whnf
   refine VLoop.invR hty (S := Mt) [(64, 200)] (fun acc => [(27, I acc.length), (26, I rows.length), (5, .lp 5 0), (4, I rows.length), (2, .lp 2 0), (0, chP rows)]) parL
    (fun acc => acc.length ≤ rows.length ∧ chainL rows.length rows = (chainL rows.length (rows.drop acc.length)).map (acc ++ ·)) (fun acc => rows.length - acc.length) [] ⟨Nat.zero_le _, by show chainL rows.length rows = _; rw [List.length_nil, List.drop_zero]; cases chainL rows.length rows <;> simp⟩
    ⟨rfl, congrArg I hz, rfl, rfl, rfl, rfl, trivial⟩ ⟨rfl, rfl, trivial⟩ ?_
   intro acc hx
   obtain ⟨g1, g3⟩ := hx
   obtain ⟨r, er⟩ : ∃ r, rows.getD acc.length [] = r := ⟨_, rfl⟩
   cases acc with
   | nil =>
    conv => whnf
    refine Br.mk (fun h => ?_) (fun h => ?_)
    ·have h : (([] : Mt)).length < rows.length := by simp only [decide_eq_true_eq] at h; exact Int.ofNat_lt.1 h
     obtain ⟨s1, s2⟩ := chainL_step (r := r) h er g3
     have hm : r ∈ rows := by rw [← er]; exact getD_mem h
     have c1 := fn_sList r (by have := hr r hm; omega) (fun x hx => by have := hs r hm x hx; omega)
     conv => whnf
     refine ⟨⟨⟨by omega, by rw [cTT_len]; omega⟩, cTT_sz _⟩, ?_⟩
     conv => whnf
     refine ⟨_, cTT_as h er, ?_⟩
     conv => whnf
     rw [cT_len]
     by_cases he : r.length = rows.length
     ·rw [decide_eq_true (show (r.length : Int) = rows.length by omega)]
      conv => whnf
      refine ⟨⟨⟨by omega, by rw [cTT_len]; omega⟩, cTT_sz _⟩, ?_⟩
      conv => whnf
      refine ⟨_, cTT_as h er, ?_⟩
      conv => whnf
      cases hw : rdRats r with
      | none =>
       rw [hw] at c1
       have e0 := s1 (by unfold rowQ wQ; rw [hw, ite_self])
       refine VCall.of_data c1 (ndT fun _ => rfl) ?_
       conv => whnf
       rw [e0]
       exact ⟨rfl, trivial, rfl⟩
      | some z =>
       obtain ⟨w1, w2, w3⟩ := rdRats_sz hw
       rw [hw] at c1
       replace c1 : Fn Tryz.prog 84 [lT r] [] (.tup [lS z, B true]) [] := c1
       have c2 := fn_sWeights z (by omega) w3
       refine VCall.of_data c1 (ndT fun _ => rfl) ?_
       conv => whnf
       refine VCall.of_data c2 (nd _) ?_
       conv => whnf
       cases hi : isW z with
       | false =>
        have e0 := s1 (by unfold rowQ wQ; rw [hw]; simp [hi])
        rw [e0]
        conv => whnf
        exact ⟨rfl, trivial, rfl⟩
       | true =>
        have e0 := s2 z (by unfold rowQ wQ; rw [hw]; simp [hi, he])
        conv => whnf
        refine Sub.full rfl ?_
        conv => whnf
        refine ⟨by show 1 * 24 ≤ _; omega, ?_⟩
        conv => whnf
        refine Wr.i64 (y := (((([] : Mt)).length + 1 : Nat) : Int)) rfl (by omega) (by omega) ?_
        conv => whnf
        refine ⟨([] : Mt) ++ [z], ⟨by simp at h ⊢; omega, by rw [show (([] : Mt) ++ [z]).length = (([] : Mt)).length + 1 by simp]; exact e0⟩, by simp at h ⊢; omega, rfl, ?_⟩
        conv => whnf
        refine ⟨⟨?_, rfl, rfl, rfl, rfl, rfl, trivial⟩, ?_⟩
        ·show I _ = I _
         simp
        ·refine ⟨?_, ?_, rfl, trivial⟩
         ·first | rfl | (show Ob.row true 1 (cMS _ ++ _) = _; rw [cMS_append1]; rfl)
         ·show Ob.box true [.ls 200 0 _ 1] = Ob.box true [.ls 200 0 _ 1]
          simp
     ·rw [decide_eq_false (show ¬ (r.length : Int) = rows.length by omega)]
      have e0 := s1 (by unfold rowQ; rw [if_neg he])
      rw [e0]
      conv => whnf
      exact ⟨rfl, trivial, rfl⟩
    ·have h : rows.length = 0 := by simp only [decide_eq_false_iff_not] at h; have h : ¬ (0 : Int) < rows.length := h; omega
     omega
   | cons y ys =>
    conv => whnf
    refine Br.mk (fun h => ?_) (fun h => ?_)
    ·have h : ((y :: ys)).length < rows.length := by simp only [decide_eq_true_eq] at h; exact Int.ofNat_lt.1 h
     obtain ⟨s1, s2⟩ := chainL_step (r := r) h er g3
     have hm : r ∈ rows := by rw [← er]; exact getD_mem h
     have c1 := fn_sList r (by have := hr r hm; omega) (fun x hx => by have := hs r hm x hx; omega)
     conv => whnf
     refine ⟨⟨⟨by omega, by rw [cTT_len]; omega⟩, cTT_sz _⟩, ?_⟩
     conv => whnf
     refine ⟨_, cTT_as h er, ?_⟩
     conv => whnf
     rw [cT_len]
     by_cases he : r.length = rows.length
     ·rw [decide_eq_true (show (r.length : Int) = rows.length by omega)]
      conv => whnf
      refine ⟨⟨⟨by omega, by rw [cTT_len]; omega⟩, cTT_sz _⟩, ?_⟩
      conv => whnf
      refine ⟨_, cTT_as h er, ?_⟩
      conv => whnf
      cases hw : rdRats r with
      | none =>
       rw [hw] at c1
       have e0 := s1 (by unfold rowQ wQ; rw [hw, ite_self])
       refine VCall.of_data c1 (ndT fun _ => rfl) ?_
       conv => whnf
       rw [e0]
       exact ⟨rfl, trivial, rfl⟩
      | some z =>
       obtain ⟨w1, w2, w3⟩ := rdRats_sz hw
       rw [hw] at c1
       replace c1 : Fn Tryz.prog 84 [lT r] [] (.tup [lS z, B true]) [] := c1
       have c2 := fn_sWeights z (by omega) w3
       refine VCall.of_data c1 (ndT fun _ => rfl) ?_
       conv => whnf
       refine VCall.of_data c2 (nd _) ?_
       conv => whnf
       cases hi : isW z with
       | false =>
        have e0 := s1 (by unfold rowQ wQ; rw [hw]; simp [hi])
        rw [e0]
        conv => whnf
        exact ⟨rfl, trivial, rfl⟩
       | true =>
        have e0 := s2 z (by unfold rowQ wQ; rw [hw]; simp [hi, he])
        conv => whnf
        refine Sub.full rfl ?_
        conv => whnf
        refine Sub.full (by rw [cMS_len]; rfl) ?_
        conv => whnf
        refine ⟨by show (ys.length + 1 + 1) * 24 ≤ _; have : ys.length + 1 ≤ rows.length := g1; omega, ?_⟩
        conv => whnf
        refine Wr.i64 (y := ((((y :: ys)).length + 1 : Nat) : Int)) rfl (by omega) (by omega) ?_
        conv => whnf
        refine ⟨(y :: ys) ++ [z], ⟨by simp at h ⊢; omega, by rw [show ((y :: ys) ++ [z]).length = ((y :: ys)).length + 1 by simp]; exact e0⟩, by simp at h ⊢; omega, rfl, ?_⟩
        conv => whnf
        refine ⟨⟨?_, rfl, rfl, rfl, rfl, rfl, trivial⟩, ?_⟩
        ·show I _ = I _
         simp
        ·refine ⟨?_, ?_, rfl, trivial⟩
         ·first | rfl | (show Ob.row true 1 (cMS _ ++ _) = _; rw [cMS_append1]; rfl)
         ·show Ob.box true [.ls 200 0 _ 1] = Ob.box true [.ls 200 0 _ 1]
          simp
     ·rw [decide_eq_false (show ¬ (r.length : Int) = rows.length by omega)]
      have e0 := s1 (by unfold rowQ; rw [if_neg he])
      rw [e0]
      conv => whnf
      exact ⟨rfl, trivial, rfl⟩
    ·have h : (y :: ys).length = rows.length := by simp only [decide_eq_false_iff_not] at h; have h : ¬ ((y :: ys).length : Int) < rows.length := h; omega
     rw [h, List.drop_length] at g3
     rw [g3]
     conv => whnf
     refine ⟨⟨rfl, by rw [cMS_len]; simp, ?_⟩, rfl, trivial, rfl⟩
     rw [List.drop_zero, List.take_of_length_le (by rw [cMS_len]; simp)]
     show cMS (y :: ys) = cMS ((y :: ys) ++ [])
     rw [List.append_nil]
end Go.V
namespace Go.V
open Go.Proofs Go.RowKit
set_option maxRecDepth 10000
set_option maxHeartbeats 1000000
def minC (p : Mt) (j : Nat) : Nat → Rat
 | 0 => ent p 0 j
 | k + 1 => if ent p k j < minC p j k then ent p k j else minC p j k
theorem minC_mem {p : Mt} (hp : 1 ≤ p.length) (j : Nat) : ∀ k, k ≤ p.length → ∃ i, i < p.length ∧ minC p j k = ent p i j
 | 0, _ => ⟨0, hp, rfl⟩
 | k + 1, h => by
  obtain ⟨i, h1, h2⟩ := minC_mem hp j k (by omega)
  by_cases hc : ent p k j < minC p j k
  ·exact ⟨k, h, by rw [minC, if_pos hc]⟩
  ·exact ⟨i, h1, by rw [minC, if_neg hc, h2]⟩
theorem minC_one (p : Mt) (j : Nat) : minC p j 1 = minC p j 0 := by
 show (if ent p 0 j < minC p j 0 then ent p 0 j else minC p j 0) = minC p j 0
 split <;> rfl
def commonT (p : Mt) (j : Nat) : Rat := minC p j p.length
def commonQ (p : Mt) : Rat := sN p.length (commonT p)
structure MtSz (p : Mt) (m : Nat) : Prop where
 n1 : 1 ≤ p.length
 n2 : p.length ≤ 12
 sq : ∀ r, r ∈ p → r.length = p.length
 sz : ∀ r, r ∈ p → ∀ q, q ∈ r → Go.V.sz q ≤ m
theorem MtOk.toSz {p : Mt} (h : MtOk p) : MtSz p 800 := ⟨h.n1, h.n2, h.sq, h.sz⟩
theorem MtSz.ent_sz {p : Mt} {m : Nat} (h : MtSz p m) {i j : Nat} (hi : i < p.length) (hj : j < p.length) : Go.V.sz (ent p i j) ≤ m := by
 have h1 : p.getD i [] ∈ p := getD_mem hi
 exact h.sz _ h1 _ (getD_mem (by rw [h.sq _ h1]; exact hj))
theorem MtSz.len {p : Mt} {m : Nat} (h : MtSz p m) {i : Nat} (hi : i < p.length) : (p.getD i []).length = p.length := h.sq _ (getD_mem hi)
theorem MtSz.min_sz {p : Mt} {m : Nat} (h : MtSz p m) {j : Nat} (hj : j < p.length) {k : Nat} (hk : k ≤ p.length) : Go.V.sz (minC p j k) ≤ m := by
 obtain ⟨i, h1, h2⟩ := minC_mem h.n1 j k hk
 rw [h2]; exact h.ent_sz h1 hj
theorem fn_common (p : Mt) (m : Nat) (h : MtSz p m) (hm : m ≤ 100000000) : Fn Tryz.prog 64 [lM p] [] (rI (commonQ p)) [] := by
 have hz : ((cM p).length : Int) = p.length := by rw [cM_len]
 have h1 := h.n1
 have h2 := h.n2
 have hc : ∀ j, j < p.length → sz (commonT p j) ≤ m := fun j hj => h.min_sz hj (Nat.le_refl _)
 refine Fn.intro (ks := [0,2,3,4,5,6,9,10,11,20,21,22,33]) hty rfl rfl rfl rfl rfl ?_
 conv => whnf
 refine VCall.of_data (fn_whole 0 (by decide) (by decide)) (ndA fun k => rfl) ?_
 conv => whnf
 refine VLoop.inv hty (S := Nat) (fun j => [(10, I j), (9, I p.length), (3, .lp 3 0), (2, .lp 2 0), (0, lM p)]) (fun j => [(3, .box true [B (ng (sN j (commonT p))), nI (tp (sN j (commonT p))), nI (sN j (commonT p)).den]), (2, .box true _)])
  (fun j => j ≤ p.length) (fun j => p.length - j) 0 (Nat.zero_le _) ⟨rfl, congrArg I hz, rfl, rfl, rfl, trivial⟩ ⟨rfl, rfl, trivial⟩ ?_
 intro j hj
 conv => whnf
 refine Br.mk (fun hb => ?_) (fun hb => ?_)
 ·have hb : j < p.length := by simp only [decide_eq_true_eq] at hb; omega
  have zs := sz_sN hc j hj
  have zm : j * (m + 1) ≤ 12 * (m + 1) := Nat.mul_le_mul_right _ (by omega)
  have zc := hc j hb
  have ca := fn_radd (sN j (commonT p)) (commonT p j) (by omega)
  rw [show sN j (commonT p) + commonT p j = sN (j + 1) (commonT p) from rfl] at ca
  conv => whnf
  refine ⟨⟨⟨by omega, by rw [cM_len]; omega⟩, cM_sz _⟩, ?_⟩
  conv => whnf
  refine ⟨_, cM_as (x := p.getD 0 []) (by omega) rfl, ?_⟩
  conv => whnf
  refine ⟨⟨⟨by omega, by rw [cQ_len, h.len (by omega)]; omega⟩, cQ_sz _⟩, ?_⟩
  conv => whnf
  refine ⟨_, cQ_as (x := ent p 0 j) (by rw [h.len (by omega)]; exact hb) rfl, ?_⟩
  conv => whnf
  refine VLoop.inv hty (S := Nat) (fun i => [(21, I i), (20, I p.length), (10, I j), (9, I p.length), (5, .lp 5 0), (4, I j), (3, .lp 3 0), (2, .lp 2 0), (0, lM p)])
   (fun i => [(5, .box true [B (ng (minC p j i)), nI (tp (minC p j i)), nI (minC p j i).den]), (3, .box true [B (ng (sN j (commonT p))), nI (tp (sN j (commonT p))), nI (sN j (commonT p)).den]), (2, .box true _)])
   (fun i => i ≤ p.length) (fun i => p.length - i) 0 (Nat.zero_le _) ⟨rfl, congrArg I hz, rfl, rfl, rfl, rfl, rfl, rfl, rfl, trivial⟩ ⟨rfl, rfl, rfl, trivial⟩ ?_
  intro i hi
  conv => whnf
  refine Br.mk (fun hc2 => ?_) (fun hc2 => ?_)
  ·have hc2 : i < p.length := by simp only [decide_eq_true_eq] at hc2; omega
   have z1 := h.ent_sz hc2 hb
   have z2 := h.min_sz hb hi
   have cc := fn_rcmp (ent p i j) (minC p j i) (by omega) (by omega)
   conv => whnf
   refine VDraw.go hmo hty 10 [] rfl ?_
   conv => whnf
   refine ⟨⟨⟨by omega, by rw [cM_len]; omega⟩, cM_sz _⟩, ?_⟩
   conv => whnf
   refine ⟨_, cM_as (x := p.getD i []) hc2 rfl, ?_⟩
   conv => whnf
   refine ⟨⟨⟨by omega, by rw [cQ_len, h.len hc2]; omega⟩, cQ_sz _⟩, ?_⟩
   conv => whnf
   refine ⟨_, cQ_as (x := ent p i j) (by rw [h.len hc2]; exact hb) rfl, ?_⟩
   conv => whnf
   refine QCall.of_data cc (nd _) ?_
   conv => whnf
   refine Br.mk (fun hd => ?_) (fun hd => ?_)
   ·have hd : ent p i j < minC p j i := rcI_neg.1 (by simpa using hd)
    have e : minC p j (i + 1) = ent p i j := by rw [minC, if_pos hd]
    conv => whnf
    refine ⟨⟨⟨by omega, by rw [cM_len]; omega⟩, cM_sz _⟩, ?_⟩
    conv => whnf
    refine ⟨_, cM_as (x := p.getD i []) hc2 rfl, ?_⟩
    conv => whnf
    refine ⟨⟨⟨by omega, by rw [cQ_len, h.len hc2]; omega⟩, cQ_sz _⟩, ?_⟩
    conv => whnf
    refine ⟨_, cQ_as (x := ent p i j) (by rw [h.len hc2]; exact hb) rfl, ?_⟩
    conv => whnf
    refine Wr.i64 (y := ((i + 1 : Nat) : Int)) rfl (by omega) (by omega) ?_
    conv => whnf
    refine ⟨i + 1, hc2, by show p.length - (i + 1) < p.length - i; omega, ⟨rfl, rfl, rfl, rfl, rfl, rfl, rfl, rfl, rfl, trivial⟩, ?_, rfl, rfl, trivial⟩
    rw [e]; rfl
   ·have hd : ¬ ent p i j < minC p j i := fun e => by have := rcI_neg.2 e; simp at hd; omega
    have e : minC p j (i + 1) = minC p j i := by rw [minC, if_neg hd]
    conv => whnf
    refine Wr.i64 (y := ((i + 1 : Nat) : Int)) rfl (by omega) (by omega) ?_
    conv => whnf
    refine ⟨i + 1, hc2, by show p.length - (i + 1) < p.length - i; omega, ⟨rfl, rfl, rfl, rfl, rfl, rfl, rfl, rfl, rfl, trivial⟩, ?_, rfl, rfl, trivial⟩
    rw [e]; rfl
  ·have hc2 : i = p.length := by simp only [decide_eq_false_iff_not] at hc2; omega
   subst hc2
   conv => whnf
   refine VCall.of_data ca (ndA fun k => rfl) ?_
   conv => whnf
   refine Wr.i64 (y := ((j + 1 : Nat) : Int)) rfl (by omega) (by omega) ?_
   conv => whnf
   exact ⟨j + 1, hb, by show p.length - (j + 1) < p.length - j; omega, ⟨rfl, rfl, rfl, rfl, rfl, trivial⟩, rfl, rfl, trivial⟩
 ·have hb : j = p.length := by simp only [decide_eq_false_iff_not] at hb; omega
  subst hb
  conv => whnf
  exact ⟨rfl, rfl, rfl, trivial, rfl⟩
theorem fn_sCommon (p : Mt) (m : Nat) (h : MtSz p m) (hm : m ≤ 100000000) : Fn Tryz.prog 62 [mP p] [] (rS (commonQ p)) [] := by
 have hz : ((cMS p).length : Int) = p.length := by rw [cMS_len]
 have h1 := h.n1
 have h2 := h.n2
 have hc : ∀ j, j < p.length → sz (commonT p j) ≤ m := fun j hj => h.min_sz hj (Nat.le_refl _)
 refine Fn.intro (ks := [0,2,3,4,5,6,14,32,46]) hty rfl rfl rfl rfl rfl ?_
 conv => whnf
 refine VCall.of_data fn_sNone (ndA fun k => rfl) ?_
 conv => whnf
 refine VLoop.inv hty (S := Nat) (fun j => [(4, I j), (3, .lp 3 0), (2, .lp 2 0), (0, mP p)]) (fun j => [(3, .box true [B (ng (sN j (commonT p))), nS (tp (sN j (commonT p))), nS (sN j (commonT p)).den]), (2, .box true _)])
  (fun j => j ≤ p.length) (fun j => p.length - j) 0 (Nat.zero_le _) ⟨rfl, rfl, rfl, rfl, trivial⟩ ⟨rfl, rfl, trivial⟩ ?_
 intro j hj
 conv => whnf
 rw [hz]
 refine Br.mk (fun hb => ?_) (fun hb => ?_)
 ·have hb : j < p.length := by simp only [decide_eq_true_eq] at hb; omega
  have zs := sz_sN hc j hj
  have zm : j * (m + 1) ≤ 12 * (m + 1) := Nat.mul_le_mul_right _ (by omega)
  have zc := hc j hb
  have ca := fn_sSum (sN j (commonT p)) (commonT p j) (by omega)
  rw [show sN j (commonT p) + commonT p j = sN (j + 1) (commonT p) from rfl] at ca
  conv => whnf
  refine ⟨⟨⟨by omega, by rw [cMS_len]; omega⟩, cMS_sz _⟩, ?_⟩
  conv => whnf
  refine ⟨_, cMS_as (x := p.getD 0 []) (by omega) rfl, ?_⟩
  conv => whnf
  refine ⟨⟨⟨by omega, by rw [cS_len, h.len (by omega)]; omega⟩, cS_sz _⟩, ?_⟩
  conv => whnf
  refine ⟨_, cS_as (x := ent p 0 j) (by rw [h.len (by omega)]; exact hb) rfl, ?_⟩
  conv => whnf
  refine VLoop.inv hty (S := Nat) (fun i => [(6, I i), (5, .lp 5 0), (4, I j), (3, .lp 3 0), (2, .lp 2 0), (0, mP p)])
   (fun i => [(5, .box true [B (ng (minC p j i)), nS (tp (minC p j i)), nS (minC p j i).den]), (3, .box true [B (ng (sN j (commonT p))), nS (tp (sN j (commonT p))), nS (sN j (commonT p)).den]), (2, .box true _)])
   (fun i => 1 ≤ i ∧ i ≤ p.length) (fun i => p.length - i) 1 ⟨Nat.le_refl _, h1⟩ ⟨rfl, rfl, rfl, rfl, rfl, rfl, trivial⟩ ⟨by rw [minC_one]; rfl, rfl, rfl, trivial⟩ ?_
  rintro i ⟨hi1, hi⟩
  conv => whnf
  rw [hz]
  refine Br.mk (fun hc2 => ?_) (fun hc2 => ?_)
  ·have hc2 : i < p.length := by simp only [decide_eq_true_eq] at hc2; omega
   have z1 := h.ent_sz hc2 hb
   have z2 := h.min_sz hb hi
   have cc := fn_sLess2 (ent p i j) (minC p j i) (by omega) (by omega)
   conv => whnf
   refine VDraw.go hmo hty 12 [] rfl ?_
   conv => whnf
   refine ⟨⟨⟨by omega, by rw [cMS_len]; omega⟩, cMS_sz _⟩, ?_⟩
   conv => whnf
   refine ⟨_, cMS_as (x := p.getD i []) hc2 rfl, ?_⟩
   conv => whnf
   refine ⟨⟨⟨by omega, by rw [cS_len, h.len hc2]; omega⟩, cS_sz _⟩, ?_⟩
   conv => whnf
   refine ⟨_, cS_as (x := ent p i j) (by rw [h.len hc2]; exact hb) rfl, ?_⟩
   conv => whnf
   refine QCall.of_data cc (nd _) ?_
   conv => whnf
   refine Br.mk (fun hd => ?_) (fun hd => ?_)
   ·have hd : ent p i j < minC p j i := by simpa using hd
    have e : minC p j (i + 1) = ent p i j := by rw [minC, if_pos hd]
    conv => whnf
    refine ⟨⟨⟨by omega, by rw [cMS_len]; omega⟩, cMS_sz _⟩, ?_⟩
    conv => whnf
    refine ⟨_, cMS_as (x := p.getD i []) hc2 rfl, ?_⟩
    conv => whnf
    refine ⟨⟨⟨by omega, by rw [cS_len, h.len hc2]; omega⟩, cS_sz _⟩, ?_⟩
    conv => whnf
    refine ⟨_, cS_as (x := ent p i j) (by rw [h.len hc2]; exact hb) rfl, ?_⟩
    conv => whnf
    refine Wr.i64 (y := ((i + 1 : Nat) : Int)) rfl (by omega) (by omega) ?_
    conv => whnf
    refine ⟨i + 1, ⟨by omega, hc2⟩, by show p.length - (i + 1) < p.length - i; omega, ⟨rfl, rfl, rfl, rfl, rfl, rfl, trivial⟩, ?_, rfl, rfl, trivial⟩
    rw [e]; rfl
   ·have hd : ¬ ent p i j < minC p j i := by simpa using hd
    have e : minC p j (i + 1) = minC p j i := by rw [minC, if_neg hd]
    conv => whnf
    refine Wr.i64 (y := ((i + 1 : Nat) : Int)) rfl (by omega) (by omega) ?_
    conv => whnf
    refine ⟨i + 1, ⟨by omega, hc2⟩, by show p.length - (i + 1) < p.length - i; omega, ⟨rfl, rfl, rfl, rfl, rfl, rfl, trivial⟩, ?_, rfl, rfl, trivial⟩
    rw [e]; rfl
  ·have hc2 : i = p.length := by simp only [decide_eq_false_iff_not] at hc2; omega
   subst hc2
   conv => whnf
   refine VCall.of_data ca (ndA fun k => rfl) ?_
   conv => whnf
   refine Wr.i64 (y := ((j + 1 : Nat) : Int)) rfl (by omega) (by omega) ?_
   conv => whnf
   exact ⟨j + 1, hb, by show p.length - (j + 1) < p.length - j; omega, ⟨rfl, rfl, rfl, rfl, trivial⟩, rfl, rfl, trivial⟩
 ·have hb : j = p.length := by simp only [decide_eq_false_iff_not] at hb; omega
  subst hb
  conv => whnf
  exact ⟨rfl, rfl, rfl, trivial, rfl⟩
end Go.V
namespace Go.V
open Go.Proofs Go.RowKit
set_option maxRecDepth 10000
set_option maxHeartbeats 1000000
end Go.V
namespace Go.V
open Go.Proofs Go.RowKit
set_option maxRecDepth 10000
set_option maxHeartbeats 1000000
structure ChIn (rows : List (List (List UInt8))) : Prop where
 l : rows.length ≤ 1000000
 r : ∀ r, r ∈ rows → r.length ≤ 1000000
 s : ∀ r, r ∈ rows → ∀ x, x ∈ r → x.length ≤ 1000000
theorem common_sz {p : Mt} {m : Nat} (h : MtSz p m) : sz (commonQ p) ≤ 12 * (m + 1) + 1 := by
 have h1 := sz_sN (fun j (hj : j < p.length) => h.min_sz hj (Nat.le_refl p.length)) p.length (Nat.le_refl _)
 have h2 : p.length * (m + 1) ≤ 12 * (m + 1) := Nat.mul_le_mul_right _ h.n2
 have h3 : sz (commonQ p) ≤ p.length * (m + 1) + 1 := h1
 omega
theorem inB (n a b : Int) : (decide (a ≤ n) && decide (n ≤ b)) = decide (a ≤ n ∧ n ≤ b) := by simp
end Go.V
namespace Go.V
open Go.Proofs Go.RowKit
set_option maxRecDepth 10000
set_option maxHeartbeats 1000000
abbrev Tss := List (List (List UInt8))
theorem drop_cons_getD1 {xs : Tss} {i : Nat} {r : List (List UInt8)} (h : i < xs.length) (e : xs.getD i [] = r) : xs.drop i = r :: xs.drop (i + 1) := by
 rw [List.drop_eq_getElem_cons h, ← e, List.getD_eq_getElem?_getD, List.getElem?_eq_getElem h]; rfl
def szR : Int → Tss → Int
 | n, [] => n
 | n, r :: rs => if szTT n r < 0 then -1 else szR (szTT n r) rs
def szRR (n : Int) (rows : Tss) : Int := if n - rows.length < 0 then -1 else szR (n - rows.length) rows
theorem szR_fits : ∀ {rows : Tss} {n : Int}, 0 ≤ n → 0 ≤ szR n rows → szR n rows ≤ n ∧ ∀ r, r ∈ rows → (r.length : Int) ≤ n ∧ ∀ x, x ∈ r → (x.length : Int) ≤ n
 | [], n, _, h => ⟨Int.le_refl n, fun r hr => (by cases hr)⟩
 | r :: rs, n, h0, h => by
  unfold szR at h ⊢
  split at h
  ·omega
  ·rename_i hc
   rw [if_neg hc]
   have h1 := szTT_fits (n := n) (xs := r) (by omega)
   have h2 := szTT_le (xs := r) (n := n) (by omega)
   obtain ⟨g1, g2⟩ := szR_fits (rows := rs) (by omega) h
   refine ⟨by omega, fun s hs => ?_⟩
   rcases List.mem_cons.1 hs with rfl | hs
   ·exact ⟨h1.1, h1.2⟩
   ·obtain ⟨u1, u2⟩ := g2 s hs
    exact ⟨by omega, fun x hx => by have := u2 x hx; omega⟩
theorem szRR_in {rows : Tss} {n : Int} (h : 0 ≤ szRR n rows) (hn : n ≤ 1000000) : ChIn rows := by
 unfold szRR at h
 split at h
 ·omega
 ·obtain ⟨g1, g2⟩ := szR_fits (by omega) h
  exact ⟨by omega, fun r hr => by have := (g2 r hr).1; omega, fun r hr x hx => by have := (g2 r hr).2 x hx; omega⟩
theorem szRR_le {rows : Tss} {n : Int} (h : 0 ≤ szRR n rows) : szRR n rows ≤ n := by
 unfold szRR at h ⊢
 split at h
 ·omega
 ·rename_i hc
  rw [if_neg hc]
  have := (szR_fits (rows := rows) (by omega) h).1
  omega
theorem fn_szSS (rows : Tss) (n : Int) (hl : rows.length ≤ 281474976710656) (hr : ∀ r, r ∈ rows → r.length ≤ 281474976710656) (hs : ∀ r, r ∈ rows → ∀ x, x ∈ r → x.length ≤ 281474976710656) (hn : n ≤ 1000000) (hn0 : -281474976710656 ≤ n) :
  Fn Tryz.prog 36 [.d (.sl (cTT rows)), I n] [] (I (szRR n rows)) [] := by
 refine Fn.intro (ks := [0,1,4,5,11,15,25]) hty rfl rfl rfl rfl rfl ?_
 conv => whnf
 rw [cTT_len]
 refine Wr.fit (wrap_i64 (by omega) (by omega)) ?_
 conv => whnf
 unfold szRR
 refine Br.mk (fun h => ?_) (fun h => ?_)
 ·have h : n - rows.length < 0 := by simpa using h
  conv => whnf
  refine ⟨?_, trivial, rfl⟩
  rw [if_pos h]
 ·have h : ¬ n - (rows.length : Int) < 0 := by simpa using h
  rw [if_neg h]
  conv => whnf
  obtain ⟨m0, e0⟩ : ∃ m0, n - (rows.length : Int) = m0 := ⟨_, rfl⟩
  rw [e0] at h ⊢
  refine VLoop.inv hty (S := Nat × Int) (fun s => [(5, I s.1), (1, I s.2), (0, .d (.sl (cTT rows)))]) (fun _ => []) (fun s => s.1 ≤ rows.length ∧ 0 ≤ s.2 ∧ s.2 ≤ n ∧ szR s.2 (rows.drop s.1) = szR m0 rows) (fun s => rows.length - s.1) (0, m0)
   ⟨Nat.zero_le _, by omega, by omega, rfl⟩ ⟨rfl, rfl, rfl, trivial⟩ trivial ?_
  rintro s ⟨hk, h0, h1, hp⟩
  conv => whnf
  rw [cTT_len]
  refine Br.mk (fun h => ?_) (fun h => ?_)
  ·have hk' : s.1 < rows.length := by simp at h; omega
   obtain ⟨r, er⟩ : ∃ r, rows.getD s.1 [] = r := ⟨_, rfl⟩
   have hm : r ∈ rows := by rw [← er]; exact getD_mem hk'
   have c1 := fn_szT r s.2 (hr r hm) (hs r hm) (by omega) (by omega)
   have hle := szTT_le (xs := r) (n := s.2) (by omega)
   rw [drop_cons_getD1 hk' er, szR] at hp
   obtain ⟨m1, e1⟩ : ∃ m1, szTT s.2 r = m1 := ⟨_, rfl⟩
   rw [e1] at c1 hle hp
   conv => whnf
   refine ⟨⟨⟨by omega, by rw [cTT_len]; omega⟩, cTT_sz _⟩, ?_⟩
   conv => whnf
   refine ⟨_, cTT_as hk' er, ?_⟩
   conv => whnf
   refine VCall.of_data c1 (nd _) ?_
   conv => whnf
   refine Br.mk (fun h => ?_) (fun h => ?_)
   ·have h : m1 < 0 := by simpa using h
    rw [if_pos h] at hp
    conv => whnf
    exact ⟨by rw [← hp], trivial, rfl⟩
   ·have h : ¬ m1 < 0 := by simpa using h
    rw [if_neg h] at hp
    conv => whnf
    refine Wr.fit (wrap_i64 (by omega) (by omega)) ?_
    conv => whnf
    exact ⟨(s.1 + 1, m1), ⟨by omega, by omega, by omega, hp⟩, by omega, ⟨rfl, rfl, rfl, trivial⟩, trivial⟩
  ·have hk' : s.1 = rows.length := by simp at h; omega
   conv => whnf
   refine ⟨?_, trivial, rfl⟩
   rw [← hp, hk', List.drop_length, szR]
theorem fn_szChain (rows : Tss) (n : Int) (hl : rows.length ≤ 281474976710656) (hr : ∀ r, r ∈ rows → r.length ≤ 281474976710656) (hs : ∀ r, r ∈ rows → ∀ x, x ∈ r → x.length ≤ 281474976710656) (hn : n ≤ 1000000) (hn0 : -281474976710656 ≤ n) :
  Fn Tryz.prog 11 [chI rows, I n] [] (I (szRR n rows)) [] := by
 have c := fn_szSS rows n hl hr hs hn hn0
 have hd : szRR n rows < 0 → szRR n rows = -1 := by
  unfold szRR
  split
  ·intro _; rfl
  ·intro h
   have key : ∀ (rs : Tss) (m : Int), 0 ≤ m → szR m rs < 0 → szR m rs = -1 := by
    intro rs
    induction rs with
    | nil => intro m h0 h; unfold szR at h; omega
    | cons r rs ih =>
     intro m h0 h
     unfold szR at h ⊢
     split at h
     ·rename_i hc; rw [if_pos hc]
     ·rename_i hc; rw [if_neg hc]; exact ih _ (by omega) h
   exact key _ _ (by omega) h
 generalize szRR n rows = m at c hd ⊢
 refine Fn.intro (ks := [0,1,2,4,10]) hty rfl rfl rfl rfl rfl ?_
 conv => whnf
 refine VCall.of_data c (nd _) ?_
 conv => whnf
 refine Br.mk (fun h => ?_) (fun h => ?_)
 ·have h : m < 0 := by simpa using h
  rw [hd h]
  conv => whnf
  exact ⟨rfl, trivial, rfl⟩
 ·conv => whnf
  exact ⟨rfl, trivial, rfl⟩
def ixF : Nat → List Nat → List MC
 | _, [] => []
 | k, n :: ns => .r k 0 n :: ixF (k + 1) ns
theorem ixF_len : ∀ (k : Nat) (ns : List Nat), (ixF k ns).length = ns.length
 | _, [] => rfl
 | k, n :: ns => by simp [ixF, ixF_len (k + 1) ns]
theorem ixF_snoc : ∀ (k : Nat) (ns : List Nat) (n : Nat), ixF k (ns ++ [n]) = ixF k ns ++ [.r (k + ns.length) 0 n]
 | k, [], n => rfl
 | k, a :: ns, n => by
  show MC.r k 0 a :: ixF (k + 1) (ns ++ [n]) = _
  rw [ixF_snoc (k + 1) ns n]
  show _ = (MC.r k 0 a :: ixF (k + 1) ns) ++ [.r (k + (ns.length + 1)) 0 n]
  rw [show k + 1 + ns.length = k + (ns.length + 1) by omega]; rfl
theorem ixF_get : ∀ {k : Nat} {ns : List Nat} {i n : Nat}, i < ns.length → ns.getD i 0 = n → (ixF k ns)[i]? = some (.r (k + i) 0 n)
 | k, a :: ns, 0, n, _, e => by simp at e; subst e; rfl
 | k, a :: ns, i + 1, n, h, e => by
  show (ixF (k + 1) ns)[i]? = _
  rw [ixF_get (by simpa using h) (by simpa using e), show k + 1 + i = k + (i + 1) by omega]
theorem ixF_append : ∀ (k : Nat) (ns ms : List Nat), ixF k (ns ++ ms) = ixF k ns ++ ixF (k + ns.length) ms
 | k, [], ms => rfl
 | k, a :: ns, ms => by
  show MC.r k 0 a :: ixF (k + 1) (ns ++ ms) = _
  rw [ixF_append (k + 1) ns ms, show k + 1 + ns.length = k + (ns.length + 1) by omega]; rfl
theorem put_rep {α : Type} (A : List α) (m : Nat) (x y : α) : (A ++ List.replicate (m + 1) x).set A.length y = (A ++ [y]) ++ List.replicate m x := by
 rw [List.set_append_right _ _ (Nat.le_refl _), Nat.sub_self, List.replicate_succ, List.set_cons_zero]; simp
abbrev nilM : MC := .d (.s (.slice none 0 0))
def spR : List (List UInt8) := [spT]
def allR (rows : Tss) : Tss := rows.map withRoomT ++ List.replicate (room rows.length) spR
def lensR (rows : Tss) : List Nat := rows.map List.length ++ List.replicate (room rows.length) 1
theorem lensR_len (rows : Tss) : (lensR rows).length = rows.length + room rows.length := by simp [lensR]
theorem spare_step (IX : List MC) (b j m : Nat) (h : j < m) : ((IX ++ ixF b (List.replicate j 1)) ++ List.replicate (m - j) nilM).set (IX.length + j) (.r (b + j) 0 1) = (IX ++ ixF b (List.replicate (j + 1) 1)) ++ List.replicate (m - (j + 1)) nilM := by
 have e := put_rep (IX ++ ixF b (List.replicate j 1)) (m - (j + 1)) nilM (.r (b + j) 0 1)
 rw [List.length_append, ixF_len, List.length_replicate, show m - (j + 1) + 1 = m - j by omega] at e
 rw [e, List.replicate_succ', ixF_snoc, List.length_replicate, List.append_assoc IX]
theorem matD_data (R : List (List (List C))) (cs : List C) : matD R (cs.map MC.d) = cs.map fun c => [c] := by
 induction cs with
 | nil => rfl
 | cons c cs ih => show [c] :: matD R (cs.map MC.d) = _; rw [ih]; rfl
theorem matD_append (R : List (List (List C))) (a b : List MC) : matD R (a ++ b) = matD R a ++ matD R b := by
 induction a with
 | nil => rfl
 | cons c cs ih => cases c <;> (show _ :: matD R (cs ++ b) = _; rw [ih]; rfl)
theorem fn_toSS (rows : Tss) (hi : ChIn rows) : Fn Tryz.prog 43 [.d (.sl (cTT rows)), B false] [] (.ls 0 0 rows.length 1) [(0, .mat 1 (ixF 0 (lensR rows)) ((allR rows).map cT))] := by
 have hl := hi.l
 unfold allR lensR
 have hr := room_le rows.length
 generalize hm : room rows.length = m at hr
 have c1 := fn_room rows.length hi.l
 rw [hm] at c1
 refine Fn.intro (ks := [0,1,4,5,6,7,13,24,41]) hty rfl rfl rfl rfl rfl ?_
 conv => whnf
 rw [cTT_len]
 refine VCall.of_data c1 (nd _) ?_
 conv => whnf
 refine Wr.i64 (y := ((rows.length + m : Nat) : Int)) rfl (by omega) (by have := hi.l; omega) ?_
 conv => whnf
 refine ⟨⟨by omega, by omega, by show ((rows.length + m : Nat) : Int) * ((24 : Nat) : Int) ≤ _; have := hi.l; omega, by have := hi.l; omega⟩, ?_⟩
 conv => whnf
 refine VLoop.toMat 20 1 (cs := List.replicate (rows.length + m) (.s (.slice none 0 0))) (by rw [List.map_replicate]; rfl) rfl ?_
 refine VLoop.inv hty (S := Nat) (fun k => [(6, I k), (5, .ls 20 0 (rows.length + m) 1), (1, B false), (0, .d (.sl (cTT rows)))])
  (fun k => [(20, .mat 1 (ixF 0 ((rows.take k).map List.length) ++ List.replicate (rows.length + m - k) nilM) ((rows.take k).map fun r => cT (withRoomT r)))])
  (fun k => k ≤ rows.length) (fun k => rows.length - k) 0 (Nat.zero_le _) ⟨rfl, rfl, rfl, rfl, trivial⟩ ⟨by show Ob.mat 1 (List.map MC.d _) [] = Ob.mat 1 _ _; rw [List.map_replicate]; rfl, trivial⟩ ?_
 intro k hk
 conv => whnf
 rw [cTT_len]
 refine Br.mk (fun h => ?_) (fun h => ?_)
 ·have h : k < rows.length := by simp only [decide_eq_true_eq] at h; omega
  obtain ⟨r, er⟩ : ∃ r, rows.getD k [] = r := ⟨_, rfl⟩
  have hmr : r ∈ rows := by rw [← er]; exact getD_mem h
  have ct := fn_toT r false (.inl rfl) (hi.r r hmr)
  have et : rows.take (k + 1) = rows.take k ++ [r] := by rw [List.take_succ_eq_append_getElem h, ← er, List.getD_eq_getElem?_getD, List.getElem?_eq_getElem h]; rfl
  have hA : (ixF 0 ((rows.take k).map List.length)).length = k := by rw [ixF_len, List.length_map, List.length_take]; omega
  have hB : ((rows.take k).map fun r => cT (withRoomT r)).length = k := by rw [List.length_map, List.length_take]; omega
  conv => whnf
  refine ⟨⟨⟨by omega, by rw [cTT_len]; omega⟩, cTT_sz _⟩, ?_⟩
  conv => whnf
  refine ⟨_, cTT_as h er, ?_⟩
  conv => whnf
  refine VCall.of_ls (k := 34) ct rfl ?_
  conv => whnf
  refine ⟨by omega, ?_⟩
  conv => whnf
  refine ⟨by show k + 0 < (ixF 0 ((rows.take k).map List.length) ++ List.replicate (rows.length + m - k) nilM).length; rw [List.length_append, hA, List.length_replicate]; omega, ?_⟩
  conv => whnf
  refine Wr.i64 (y := ((k + 1 : Nat) : Int)) (by omega) (by omega) (by omega) ?_
  conv => whnf
  refine ⟨k + 1, h, by show rows.length - (k + 1) < rows.length - k; omega, ⟨rfl, rfl, rfl, rfl, trivial⟩, ?_, trivial⟩
  have e1 := put_rep (ixF 0 ((rows.take k).map List.length)) (rows.length + m - (k + 1)) nilM (.r k 0 r.length)
  rw [hA, show rows.length + m - (k + 1) + 1 = rows.length + m - k by omega] at e1
  show Ob.mat 1 (List.set _ _ (MC.r (List.length _) 0 r.length)) (_ ++ [cT (withRoomT r)]) = Ob.mat 1 _ _
  rw [et, List.map_append, List.map_append]
  show Ob.mat 1 (List.set _ _ (MC.r (List.length _) 0 r.length)) (_ ++ [cT (withRoomT r)]) = Ob.mat 1 (ixF 0 (_ ++ [r.length]) ++ _) (_ ++ [cT (withRoomT r)])
  rw [hB, ixF_snoc, List.length_map, List.length_take, show 0 + min k rows.length = k by omega]
  congr 1
 ·have h : k = rows.length := by simp only [decide_eq_false_iff_not] at h; omega
  subst h
  rw [List.take_length, show rows.length + m - rows.length = m by omega]
  conv => whnf
  obtain ⟨IX, eIX⟩ : ∃ z, ixF 0 (rows.map List.length) = z := ⟨_, rfl⟩
  obtain ⟨R0, eR⟩ : ∃ z, (rows.map fun r => cT (withRoomT r)) = z := ⟨_, rfl⟩
  have hR0 : R0.length = rows.length := by rw [← eR, List.length_map]
  rw [eIX, eR]
  have hbase : (IX).length = rows.length := by rw [← eIX, ixF_len, List.length_map]
  rw [cTT_len]
  refine VLoop.inv hty (S := Nat) (fun j => [(7, I ((rows.length + j : Nat) : Int)), (5, .ls 20 0 (rows.length + m) 1), (0, .d (.sl (cTT rows)))])
   (fun j => [(20, .mat 1 ((IX ++ ixF (R0).length (List.replicate j 1)) ++ List.replicate (m - j) nilM) (R0 ++ List.replicate j (cT spR)))])
   (fun j => j ≤ m) (fun j => m - j) 0 (Nat.zero_le _) ⟨rfl, rfl, rfl, trivial⟩ ⟨?_, trivial⟩ ?_
  ·show Ob.mat 1 _ _ = Ob.mat 1 _ _
   simp [ixF]
  intro j hj
  conv => whnf
  refine Br.mk (fun h => ?_) (fun h => ?_)
  ·have h : j < m := by simp only [decide_eq_true_eq] at h; omega
   have hA : (IX ++ ixF (R0).length (List.replicate j 1)).length = rows.length + j := by rw [List.length_append, hbase, ixF_len, List.length_replicate]
   conv => whnf
   refine ⟨by omega, ?_⟩
   conv => whnf
   refine ⟨by show (rows.length + j) + 0 < ((IX ++ ixF (R0).length (List.replicate j 1)) ++ List.replicate (m - j) nilM).length; rw [List.length_append, hA, List.length_replicate]; omega, ?_⟩
   conv => whnf
   refine Wr.i64 (y := ((rows.length + (j + 1) : Nat) : Int)) (by omega) (by omega) (by omega) ?_
   conv => whnf
   refine ⟨j + 1, h, by show m - (j + 1) < m - j; omega, ⟨rfl, rfl, rfl, trivial⟩, ?_, trivial⟩
   have e1 := spare_step (IX) (R0).length j m h
   rw [hbase] at e1
   show Ob.mat 1 (List.set _ _ (MC.r _ 0 1)) (_ ++ [cT spR]) = Ob.mat 1 _ _
   congr 1
   ·rw [List.length_append, List.length_replicate]
    exact e1
   ·rw [List.append_assoc, ← List.replicate_succ']
  ·have h : j = m := by simp only [decide_eq_false_iff_not] at h; omega
   subst h
   conv => whnf
   rw [cTT_len]
   refine ⟨⟨by omega, by omega, by show rows.length + 0 ≤ ((IX ++ ixF (R0).length (List.replicate j 1)) ++ List.replicate (j - j) nilM).length; rw [List.length_append, List.length_append, hbase]; omega⟩, ?_⟩
   conv => whnf
   refine ⟨⟨rfl, rfl, rfl, by omega, rfl⟩, [], ?_, trivial, rfl⟩
   rw [show j - j = 0 by omega]
   show [(0, Ob.mat 1 _ _)] = [(0, Ob.mat 1 _ _)]
   congr 3
   ·rw [ixF_append, eIX, List.length_map, hR0, Nat.zero_add, List.replicate_zero, List.append_nil]
   ·rw [List.map_append, List.map_map, List.map_replicate, ← eR]; rfl
theorem fn_toSSd (rows : Tss) (b : Bool) (hi : ChIn rows) : Fn Tryz.prog 43 [.d (.sl (cTT rows)), B b] [] (.d (.sl (cTT rows))) [] := by
 have hl := hi.l
 by_cases hb : b = true ∧ rows = []
 ·obtain ⟨rfl, rfl⟩ := hb
  refine Fn.intro (ks := [0,1,4,5,6,7,13,24,41]) hty rfl rfl rfl rfl rfl ?_
  conv => whnf
  exact ⟨trivial, rfl⟩
 ·
  have hr := room_le rows.length
  generalize hm : room rows.length = m at hr
  have c1 := fn_room rows.length hi.l
  rw [hm] at c1
  refine Fn.intro (ks := [0,1,4,5,6,7,13,24,41]) hty rfl rfl rfl rfl rfl ?_
  cases b
  case' true =>
   conv => whnf
   refine Br.mk (fun h => absurd h ?_) (fun _ => ?_)
   ·rw [cTT_len]
    have : ¬ rows = [] := fun e => hb ⟨rfl, e⟩
    have := List.length_pos_iff.2 this
    simp; omega
  all_goals
   clear hb
   conv => whnf
   rw [cTT_len]
   refine VCall.of_data c1 (nd _) ?_
   conv => whnf
   refine Wr.i64 (y := ((rows.length + m : Nat) : Int)) rfl (by omega) (by have := hi.l; omega) ?_
   conv => whnf
   refine ⟨⟨by omega, by omega, by show ((rows.length + m : Nat) : Int) * ((24 : Nat) : Int) ≤ _; have := hi.l; omega, by have := hi.l; omega⟩, ?_⟩
   conv => whnf
   refine VLoop.toMat 20 1 (cs := List.replicate (rows.length + m) (.s (.slice none 0 0))) (by rw [List.map_replicate]; rfl) rfl ?_
   refine VLoop.inv hty (S := Nat) (fun k => [(6, I k), (5, .ls 20 0 (rows.length + m) 1), (1, B _), (0, .d (.sl (cTT rows)))])
    (fun k => [(20, .mat 1 (((rows.take k).map fun r => MC.d (.sl (cT r))) ++ List.replicate (rows.length + m - k) nilM) [])])
    (fun k => k ≤ rows.length) (fun k => rows.length - k) 0 (Nat.zero_le _) ⟨rfl, rfl, rfl, rfl, trivial⟩ ⟨by show Ob.mat 1 (List.map MC.d _) [] = Ob.mat 1 _ _; rw [List.map_replicate]; rfl, trivial⟩ ?_
   intro k hk
   conv => whnf
   rw [cTT_len]
   refine Br.mk (fun h => ?_) (fun h => ?_)
   ·have h : k < rows.length := by simp only [decide_eq_true_eq] at h; omega
    obtain ⟨r, er⟩ : ∃ r, rows.getD k [] = r := ⟨_, rfl⟩
    have hmr : r ∈ rows := by rw [← er]; exact getD_mem h
    have ct := fun b => fn_toTd r b (hi.r r hmr)
    have et : rows.take (k + 1) = rows.take k ++ [r] := by rw [List.take_succ_eq_append_getElem h, ← er, List.getD_eq_getElem?_getD, List.getElem?_eq_getElem h]; rfl
    have hA : ((rows.take k).map fun r => MC.d (.sl (cT r))).length = k := by rw [List.length_map, List.length_take]; omega
    conv => whnf
    refine ⟨⟨⟨by omega, by rw [cTT_len]; omega⟩, cTT_sz _⟩, ?_⟩
    conv => whnf
    refine ⟨_, cTT_as h er, ?_⟩
    conv => whnf
    refine VCall.of_data (ct _) (nd _) ?_
    conv => whnf
    refine ⟨by omega, ?_⟩
    conv => whnf
    refine ⟨by show k + 0 < (((rows.take k).map fun r => MC.d (.sl (cT r))) ++ List.replicate (rows.length + m - k) nilM).length; rw [List.length_append, hA, List.length_replicate]; omega, ?_⟩
    conv => whnf
    refine Wr.i64 (y := ((k + 1 : Nat) : Int)) (by omega) (by omega) (by omega) ?_
    conv => whnf
    refine ⟨k + 1, h, by show rows.length - (k + 1) < rows.length - k; omega, ⟨rfl, rfl, rfl, rfl, trivial⟩, ?_, trivial⟩
    have e1 := put_rep ((rows.take k).map fun r => MC.d (.sl (cT r))) (rows.length + m - (k + 1)) nilM (.d (.sl (cT r)))
    rw [hA, show rows.length + m - (k + 1) + 1 = rows.length + m - k by omega] at e1
    show Ob.mat 1 (List.set _ _ (MC.d (.sl (cT r)))) [] = Ob.mat 1 _ []
    rw [et, List.map_append]
    congr 1
   ·have h : k = rows.length := by simp only [decide_eq_false_iff_not] at h; omega
    subst h
    rw [List.take_length, show rows.length + m - rows.length = m by omega]
    conv => whnf
    obtain ⟨IX, eIX⟩ : ∃ z, (rows.map fun r => MC.d (.sl (cT r))) = z := ⟨_, rfl⟩
    rw [eIX]
    have hbase : (IX).length = rows.length := by rw [← eIX, List.length_map]
    rw [cTT_len]
    refine VLoop.inv hty (S := Nat) (fun j => [(7, I ((rows.length + j : Nat) : Int)), (5, .ls 20 0 (rows.length + m) 1), (0, .d (.sl (cTT rows)))])
     (fun j => [(20, .mat 1 ((IX ++ ixF (([] : List (List (List C)))).length (List.replicate j 1)) ++ List.replicate (m - j) nilM) (([] : List (List (List C))) ++ List.replicate j (cT spR)))])
     (fun j => j ≤ m) (fun j => m - j) 0 (Nat.zero_le _) ⟨rfl, rfl, rfl, trivial⟩ ⟨?_, trivial⟩ ?_
    ·show Ob.mat 1 _ _ = Ob.mat 1 _ _
     simp [ixF]
    intro j hj
    conv => whnf
    refine Br.mk (fun h => ?_) (fun h => ?_)
    ·have h : j < m := by simp only [decide_eq_true_eq] at h; omega
     have hA : (IX ++ ixF (([] : List (List (List C)))).length (List.replicate j 1)).length = rows.length + j := by rw [List.length_append, hbase, ixF_len, List.length_replicate]
     conv => whnf
     refine ⟨by omega, ?_⟩
     conv => whnf
     refine ⟨by show (rows.length + j) + 0 < ((IX ++ ixF (([] : List (List (List C)))).length (List.replicate j 1)) ++ List.replicate (m - j) nilM).length; rw [List.length_append, hA, List.length_replicate]; omega, ?_⟩
     conv => whnf
     refine Wr.i64 (y := ((rows.length + (j + 1) : Nat) : Int)) (by omega) (by omega) (by omega) ?_
     conv => whnf
     refine ⟨j + 1, h, by show m - (j + 1) < m - j; omega, ⟨rfl, rfl, rfl, trivial⟩, ?_, trivial⟩
     have e1 := spare_step (IX) (([] : List (List (List C)))).length j m h
     rw [hbase] at e1
     show Ob.mat 1 (List.set _ _ (MC.r _ 0 1)) (_ ++ [cT spR]) = Ob.mat 1 _ _
     congr 1
     ·rw [List.length_append, List.length_replicate]
      exact e1
     ·rw [List.append_assoc, ← List.replicate_succ']
    ·have h : j = m := by simp only [decide_eq_false_iff_not] at h; omega
     subst h
     conv => whnf
     rw [cTT_len]
     refine ⟨⟨by omega, by omega, by show rows.length + 0 ≤ ((IX ++ ixF (([] : List (List (List C)))).length (List.replicate j 1)) ++ List.replicate (j - j) nilM).length; rw [List.length_append, List.length_append, hbase]; omega⟩, ?_⟩
     conv => whnf
     refine ⟨⟨rfl, ?_, ?_, ?_⟩, trivial, rfl⟩
     ·show rows.length + 0 ≤ List.length _
      rw [List.length_append, List.length_append, hbase]; omega
     ·intro i lo n hmem
      rw [show j - j = 0 by omega, List.replicate_zero, List.append_nil, ← eIX] at hmem
      rcases List.mem_append.1 hmem with hmem | hmem
      ·obtain ⟨r, _, hr⟩ := List.mem_map.1 hmem
       cases hr
      ·obtain ⟨q, hq, hg⟩ := List.mem_iff_getElem.1 hmem
       rw [ixF_len, List.length_replicate] at hq
       have := ixF_get (k := ([] : List (List (List C))).length) (ns := List.replicate j 1) (i := q) (n := 1) (by rw [List.length_replicate]; exact hq) (by rw [List.getD_eq_getElem?_getD, List.getElem?_replicate, if_pos hq]; rfl)
       rw [List.getElem?_eq_getElem (by rw [ixF_len, List.length_replicate]; exact hq), hg] at this
       cases this
       show 1 + 0 ≤ _
       rw [List.getD_eq_getElem?_getD, List.nil_append, List.getElem?_replicate, if_pos (by simpa using hq)]
       decide
     ·show List.take ((rows.length : Int) - 0).toNat (matD _ _) = _
      rw [show ((rows.length : Int) - 0).toNat = rows.length by omega, matD_append, matD_append, ← eIX]
      rw [show (rows.map fun r => MC.d (.sl (cT r))) = (rows.map fun r => C.sl (cT r)).map MC.d by rw [List.map_map]; rfl, matD_data, List.append_assoc, List.take_append_of_le_length (by rw [List.length_map, List.length_map]; exact Nat.le_refl _), List.take_of_length_le (by rw [List.length_map, List.length_map]; exact Nat.le_refl _), List.map_map]
      rfl
end Go.V
namespace Go.V
open Go.Proofs Go.RowKit
set_option maxRecDepth 10000
set_option maxHeartbeats 1000000
theorem fn_eqSS (xs ys : Tss) (hl : xs.length ≤ 3000000) (hl' : ys.length ≤ 3000000) (hr : ∀ r, r ∈ xs → r.length ≤ 3000000) (hr' : ∀ r, r ∈ ys → r.length ≤ 3000000) :
  Fn Tryz.prog 80 [.d (.sl (cTT xs)), .d (.sl (cTT ys))] [] (B (decide (xs = ys))) [] := by
 refine Fn.intro (ks := [0,1,4,5,10,14,26]) hty rfl rfl rfl rfl rfl ?_
 conv => whnf
 rw [cTT_len, cTT_len]
 refine Br.mk (fun h => ?_) (fun h => ?_)
 ·have h : ¬ xs.length = ys.length := by simp at h; omega
  conv => whnf
  refine ⟨?_, trivial, rfl⟩
  rw [decide_eq_false fun e => h (by rw [e])]
 ·have hxy : xs.length = ys.length := by simp at h; omega
  conv => whnf
  refine VLoop.inv hty (S := Nat) (fun k => [(5, I k), (1, .d (.sl (cTT ys))), (0, .d (.sl (cTT xs)))]) (fun _ => []) (fun k => k ≤ xs.length ∧ xs.take k = ys.take k) (fun k => xs.length - k) 0 ⟨Nat.zero_le _, rfl⟩
   ⟨rfl, rfl, rfl, trivial⟩ trivial ?_
  rintro k ⟨hk, hp⟩
  conv => whnf
  rw [cTT_len]
  refine Br.mk (fun h => ?_) (fun h => ?_)
  ·have hk' : k < xs.length := by simp at h; omega
   obtain ⟨x, ex⟩ : ∃ x, xs.getD k [] = x := ⟨_, rfl⟩
   obtain ⟨y, ey⟩ : ∃ y, ys.getD k [] = y := ⟨_, rfl⟩
   have ex' : xs[k] = x := by rw [← ex, List.getD_eq_getElem?_getD, List.getElem?_eq_getElem hk']; rfl
   have ey' : ys[k]'(by omega) = y := by rw [← ey, List.getD_eq_getElem?_getD, List.getElem?_eq_getElem (by omega)]; rfl
   have c := fn_eqS x y (hr x (by rw [← ex]; exact getD_mem hk')) (hr' y (by rw [← ey]; exact getD_mem (by omega)))
   conv => whnf
   refine VDraw.go hmo hty 10 [] rfl ?_
   conv => whnf
   refine ⟨⟨⟨by omega, by rw [cTT_len]; omega⟩, cTT_sz _⟩, ?_⟩
   conv => whnf
   refine ⟨_, cTT_as hk' ex, ?_⟩
   conv => whnf
   refine ⟨⟨⟨by omega, by rw [cTT_len]; omega⟩, cTT_sz _⟩, ?_⟩
   conv => whnf
   refine ⟨_, cTT_as (by omega) ey, ?_⟩
   conv => whnf
   refine QCall.of_data c (nd _) ?_
   conv => whnf
   by_cases h2 : x = y
   ·rw [decide_eq_true h2]
    conv => whnf
    refine Wr.fit (wrap_i64 (by omega) (by omega)) ?_
    conv => whnf
    refine ⟨k + 1, ⟨hk', ?_⟩, by omega, ⟨rfl, rfl, rfl, trivial⟩, trivial⟩
    rw [List.take_succ_eq_append_getElem hk', List.take_succ_eq_append_getElem (by omega), hp, ex', ey', h2]
   ·rw [decide_eq_false h2]
    conv => whnf
    refine ⟨?_, trivial, rfl⟩
    rw [decide_eq_false fun e => h2 (by subst e; exact ex.symm.trans ey)]
  ·have hk' : k = xs.length := by simp at h; omega
   conv => whnf
   refine ⟨?_, trivial, rfl⟩
   subst hk'
   rw [List.take_length, List.take_of_length_le (by omega)] at hp
   rw [decide_eq_true hp]
theorem matD_ixF (R : List (List (List C))) : ∀ (k : Nat) (ns : List Nat) (vis : Tss), ns.length = vis.length → (∀ i, i < ns.length → ((R.getD (k + i) []).drop 0).take (ns.getD i 0) = cT (vis.getD i [])) → matD R (ixF k ns) = cTT vis
 | k, [], [], _, _ => rfl
 | k, [], _ :: _, h, _ => by simp at h
 | k, _ :: _, [], h, _ => by simp at h
 | k, n :: ns, v :: vis, h, hi => by
  have h0 := hi 0 (by simp)
  have ih := matD_ixF R (k + 1) ns vis (by simpa using h) fun i hh => by
   have := hi (i + 1) (by simp; omega)
   rw [show k + 1 + i = k + (i + 1) by omega]
   simpa using this
  show [C.sl (((R.getD k []).drop 0).take n)] :: matD R (ixF (k + 1) ns) = [C.sl (cT v)] :: cTT vis
  rw [ih]
  have h0' : ((R.getD k []).drop 0).take n = cT v := h0
  rw [h0']
theorem ixF_mem : ∀ {k : Nat} {ns : List Nat} {i lo n : Nat}, MC.r i lo n ∈ ixF k ns → lo = 0 ∧ k ≤ i ∧ i - k < ns.length ∧ n = ns.getD (i - k) 0
 | k, [], i, lo, n, h => by cases h
 | k, a :: ns, i, lo, n, h => by
  rcases List.mem_cons.1 h with h | h
  ·cases h; exact ⟨rfl, Nat.le_refl _, by simp, by simp⟩
  ·obtain ⟨h1, h2, h3, h4⟩ := ixF_mem (k := k + 1) h
   refine ⟨h1, by omega, by simp; omega, ?_⟩
   rw [h4, show i - k = (i - (k + 1)) + 1 by omega]; simp
theorem matIn_ixF {R : List (List (List C))} {ns : List Nat} (h : ∀ i, i < ns.length → ns.getD i 0 ≤ (R.getD i []).length) : matIn R (ixF 0 ns) := fun i lo n hm => by
 obtain ⟨rfl, _, h3, rfl⟩ := ixF_mem hm
 have := h i (by simpa using h3)
 simpa using this
def visR (rows : Tss) : Tss := rows ++ List.replicate (room rows.length) spR
theorem visR_len (rows : Tss) : (visR rows).length = rows.length + room rows.length := by simp [visR]
theorem laid_at (rows : Tss) {i : Nat} (h : i < rows.length + room rows.length) : ∃ full seen : List (List UInt8), (allR rows).getD i [] = full ∧ (visR rows).getD i [] = seen ∧ (lensR rows).getD i 0 = seen.length ∧ ∃ more, full = seen ++ more := by
 by_cases hi : i < rows.length
 ·refine ⟨withRoomT (rows.getD i []), rows.getD i [], ?_, ?_, ?_, _, rfl⟩
  ·unfold allR; rw [List.getD_eq_getElem?_getD, List.getElem?_append_left (by simpa using hi), List.getElem?_map, List.getD_eq_getElem?_getD, List.getElem?_eq_getElem hi]; rfl
  ·unfold visR; rw [List.getD_eq_getElem?_getD, List.getElem?_append_left hi, List.getD_eq_getElem?_getD]
  ·unfold lensR; rw [List.getD_eq_getElem?_getD, List.getElem?_append_left (by simpa using hi), List.getElem?_map, List.getD_eq_getElem?_getD, List.getElem?_eq_getElem hi]; rfl
 ·have hr : i - rows.length < room rows.length := by omega
  refine ⟨spR, spR, ?_, ?_, ?_, [], by simp⟩
  ·unfold allR; rw [List.getD_eq_getElem?_getD, List.getElem?_append_right (by simp; omega), List.length_map, List.getElem?_replicate, if_pos hr]; rfl
  ·unfold visR; rw [List.getD_eq_getElem?_getD, List.getElem?_append_right (by omega), List.getElem?_replicate, if_pos hr]; rfl
  ·unfold lensR; rw [List.getD_eq_getElem?_getD, List.getElem?_append_right (by simp; omega), List.length_map, List.getElem?_replicate, if_pos hr]; rfl
theorem getD_map_cT (R : Tss) (i : Nat) : (R.map cT).getD i [] = cT (R.getD i []) := by
 rw [List.getD_eq_getElem?_getD, List.getD_eq_getElem?_getD, List.getElem?_map]
 cases R[i]? <;> rfl
theorem laid_data (rows : Tss) : matD ((allR rows).map cT) (ixF 0 (lensR rows)) = cTT (visR rows) := by
 refine matD_ixF _ 0 _ _ (by rw [lensR_len, visR_len]) fun i hi => ?_
 rw [lensR_len] at hi
 obtain ⟨full, seen, h1, h2, h3, more, h4⟩ := laid_at rows hi
 rw [Nat.zero_add, getD_map_cT, h1, h2, h3, List.drop_zero, h4]
 simp [cT]
theorem laid_in (rows : Tss) : matIn ((allR rows).map cT) (ixF 0 (lensR rows)) := matIn_ixF fun i hi => by
 rw [lensR_len] at hi
 obtain ⟨full, seen, h1, h2, h3, more, h4⟩ := laid_at rows hi
 rw [getD_map_cT, h1, h3, h4, cT_len, List.length_append]; omega
theorem laid_ix (rows : Tss) : (ixF 0 (lensR rows)).length = rows.length + room rows.length := by rw [ixF_len, lensR_len]
abbrev laidM (rows : Tss) : Ob := .mat 1 (ixF 0 (lensR rows)) ((allR rows).map cT)
theorem lend1_mat {l : LL} {id lo n sz : Nat} {ix : List MC} {rows : List (List (List C))} {r : List (List C)} (h : lget id l = .mat sz ix rows) (h1 : n + lo ≤ ix.length) (h2 : matIn rows ix) (h3 : ((matD rows ix).drop lo).take n = r) : lend1 l (.ls id lo n 1) (.d (.sl r)) := by
 show (match lget id l with
  | .row _ sz' rows => 1 = sz' ∧ n + lo ≤ rows.length ∧ (rows.drop lo).take n = r
  | .mat _ ix rows => 1 = 1 ∧ n + lo ≤ ix.length ∧ matIn rows ix ∧ ((matD rows ix).drop lo).take n = r
  | _ => False)
 rw [h]
 exact ⟨rfl, h1, h2, h3⟩
theorem fn_intactSS (rows : Tss) (hi : ChIn rows) : Fn Tryz.prog 50 [.ls 1000000 0 rows.length 1, .ls 1000001 0 rows.length 1] [(1000000, laidM rows), (1000001, laidM rows)] (B true) [(1000000, laidM rows), (1000001, laidM rows)] := by
 have hl := hi.l
 have hrm := room_le rows.length
 have c1 := fn_room rows.length hi.l
 have ceq := fn_eqSS (List.replicate (room rows.length) spR) (List.replicate (room rows.length) spR) (by rw [List.length_replicate]; omega) (by rw [List.length_replicate]; omega)
  (fun r hr => by rw [List.eq_of_mem_replicate hr]; decide) (fun r hr => by rw [List.eq_of_mem_replicate hr]; decide)
 rw [decide_eq_true rfl] at ceq
 have hix := laid_ix rows
 have hmd := laid_data rows
 have hmi := laid_in rows
 refine Fn.intro (ks := [0,1,4,5,6,17,21,33]) hty rfl rfl rfl rfl rfl ?_
 conv => whnf
 refine VCall.of_data c1 (nd _) ?_
 conv => whnf
 refine Wr.i64 (y := ((rows.length + room rows.length : Nat) : Int)) rfl (by omega) (by omega) ?_
 conv => whnf
 rw [decide_eq_true (rfl : ((rows.length : Nat) : Int) = ((rows.length : Nat) : Int))]
 conv => whnf
 refine VLoop.inv hty (S := Nat) (fun k => [(6, I k), (5, I ((rows.length + room rows.length : Nat) : Int)), (1, .ls 1000001 0 rows.length 1), (0, .ls 1000000 0 rows.length 1)]) (fun _ => [(1000000, laidM rows), (1000001, laidM rows)])
  (fun k => k ≤ rows.length) (fun k => rows.length - k) 0 (Nat.zero_le _) ⟨rfl, rfl, rfl, rfl, trivial⟩ ⟨rfl, rfl, trivial⟩ ?_
 intro k hk
 conv => whnf
 refine Br.mk (fun h => ?_) (fun h => ?_)
 ·have h : k < rows.length := by simp only [decide_eq_true_eq] at h; omega
  obtain ⟨r, er⟩ : ∃ r, rows.getD k [] = r := ⟨_, rfl⟩
  have hmr : r ∈ rows := by rw [← er]; exact getD_mem h
  have ci := fn_intactT r (hi.r r hmr)
  have e1 : (ixF 0 (lensR rows))[k + 0]? = some (.r k 0 r.length) := by
   rw [ixF_get (n := r.length) (by rw [lensR_len]; omega), Nat.zero_add]; rfl
   unfold lensR
   rw [List.getD_eq_getElem?_getD, List.getElem?_append_left (by simpa using h), List.getElem?_map]
   rw [List.getD_eq_getElem?_getD] at er
   cases hq : rows[k]? with
   | none => rw [List.getElem?_eq_none_iff] at hq; omega
   | some v => rw [hq] at er; simp at er; rw [← er]; rfl
  have e2 : ((allR rows).map cT)[k]? = some (cT (withRoomT r)) := by
   unfold allR
   rw [List.map_append, List.getElem?_append_left (by simpa using h), List.getElem?_map, List.getElem?_map]
   rw [List.getD_eq_getElem?_getD] at er
   cases hq : rows[k]? with
   | none => rw [List.getElem?_eq_none_iff] at hq; omega
   | some v => rw [hq] at er; simp at er; rw [← er]; rfl
  conv => whnf
  refine VDraw.go hmo hty 10 [] rfl ?_
  conv => whnf
  refine ⟨by omega, ?_⟩
  conv => whnf
  refine ⟨_, e1, ?_⟩
  conv => whnf
  refine ⟨by omega, ?_⟩
  conv => whnf
  refine ⟨_, e1, ?_⟩
  conv => whnf
  refine QCall.parMM 1000000 k 1000001 k ci (by decide) rfl e2 rfl e2 ⟨⟨.inl ⟨rfl, rfl, rfl⟩, rfl, rfl, rfl⟩, ⟨.inr ⟨rfl, rfl, rfl⟩, rfl, rfl, rfl⟩, trivial⟩ rfl rfl rfl ?_
  conv => whnf
  refine Wr.i64 (y := ((k + 1 : Nat) : Int)) rfl (by omega) (by omega) ?_
  conv => whnf
  exact ⟨k + 1, h, by show rows.length - (k + 1) < rows.length - k; omega, ⟨rfl, rfl, rfl, rfl, trivial⟩, ⟨rfl, rfl, trivial⟩⟩
 ·have h : k = rows.length := by simp only [decide_eq_false_iff_not] at h; omega
  conv => whnf
  refine VDraw.go hmo hty 12 [] rfl ?_
  conv => whnf
  refine ⟨⟨by omega, by omega, by show rows.length + room rows.length + 0 ≤ _; omega⟩, ?_⟩
  conv => whnf
  refine ⟨⟨by omega, by omega, by show rows.length + room rows.length + 0 ≤ _; omega⟩, ?_⟩
  conv => whnf
  have lend : ∀ (l : LL) (id : Nat), lget id l = laidM rows → lend1 l (.ls id (((rows.length : Nat) : Int).toNat + 0) (((rows.length + room rows.length : Nat) : Int) - ((rows.length : Nat) : Int)).toNat 1) (.d (.sl (cTT (List.replicate (room rows.length) spR)))) := fun l id hg => by
   refine lend1_mat hg (by rw [hix]; omega) hmi ?_
   rw [hmd, show (((rows.length : Nat) : Int).toNat + 0) = rows.length from rfl, show (((rows.length + room rows.length : Nat) : Int) - ((rows.length : Nat) : Int)).toNat = room rows.length by omega]
   unfold visR cTT
   rw [List.map_append, List.drop_append_of_le_length (by simp), List.drop_of_length_le (by simp), List.nil_append, List.take_of_length_le (by simp)]
  refine QCall.lend ceq ⟨lend _ _ rfl, lend _ _ rfl, trivial⟩ rfl ?_
  conv => whnf
  exact ⟨rfl, ⟨rfl, rfl, trivial⟩, rfl⟩
theorem namesCh {rows : Tss} : namesIn [(0, laidM rows)] (.ag [.ls 0 0 rows.length 1]) := fun j hj => by
 have : Nat.beq 0 j = true := by
  have : (AV.ment j (.ag [.ls 0 0 rows.length 1])) = (Nat.beq 0 j || false) := rfl
  rw [this] at hj; simpa using hj
 have e := Nat.eq_of_beq_eq_true this
 rw [lget_cons, if_pos e.symm]; exact fun e => by cases e
theorem fn_toChain (rows : Tss) (hi : ChIn rows) : Fn Tryz.prog 13 [chI rows, B false] [] (.ag [.ls 0 0 rows.length 1]) [(0, laidM rows)] := by
 have c := fn_toSS rows hi
 refine Fn.intro (ks := [0,1,2,4,5]) hty rfl rfl rfl rfl rfl ?_
 conv => whnf
 refine VCall.of_fn (k := 9) c (namesIn_ls (by simp)) rfl ?_
 conv => whnf
 exact ⟨⟨rfl, rfl, rfl, rfl, rfl⟩, [], rfl, trivial, rfl⟩
theorem fn_toChaind (rows : Tss) (b : Bool) (hi : ChIn rows) : Fn Tryz.prog 13 [chI rows, B b] [] (chI rows) [] := by
 have c := fn_toSSd rows b hi
 refine Fn.intro (ks := [0,1,2,4,5]) hty rfl rfl rfl rfl rfl ?_
 conv => whnf
 refine VCall.of_data c (nd _) ?_
 conv => whnf
 exact ⟨rfl, trivial, rfl⟩
theorem fn_intactChain (rows : Tss) (hi : ChIn rows) : Fn Tryz.prog 15 [.ag [.ls 1000000 0 rows.length 1], .ag [.ls 1000001 0 rows.length 1]] [(1000000, laidM rows), (1000001, laidM rows)] (B true) [(1000000, laidM rows), (1000001, laidM rows)] := by
 have c := fn_intactSS rows hi
 refine Fn.intro (ks := [0,1,2,3,4,10]) hty rfl rfl rfl rfl rfl ?_
 conv => whnf
 refine VCall.parN [(1000000, 1000000), (1000001, 1000001)] c ⟨⟨rfl, rfl, rfl, rfl⟩, ⟨rfl, rfl, rfl, rfl⟩, trivial⟩ ⟨⟨rfl, rfl⟩, ⟨rfl, rfl⟩, trivial⟩ rfl rfl rfl rfl ?_
 conv => whnf
 exact ⟨rfl, ⟨rfl, rfl, trivial⟩, rfl⟩
theorem lend_ch {l : LL} {id : Nat} {rows : Tss} (h : lget id l = laidM rows) : lends1 l [.ls id 0 rows.length 1] [.d (.sl (cTT rows))] := by
 refine ⟨?_, trivial⟩
 refine lend1_mat h (by rw [laid_ix]; omega) (laid_in rows) ?_
 rw [laid_data]
 unfold visR cTT
 rw [List.drop_zero, List.map_append, List.take_append_of_le_length (by simp), List.take_of_length_le (by simp)]
end Go.V
namespace Go.V
open Go.Proofs Go.RowKit
set_option maxRecDepth 10000
set_option maxHeartbeats 1000000
theorem fit_T' {c : C} (h : Fit c (.sl [.s])) : ∃ xs : List (List UInt8), c = .sl (cT xs) ∧ xs.length < 2 ^ 47 ∧ ∀ x, x ∈ xs → x.length < 2 ^ 47 := by
 obtain ⟨ys, rfl, h1, h2⟩ := fit_strs h
 refine ⟨ys.map fun y => y.data.toList, by simp [cT], by simpa using h1, fun x hx => ?_⟩
 obtain ⟨y, hy, rfl⟩ := List.mem_map.1 hx
 have := h2 y hy
 rwa [Array.length_toList]
theorem fit_TT {c : C} (h : Fit c (.sl [.sl [.s]])) : ∃ rows : Tss, c = .sl (cTT rows) ∧ rows.length < 2 ^ 47 ∧ (∀ r, r ∈ rows → r.length < 2 ^ 47) ∧ ∀ r, r ∈ rows → ∀ x, x ∈ r → x.length < 2 ^ 47 := by
 cases h with
 | sl rows _ h hl hf =>
  obtain ⟨xs, h1⟩ := rows_one (α := { r : List (List UInt8) // r.length < 2 ^ 47 ∧ ∀ x, x ∈ r → x.length < 2 ^ 47 }) (p := fun c => Fit c (.sl [.s])) (g := fun n => .sl (cT n.1)) (fun c hc => by
   obtain ⟨n, h1, h2⟩ := fit_T' hc; exact ⟨⟨n, h2⟩, h1⟩) hl (fun r hr c hc => hf r hr 0 c _ hc rfl)
  subst h1
  refine ⟨xs.map (·.1), by simp [cTT], by have := reach_lt; simp at h ⊢; omega, fun r hr => ?_, fun r hr => ?_⟩
  ·obtain ⟨y, _, rfl⟩ := List.mem_map.1 hr
   exact y.2.1
  ·obtain ⟨y, _, rfl⟩ := List.mem_map.1 hr
   exact y.2.2
theorem fit_chain {rs : List C} (hl : rs.length = 1) (h : ∀ (i : Nat) c k, rs[i]? = some c → ([K.sl [.sl [.s]]] : List K)[i]? = some k → Fit c k) :
  ∃ rows : Tss, rs = [.sl (cTT rows)] ∧ rows.length < 2 ^ 47 ∧ (∀ r, r ∈ rows → r.length < 2 ^ 47) ∧ ∀ r, r ∈ rows → ∀ x, x ∈ r → x.length < 2 ^ 47 := by
 match rs, hl with
 | [a], _ =>
  obtain ⟨us, rfl, h1, h2, h3⟩ := fit_TT (h 0 a _ rfl rfl)
  exact ⟨us, rfl, h1, h2, h3⟩
end Go.V
namespace Go.V
open Go.Proofs Go.RowKit
theorem bapp (a b : List UInt8) : (⟨a.toArray⟩ : ByteArray) ++ (⟨b.toArray⟩ : ByteArray) = ⟨(a ++ b).toArray⟩ := by
 apply ByteArray.ext
 rw [ByteArray.data_append]
 simp
theorem cT_append1 (xs : List (List UInt8)) (x : List UInt8) : cT xs ++ [[.s (.string ⟨x.toArray⟩)]] = cT (xs ++ [x]) := by simp [cT]
end Go.V
namespace Go.V
open Go.Proofs Go.RowKit
set_option maxRecDepth 10000
set_option maxHeartbeats 1000000
theorem join_snoc {xs : List (List UInt8)} (h : xs ≠ []) (y sep : List UInt8) : Lib.join (xs ++ [y]) sep = Lib.join xs sep ++ (sep ++ y) := by
 cases xs with
 | nil => exact absurd rfl h
 | cons x r =>
  show Lib.join (x :: (r ++ [y])) sep = _
  rw [Lib.join_cons, Lib.join_cons]
  unfold Lib.joinTail
  rw [List.map_append, List.flatten_append]
  simp
theorem join_len {m : Nat} {sep : List UInt8} : ∀ {xs : List (List UInt8)}, (∀ x, x ∈ xs → x.length ≤ m) → (Lib.join xs sep).length ≤ xs.length * (m + sep.length)
 | [], _ => by rw [Lib.join_nil]; simp
 | x :: r, h => by
  rw [Lib.join_length]
  have key : ∀ l : List (List UInt8), (∀ x, x ∈ l → x.length ≤ m) → Lib.lens l ≤ l.length * m := by
   intro l
   induction l with
   | nil => intro _; simp [Lib.lens]
   | cons a l ih =>
    intro hl
    have h1 := ih fun x hx => hl x (List.mem_cons_of_mem _ hx)
    have h2 := hl a (by simp)
    simp only [Lib.lens, List.map_cons, List.sum_cons, List.length_cons, Nat.succ_mul] at h1 ⊢
    omega
  have h3 := key (x :: r) h
  have h4 : sep.length * r.length ≤ (x :: r).length * sep.length := by rw [Nat.mul_comm]; exact Nat.mul_le_mul_right _ (by simp)
  rw [Nat.mul_add]
  omega
def joinT (r : List (List UInt8)) : List UInt8 := if r = [] then [110, 111, 110, 101] else Lib.join r [44]
theorem joinT_len {r : List (List UInt8)} {m : Nat} (h : ∀ x, x ∈ r → x.length ≤ m) : (joinT r).length ≤ r.length * (m + 1) + 4 := by
 unfold joinT
 split
 ·simp
 ·have := join_len (sep := [44]) h
  simp at this ⊢
  omega
theorem fn_joined (r : List (List UInt8)) (hr : r.length ≤ 100000) (hs : ∀ x, x ∈ r → x.length ≤ 1000000) : Fn Tryz.prog 59 [lT r] [] (Str (joinT r)) [] := by
 have hm : r.length * (1000000 + 1) ≤ 100000 * (1000000 + 1) := Nat.mul_le_mul_right _ hr
 have hj := join_len (sep := [44]) hs
 refine Fn.intro (ks := [0,2,5]) hty rfl rfl rfl rfl rfl ?_
 conv => whnf
 rw [cT_len]
 unfold joinT
 by_cases h : r = []
 ·subst h
  conv => whnf
  exact ⟨rfl, trivial, rfl⟩
 ·have hp := List.length_pos_iff.2 h
  rw [decide_eq_false (show ¬ ((r.length : Nat) : Int) = 0 by omega), if_neg h]
  have cj : Fn Tryz.prog 60 [lT r, Str [44]] [] (Str (Lib.join r [44])) [] := fn_Join r [44] (by omega) (by simp only [List.length_cons, List.length_nil] at hj; omega)
  conv => whnf
  refine VCall.of_data cj (nd _) ?_
  conv => whnf
  exact ⟨rfl, trivial, rfl⟩
theorem fn_l01Texts (r : List (List UInt8)) (hr : r.length ≤ 1000000) (hs : ∀ x, x ∈ r → x.length ≤ 1000000) : Fn Tryz.prog 114 [lT r] [] (Str (joinT r)) [] := by
 refine Fn.intro (ks := [0,2,3,4,7,14]) hty rfl rfl rfl rfl rfl ?_
 conv => whnf
 rw [cT_len]
 unfold joinT
 by_cases h : r = []
 ·subst h
  conv => whnf
  exact ⟨rfl, trivial, rfl⟩
 ·have hp := List.length_pos_iff.2 h
  rw [decide_eq_false (show ¬ ((r.length : Nat) : Int) = 0 by omega), if_neg h]
  conv => whnf
  obtain ⟨x0, e0⟩ : ∃ x, r.getD 0 [] = x := ⟨_, rfl⟩
  have et : r.take 1 = [x0] := by
   cases r with
   | nil => exact absurd rfl h
   | cons a q => simp at e0; subst e0; rfl
  refine ⟨⟨⟨by omega, by rw [cT_len]; omega⟩, cT_sz _⟩, ?_⟩
  conv => whnf
  refine ⟨_, cT_as hp e0, ?_⟩
  conv => whnf
  refine VLoop.inv hty (S := Nat) (fun i => [(4, I i), (3, Str (Lib.join (r.take i) [44])), (0, lT r)]) (fun _ => []) (fun i => 1 ≤ i ∧ i ≤ r.length) (fun i => r.length - i) 1 ⟨Nat.le_refl _, hp⟩
   ⟨rfl, by rw [et, Lib.join_one]; rfl, rfl, trivial⟩ trivial ?_
  rintro i ⟨hi1, hi⟩
  conv => whnf
  rw [cT_len]
  refine Br.mk (fun hb => ?_) (fun hb => ?_)
  ·have hb : i < r.length := by simp only [decide_eq_true_eq] at hb; omega
   obtain ⟨x, ex⟩ : ∃ x, r.getD i [] = x := ⟨_, rfl⟩
   have hx := hs x (by rw [← ex]; exact getD_mem hb)
   have hj := join_len (xs := r.take i) (sep := [44]) (m := 1000000) fun x hx => hs x (List.mem_of_mem_take hx)
   have hm : (r.take i).length * (1000000 + [44].length) ≤ 1000000 * (1000000 + 1) := Nat.mul_le_mul (by rw [List.length_take]; omega) (Nat.le_refl _)
   have hne : r.take i ≠ [] := by
    intro e
    have := congrArg List.length e
    rw [List.length_take, List.length_nil] at this; omega
   have es := join_snoc hne x [44]
   rw [show r.take i ++ [x] = r.take (i + 1) by rw [List.take_succ_eq_append_getElem hb, ← ex, List.getD_eq_getElem?_getD, List.getElem?_eq_getElem hb]; rfl] at es
   conv => whnf
   refine ⟨⟨⟨by omega, by rw [cT_len]; omega⟩, cT_sz _⟩, ?_⟩
   conv => whnf
   refine ⟨_, cT_as hb ex, ?_⟩
   conv => whnf
   refine ⟨by rw [bsize]; show 1 + x.length < 2 ^ 62; omega, ?_⟩
   conv => whnf
   rw [show (⟨#[44]⟩ : ByteArray) ++ (⟨x.toArray⟩ : ByteArray) = ⟨([44] ++ x).toArray⟩ from bapp [44] x]
   refine ⟨by rw [bsize, bsize]; show _ + ([44] ++ x).length < 2 ^ 62; simp only [List.length_append, List.length_cons, List.length_nil] at hm hj ⊢; omega, ?_⟩
   conv => whnf
   rw [bapp, ← es]
   refine Wr.i64 (y := ((i + 1 : Nat) : Int)) rfl (by omega) (by omega) ?_
   conv => whnf
   exact ⟨i + 1, ⟨by omega, hb⟩, by show r.length - (i + 1) < r.length - i; omega, ⟨rfl, rfl, rfl, trivial⟩, trivial⟩
  ·have hb : i = r.length := by simp only [decide_eq_false_iff_not] at hb; omega
   rw [hb, List.take_length]
   conv => whnf
   exact ⟨rfl, trivial, rfl⟩
def chText (rows : Tss) : List UInt8 := Lib.join (rows.map joinT) [59]
theorem fn_l11Text (rows : Tss) (hl : rows.length ≤ 12) (hr : ∀ r, r ∈ rows → r.length ≤ 12) (hs : ∀ r, r ∈ rows → ∀ x, x ∈ r → x.length ≤ 1000000) : Fn Tryz.prog 58 [chP rows] [] (Str (chText rows)) [] := by
 have hz : ((cTT rows).length : Int) = rows.length := by rw [cTT_len]
 refine Fn.intro (ks := [0,2,3,4,9,10,11,14]) hty rfl rfl rfl rfl rfl ?_
 conv => whnf
 unfold chText
 refine VLoop.inv hty (S := Nat) (fun i => [(10, I i), (9, I rows.length), (3, Str (Lib.join ((rows.take i).map joinT) [59])), (0, chP rows)]) (fun _ => []) (fun i => i ≤ rows.length) (fun i => rows.length - i) 0 (Nat.zero_le _)
  ⟨rfl, congrArg I hz, rfl, rfl, trivial⟩ trivial ?_
 intro i hi
 conv => whnf
 refine Br.mk (fun hb => ?_) (fun hb => ?_)
 ·have hb : i < rows.length := by simp only [decide_eq_true_eq] at hb; omega
  obtain ⟨r, er⟩ : ∃ r, rows.getD i [] = r := ⟨_, rfl⟩
  have hm : r ∈ rows := by rw [← er]; exact getD_mem hb
  have c := fn_l01Texts r (by have := hr r hm; omega) (hs r hm)
  have et : rows.take (i + 1) = rows.take i ++ [r] := by rw [List.take_succ_eq_append_getElem hb, ← er, List.getD_eq_getElem?_getD, List.getElem?_eq_getElem hb]; rfl
  have lenT : ∀ r, r ∈ rows → (joinT r).length ≤ 13000000 := fun r hm => by
   have h1 := joinT_len (m := 1000000) (hs r hm)
   have h2 : r.length * (1000000 + 1) ≤ 12 * (1000000 + 1) := Nat.mul_le_mul_right _ (hr r hm)
   omega
  have hj := join_len (xs := (rows.take i).map joinT) (sep := [59]) (m := 13000000) fun x hx => by
   obtain ⟨r, hr, rfl⟩ := List.mem_map.1 hx
   exact lenT r (List.mem_of_mem_take hr)
  have hj2 : ((rows.take i).map joinT).length * (13000000 + [59].length) ≤ 12 * (13000000 + 1) := Nat.mul_le_mul (by rw [List.length_map, List.length_take]; omega) (Nat.le_refl _)
  have hjr := lenT r hm
  conv => whnf
  refine Br.mk (fun h0 => ?_) (fun h0 => ?_)
  ·have h0 : 0 < i := by simp only [decide_eq_true_eq] at h0; omega
   have hne : (rows.take i).map joinT ≠ [] := by
    intro e
    have := congrArg List.length e
    rw [List.length_map, List.length_take, List.length_nil] at this; omega
   have es := join_snoc hne (joinT r) [59]
   conv => whnf
   refine ⟨by rw [bsize]; show _ + 1 < 2 ^ 62; omega, ?_⟩
   conv => whnf
   rw [show (⟨(Lib.join ((rows.take i).map joinT) [59]).toArray⟩ : ByteArray) ++ (⟨#[59]⟩ : ByteArray) = ⟨(Lib.join ((rows.take i).map joinT) [59] ++ [59]).toArray⟩ from bapp _ [59]]
   refine ⟨⟨⟨by omega, by rw [cTT_len]; omega⟩, cTT_sz _⟩, ?_⟩
   conv => whnf
   refine ⟨_, cTT_as hb er, ?_⟩
   conv => whnf
   refine VCall.of_data c (nd _) ?_
   conv => whnf
   refine ⟨by rw [bsize, bsize]; simp only [List.length_append, List.length_cons, List.length_nil]; omega, ?_⟩
   conv => whnf
   rw [bapp, List.append_assoc, ← es]
   refine Wr.i64 (y := ((i + 1 : Nat) : Int)) rfl (by omega) (by omega) ?_
   conv => whnf
   refine ⟨i + 1, hb, by show rows.length - (i + 1) < rows.length - i; omega, ⟨rfl, rfl, ?_, rfl, trivial⟩, trivial⟩
   rw [et, List.map_append]; rfl
  ·have h0 : i = 0 := by simp only [decide_eq_false_iff_not] at h0; omega
   subst h0
   conv => whnf
   refine ⟨⟨⟨by omega, by rw [cTT_len]; omega⟩, cTT_sz _⟩, ?_⟩
   conv => whnf
   refine ⟨_, cTT_as hb er, ?_⟩
   conv => whnf
   refine VCall.of_data c (nd _) ?_
   conv => whnf
   refine ⟨by rw [bsize, bsize]; show 0 + (joinT r).length < 2 ^ 62; omega, ?_⟩
   conv => whnf
   rw [bapp]
   refine Wr.i64 (y := ((0 + 1 : Nat) : Int)) rfl (by omega) (by omega) ?_
   conv => whnf
   refine ⟨0 + 1, hb, by show rows.length - (0 + 1) < rows.length - 0; omega, ⟨rfl, rfl, ?_, rfl, trivial⟩, trivial⟩
   rw [et, List.map_append]
   show Str ([] ++ joinT r) = Str (Lib.join [joinT r] [59])
   rw [Lib.join_one]; rfl
 ·have hb : i = rows.length := by simp only [decide_eq_false_iff_not] at hb; omega
  rw [hb, List.take_length]
  conv => whnf
  exact ⟨rfl, trivial, rfl⟩
theorem fn_ValidChain (rows : Tss) (hi : ChIn rows) : Fn Tryz.prog 54 [chI rows] [] (B (chainQ rows).isSome) [] := by
 have c1 := fn_chainOf rows hi.l hi.r hi.s
 refine Fn.intro (ks := [0,1,2,4]) hty rfl rfl rfl rfl rfl ?_
 conv => whnf
 refine VCall.of_data c1 (ndT fun _ => rfl) ?_
 conv => whnf
 exact ⟨rfl, trivial, rfl⟩
theorem fn_l03Is (rows : Tss) (hi : ChIn rows) : Fn Tryz.prog 57 [chP rows] [] (B (chainQ rows).isSome) [] := by
 have c1 := fn_l03Parse rows hi.l hi.r hi.s
 refine Fn.intro (ks := [0,2,3,4,5]) hty rfl rfl rfl rfl rfl ?_
 conv => whnf
 refine VCall.of_data c1 (ndT fun _ => rfl) ?_
 conv => whnf
 exact ⟨rfl, trivial, rfl⟩
theorem chainL_rows {n : Nat} : ∀ {rows : Tss} {p : Mt}, chainL n rows = some p → ∀ r, r ∈ rows → r.length = n
 | [], _, _, r, h => by cases h
 | a :: rs, p, h, r, hr => by
  unfold chainL at h
  cases h1 : rowQ n a with
  | none => rw [h1] at h; cases h
  | some x =>
   rw [h1] at h
   dsimp only at h
   rcases List.mem_cons.1 hr with rfl | hr
   ·unfold rowQ at h1
    split at h1
    ·assumption
    ·cases h1
   ·cases h2 : chainL n rs with
    | none => rw [h2] at h; cases h
    | some q => exact chainL_rows h2 r hr
theorem chainQ_rows {rows : Tss} {p : Mt} (h : chainQ rows = some p) : rows.length ≤ 12 ∧ ∀ r, r ∈ rows → r.length ≤ 12 := by
 unfold chainQ at h
 split at h
 ·cases h
 ·rename_i hn
  exact ⟨by omega, fun r hr => by have := chainL_rows h r hr; omega⟩
def textO (rows : Tss) : List UInt8 × Bool := if (chainQ rows).isSome then (chText rows, true) else ([], false)
theorem fn_sChainText (rows : Tss) (hi : ChIn rows) : Fn Tryz.prog 21 [chI rows] [] (.tup [Str (textO rows).1, B (textO rows).2]) [] := by
 have c1 := fn_l03Is rows hi
 refine Fn.intro (ks := [0,1,2,3,5]) hty rfl rfl rfl rfl rfl ?_
 conv => whnf
 refine VCall.thaw 1 (cs := [.sl (cTT rows)]) rfl ?_
 unfold textO
 cases h : chainQ rows with
 | none =>
  rw [h] at c1
  refine VCall.of_data c1 (nd _) ?_
  conv => whnf
  exact ⟨rfl, rfl, trivial, rfl⟩
 | some p =>
  obtain ⟨h1, h2⟩ := chainQ_rows h
  have c2 := fn_l11Text rows h1 h2 hi.s
  rw [h] at c1
  refine VCall.of_data c1 (nd _) ?_
  conv => whnf
  refine VCall.of_data c2 (nd _) ?_
  conv => whnf
  exact ⟨rfl, rfl, trivial, rfl⟩
theorem fn_ChainText (rows : Tss) (hi : ChIn rows) : Fn Tryz.prog 22 [chI rows] [] (.tup [Str (textO rows).1, B (textO rows).2]) [] := by
 have hz : ((cTT rows).length : Int) = rows.length := by rw [cTT_len]
 have c1 := fn_ValidChain rows hi
 refine Fn.intro (ks := [0,1,2,3,4,6,9,12,13,14,15]) hty rfl rfl rfl rfl rfl ?_
 conv => whnf
 unfold textO
 cases h : chainQ rows with
 | none =>
  rw [h] at c1
  refine VCall.of_data c1 (nd _) ?_
  conv => whnf
  exact ⟨rfl, rfl, trivial, rfl⟩
 | some p =>
  obtain ⟨h1, h2⟩ := chainQ_rows h
  rw [h] at c1
  refine VCall.of_data c1 (nd _) ?_
  conv => whnf
  refine VLoop.ren 10 22 rfl ?_
  refine VLoop.inv hty (S := Nat) (fun i => [(14, I i), (13, I rows.length), (12, .d (.sl (cTT rows))), (4, .ls 22 0 i 1)]) (fun i => [(22, .row true 1 (cT ((rows.take i).map joinT)))]) (fun i => i ≤ rows.length) (fun i => rows.length - i) 0 (Nat.zero_le _)
   ⟨rfl, congrArg I hz, rfl, rfl, trivial⟩ ⟨rfl, trivial⟩ ?_
  intro i hii
  conv => whnf
  refine Br.mk (fun hb => ?_) (fun hb => ?_)
  ·have hb : i < rows.length := by simp only [decide_eq_true_eq] at hb; omega
   obtain ⟨r, er⟩ : ∃ r, rows.getD i [] = r := ⟨_, rfl⟩
   have hm : r ∈ rows := by rw [← er]; exact getD_mem hb
   have c := fn_joined r (by have := h2 r hm; omega) (hi.s r hm)
   have et : rows.take (i + 1) = rows.take i ++ [r] := by rw [List.take_succ_eq_append_getElem hb, ← er, List.getD_eq_getElem?_getD, List.getElem?_eq_getElem hb]; rfl
   conv => whnf
   refine ⟨⟨⟨by omega, by rw [cTT_len]; omega⟩, cTT_sz _⟩, ?_⟩
   conv => whnf
   refine ⟨_, cTT_as hb er, ?_⟩
   conv => whnf
   refine VCall.of_data c (nd _) ?_
   conv => whnf
   refine Sub.full rfl ?_
   conv => whnf
   refine Sub.full (by rw [cT_len, List.length_map, List.length_take]; omega) ?_
   conv => whnf
   refine ⟨by show (i + 1) * 16 ≤ _; omega, ?_⟩
   conv => whnf
   refine Wr.i64 (y := ((i + 1 : Nat) : Int)) rfl (by omega) (by omega) ?_
   conv => whnf
   refine ⟨i + 1, hb, by show rows.length - (i + 1) < rows.length - i; omega, ⟨rfl, rfl, rfl, rfl, trivial⟩, ?_, trivial⟩
   show Ob.row true 1 (cT _ ++ _) = _
   rw [cT_append1, et, List.map_append]; rfl
  ·have hb : i = rows.length := by simp only [decide_eq_false_iff_not] at hb; omega
   rw [hb, List.take_length]
   have lenT : ∀ r, r ∈ rows → (joinT r).length ≤ 13000000 := fun r hm => by
    have h1 := joinT_len (m := 1000000) (hi.s r hm)
    have h2 : r.length * (1000000 + 1) ≤ 12 * (1000000 + 1) := Nat.mul_le_mul_right _ (h2 r hm)
    omega
   have hj := join_len (xs := rows.map joinT) (sep := [59]) (m := 13000000) fun x hx => by
    obtain ⟨r, hr, rfl⟩ := List.mem_map.1 hx
    exact lenT r hr
   have hj2 : (rows.map joinT).length * (13000000 + [59].length) ≤ 12 * (13000000 + 1) := Nat.mul_le_mul (by rw [List.length_map]; omega) (Nat.le_refl _)
   have cj : Fn Tryz.prog 60 [lT (rows.map joinT), Str [59]] [] (Str (Lib.join (rows.map joinT) [59])) [] := fn_Join _ [59] (by rw [List.length_map]; omega) (by omega)
   have hlen : (rows.map joinT).length = rows.length := by rw [List.length_map]
   conv => whnf
   refine VCall.lend cj ⟨?_, rfl, trivial⟩ rfl ?_
   ·have := lend_wholeT (id := 22) (xs := rows.map joinT) (ys := []) (l := [(22, .row true 1 (cT (rows.map joinT)))]) (by rw [List.append_nil]; rfl)
    rw [hlen] at this
    exact this
   conv => whnf
   exact ⟨rfl, rfl, trivial, rfl⟩
theorem chainText_both (rows : Tss) (hi : ChIn rows) : ∃ r1 r2, Fn Tryz.prog 21 [chI rows] [] (.tup [Str r1, B r2]) [] ∧ Fn Tryz.prog 22 [chI rows] [] (.tup [Str r1, B r2]) [] :=
 ⟨_, _, fn_sChainText rows hi, fn_ChainText rows hi⟩
theorem law_chainText (rows : Tss) (h0 : rows.length < 2 ^ 47) (hr0 : ∀ r, r ∈ rows → r.length < 2 ^ 47) (hs0 : ∀ r, r ∈ rows → ∀ x, x ∈ r → x.length < 2 ^ 47) : Fn Tryz.prog 5 [chI rows] [] (B true) [] := by
 have c0 := fn_szChain rows 1000000 (by omega) (fun r hr => by have := hr0 r hr; omega) (fun r hr x hx => by have := hs0 r hr x hx; omega) (by decide) (by decide)
 refine Fn.intro (ks := [0,1,2,3,4,5,6,7,8,9,10,15,36,41,55]) hty rfl rfl rfl rfl rfl ?_
 conv => whnf
 refine VCall.of_data c0 (nd _) ?_
 obtain ⟨m, em⟩ : ∃ m, szRR 1000000 rows = m := ⟨_, rfl⟩
 rw [em]
 conv => whnf
 refine Br.mk (fun h => ?_) (fun h => ?_)
 ·conv => whnf
  exact ⟨rfl, trivial, rfl⟩
 ·have h : 0 ≤ m := by simpa using h
  have hi := szRR_in (em ▸ h) (by decide)
  obtain ⟨r1, r2, cs, ci⟩ := chainText_both rows hi
  conv => whnf
  refine VCall.of_data (fn_toChaind rows false hi) (ndA fun k => rfl) ?_
  conv => whnf
  refine VCall.of_data cs (ndT fun _ => rfl) ?_
  conv => whnf
  refine VCall.of_fn (k := 23) (fn_toChain rows hi) namesCh rfl ?_
  conv => whnf
  refine VCall.lend ci ⟨lend_ch rfl, trivial⟩ rfl ?_
  conv => whnf
  rw [show ((⟨r1.toArray⟩ : ByteArray).toList == (⟨r1.toArray⟩ : ByteArray).toList) = true by simp]
  conv => whnf
  rw [show (r2 == r2) = true by simp]
  conv => whnf
  refine VDraw.canon [(41, B false), (5, B r2), (4, Str r1), (1, .lp 1 0)] [(1, .box true [.d (.sl (cTT rows))])] ?_ ?_
  ·refine VDraw.go hmo hty 0 [] rfl ?_
   conv => whnf
   refine ⟨?_, ?_⟩
   ·
    conv => whnf
    refine VCall.of_fn (k := 39) (fn_toChain rows hi) namesCh rfl ?_
    conv => whnf
    refine VCall.parN [(1000000, 23), (1000001, 39)] (fn_intactChain rows hi) ⟨⟨⟨rfl, rfl, rfl, rfl⟩, trivial⟩, ⟨⟨rfl, rfl, rfl, rfl⟩, trivial⟩, trivial⟩ ⟨⟨rfl, rfl⟩, ⟨rfl, rfl⟩, trivial⟩ rfl rfl rfl rfl ?_
    conv => whnf
    exact ⟨⟨rfl, rfl, rfl, rfl, trivial⟩, rfl, trivial⟩
   ·conv => whnf
    refine ⟨?_, ?_⟩
    ·
     conv => whnf
     refine VCall.of_fn (k := 39) (fn_toChain rows hi) namesCh rfl ?_
     conv => whnf
     refine VCall.parN [(1000000, 23), (1000001, 39)] (fn_intactChain rows hi) ⟨⟨⟨rfl, rfl, rfl, rfl⟩, trivial⟩, ⟨⟨rfl, rfl, rfl, rfl⟩, trivial⟩, trivial⟩ ⟨⟨rfl, rfl⟩, ⟨rfl, rfl⟩, trivial⟩ rfl rfl rfl rfl ?_
     conv => whnf
     exact ⟨⟨rfl, rfl, rfl, rfl, trivial⟩, rfl, trivial⟩
    ·
     conv => whnf
     refine VCall.of_fn (k := 39) (fn_toChain rows hi) namesCh rfl ?_
     conv => whnf
     refine VCall.parN [(1000000, 23), (1000001, 39)] (fn_intactChain rows hi) ⟨⟨⟨rfl, rfl, rfl, rfl⟩, trivial⟩, ⟨⟨rfl, rfl, rfl, rfl⟩, trivial⟩, trivial⟩ ⟨⟨rfl, rfl⟩, ⟨rfl, rfl⟩, trivial⟩ rfl rfl rfl rfl ?_
     conv => whnf
     exact ⟨⟨rfl, rfl, rfl, rfl, trivial⟩, rfl, trivial⟩
  conv => whnf
  refine VCall.of_data (fn_toChaind rows true hi) (ndA fun k => rfl) ?_
  conv => whnf
  refine VCall.of_data ci (ndT fun _ => rfl) ?_
  conv => whnf
  rw [show ((⟨r1.toArray⟩ : ByteArray).toList == (⟨r1.toArray⟩ : ByteArray).toList) = true by simp]
  conv => whnf
  rw [show (r2 == r2) = true by simp]
  conv => whnf
  exact ⟨rfl, trivial, rfl⟩
end Go.V
namespace Go.V
section
variable {P : Program} {G : Ctx} {κ : Know} {ρ : Place} {t : TL} {l : LL} {a : Act} {w : World}
end
open Classical in
theorem VLoop.invF {P : Program} {t : TL} {l : LL} {ty : TypeId → Ty} {ks : List Nat} {b : Code} {Q : Ex → TL → LL → Prop} (hty : TyOk P ty) {S : Type} (id : Nat) (T : S → TL) (L : S → LL) (I : S → Prop) (μ : S → Nat) (s0 : S) (h0 : I s0)
  (hT : entT t (T s0)) (hL : entL l (L s0))
  (round : ∀ s, I s → vcCode P ty ks b (T s) (L s) fun e t' l' => match e with
   | .n => ∃ s', I s' ∧ μ s' < μ s ∧ ∃ n sz D, isD (lget id l') sz D ∧ D.length = n ∧ wholeT id n sz t' ∧ entT (frzAT id D t') (T s') ∧ entL (lrem id l') (L s')
   | .r => Q .r t' l'
   | .x i => Q (.x i) t' l') : VLoop P ty ks b t l Q where
 out := fun G κ ρ a w hd hr => by
  let J : Act → World → Nat → Prop := fun a' w' n => ∃ s κ' ρ', μ s = n ∧ I s ∧ κ.le κ' ∧ Rel G κ' ρ' (T s) (L s) a' w'
  let M : Act → World → Nat := fun a' w' => if h : ∃ n, J a' w' n then Classical.choose (least h) else 0
  have hM : ∀ {a' w'}, (∃ n, J a' w' n) → J a' w' (M a' w') ∧ ∀ m, J a' w' m → M a' w' ≤ m := fun {a' w'} h => by
   have : M a' w' = Classical.choose (least h) := dif_pos h
   rw [this]; exact Classical.choose_spec (least h)
  refine wp_loop (fun a' w' => ∃ n, J a' w' n) M ?_ ?_
  ·obtain ⟨ρ', _, h⟩ := hr.less (entT_get hT) (entL_get hL)
   exact ⟨_, s0, κ, ρ', rfl, h0, Know.le_refl _, h⟩
  ·intro a1 w1 hJ
   obtain ⟨⟨s, κ1, ρ1, hs, hI, hk1, hr1⟩, _⟩ := hM hJ
   refine Code.wp_mono ?_ (vcCode_sound hty b _ κ1 ρ1 _ _ a1 w1 hd hr1 (round s hI))
   rintro e a2 w2 ⟨x, κ2, ρ2, t2, l2, h1, h2, h3, h4⟩
   cases e with
   | normal =>
    have h1' : some Ex.n = some x := h1
    cases h1'
    obtain ⟨s', g1, g2, n, sz, D, f1, f2, f3, hT3, hL3⟩ := h4
    obtain ⟨κ3, k1, hr3, _⟩ := h3.frzD f1 f2 f3
    obtain ⟨ρ', _, h⟩ := hr3.less (entT_get hT3) (entL_get hL3)
    have hJ2 : J a2 w2 (μ s') := ⟨s', κ3, ρ', rfl, g1, Know.le_trans hk1 (Know.le_trans h2 k1), h⟩
    have := (hM ⟨_, hJ2⟩).2 _ hJ2
    exact ⟨⟨_, hJ2⟩, by omega⟩
   | ret => have h1' : some Ex.r = some x := h1; cases h1'; exact ⟨.r, κ2, ρ2, t2, l2, rfl, Know.le_trans hk1 h2, h3, h4⟩
   | exit id => have h1' : some (Ex.x id) = some x := h1; cases h1'; exact ⟨.x id, κ2, ρ2, t2, l2, rfl, Know.le_trans hk1 h2, h3, h4⟩
   | _ => simp [exOf] at h1
theorem AVR.pp_more {κ : Know} {ρ : Place} {v : Value} {cs more : List C} (h : AVR κ ρ v (.pp (cs ++ more) 0)) : AVR κ ρ v (.pp cs 0) := by
 cases h with
 | pp b off _ _ vs hk hr =>
  exact .pp b off cs 0 vs (fun k c hc => hk k c (by rw [List.getElem?_append_left (some_lt hc)]; exact hc)) (fun k c hc => hr k c (by rw [List.getElem?_append_left (some_lt hc)]; exact hc))
theorem Fn.pp_more {P : Program} {f : FuncId} {cs : List C} (more : List C) {x : AV} {l1 : LL} (h : Fn P f [.pp cs 0] [] x l1) : Fn P f [.pp (cs ++ more) 0] [] x l1 where
 en := h.en
 out := fun κ ρ w vs hm hs hv => h.out κ ρ w vs hm hs fun i v y h1 h2 => by
  cases i with
  | zero =>
   simp at h2; subst h2
   exact (hv 0 v _ h1 rfl).pp_more
  | succ i => simp at h2
end Go.V
namespace Go.V
open Go.Proofs Go.RowKit
set_option maxRecDepth 10000
set_option maxHeartbeats 1000000
abbrev Cu := Int × Int × Int
def c1C (c : Cu) : List C := [.s (.int .i64 c.1), .s (.int .i64 c.2.1), .s (.int .i64 c.2.2)]
def cC (xs : List Cu) : List (List C) := xs.map c1C
theorem cC_len (xs : List Cu) : (cC xs).length = xs.length := by simp [cC]
theorem cC_sz (xs : List Cu) : ∀ r, r ∈ cC xs → r.length = 3 := by
 intro r hr; simp only [cC, List.mem_map] at hr; obtain ⟨n, _, rfl⟩ := hr; rfl
theorem cC_as {xs : List Cu} {i : Nat} {x : Cu} (h : i < xs.length) (e : xs.getD i (0, 0, 0) = x) : (cC xs)[i]? = some (c1C x) := by
 subst e; rw [List.getD_eq_getElem?_getD, List.getElem?_eq_getElem h]; simp [cC, h]
theorem cC_set (xs : List Cu) (k : Nat) (x : Cu) : (cC xs).set k (c1C x) = cC (xs.set k x) := by unfold cC; rw [List.map_set]
abbrev lC (xs : List Cu) : AV := .d (.sl (cC xs))
def badC (xs : List Cu) (i : Nat) : Bool :=
 !(decide (0 ≤ (xs.getD i (0, 0, 0)).1) && decide ((xs.getD i (0, 0, 0)).1 ≤ 10000)) || !(decide (1 ≤ (xs.getD i (0, 0, 0)).2.1) && decide ((xs.getD i (0, 0, 0)).2.1 ≤ 1000)) ||
  !(decide (0 ≤ (xs.getD i (0, 0, 0)).2.2) && decide ((xs.getD i (0, 0, 0)).2.2 ≤ 9)) || (decide (0 < i) && decide ((xs.getD i (0, 0, 0)).1 < (xs.getD (i - 1) (0, 0, 0)).1))
def areC (xs : List Cu) : Bool := ((List.range xs.length).all fun i => !badC xs i) && decide (xs.length ≤ 24)
theorem fn_AreCustomers (xs : List Cu) (hl : xs.length ≤ 1000000) : Fn Tryz.prog 55 [lC xs] [] (B (areC xs)) [] := by
 have hz : ((cC xs).length : Int) = xs.length := by rw [cC_len]
 refine Fn.intro (ks := [0,2,3,4,5,6,7,8,42]) hty rfl rfl rfl rfl rfl ?_
 conv => whnf
 refine VLoop.inv hty (S := Nat) (fun i => [(7, I i), (6, I xs.length), (5, lC xs),(0, lC xs)]) (fun _ => []) (fun i => i ≤ xs.length ∧ ∀ k, k < i → badC xs k = false) (fun i => xs.length - i) 0 ⟨Nat.zero_le _, fun k h => absurd h (Nat.not_lt_zero k)⟩
  ⟨rfl, congrArg I hz, rfl, rfl,trivial⟩ trivial ?_
 rintro i ⟨hi, hp⟩
 conv => whnf
 refine Br.mk (fun hb => ?_) (fun hb => ?_)
 ·have hb : i < xs.length := by simp only [decide_eq_true_eq] at hb; omega
  obtain ⟨x, ex⟩ : ∃ x, xs.getD i (0, 0, 0) = x := ⟨_, rfl⟩
  obtain ⟨y, ey⟩ : ∃ y, xs.getD (i - 1) (0, 0, 0) = y := ⟨_, rfl⟩
  have ebad : badC xs i = (!(decide (0 ≤ x.1) && decide (x.1 ≤ 10000)) || !(decide (1 ≤ x.2.1) && decide (x.2.1 ≤ 1000)) || !(decide (0 ≤ x.2.2) && decide (x.2.2 ≤ 9)) || (decide (0 < i) && decide (x.1 < y.1))) := by unfold badC; rw [ex, ey]
  have c1 := fn_in x.1 0 10000
  have c2 := fn_in x.2.1 1 1000
  have c3 := fn_in x.2.2 0 9
  obtain ⟨b1, e1⟩ : ∃ b, (decide (0 ≤ x.1) && decide (x.1 ≤ 10000)) = b := ⟨_, rfl⟩
  obtain ⟨b2, e2⟩ : ∃ b, (decide (1 ≤ x.2.1) && decide (x.2.1 ≤ 1000)) = b := ⟨_, rfl⟩
  obtain ⟨b3, e3⟩ : ∃ b, (decide (0 ≤ x.2.2) && decide (x.2.2 ≤ 9)) = b := ⟨_, rfl⟩
  rw [e1] at c1
  rw [e2] at c2
  rw [e3] at c3
  rw [e1, e2, e3] at ebad
  have stop : badC xs i = true → areC xs = false := fun h => by
   unfold areC
   rw [List.all_eq_false.2 ⟨i, by simpa using hb, by rw [h]; decide⟩]; rfl
  have next : badC xs i = false → ∀ k, k < i + 1 → badC xs k = false := fun h k hk => by
   rcases Nat.lt_or_ge k i with h2 | h2
   ·exact hp k h2
   ·rw [show k = i by omega]; exact h
  conv => whnf
  refine ⟨⟨⟨by omega, by omega⟩, cC_sz _⟩, ?_⟩
  conv => whnf
  refine ⟨_, cC_as hb ex, ?_⟩
  conv => whnf
  refine VDraw.go hmo hty 31 [] rfl ?_
  conv => whnf
  refine QCall.of_data c1 (nd _) ?_
  conv => whnf
  cases b1 with
  | false =>
   conv => whnf
   rw [stop (by rw [ebad]; rfl)]
   exact ⟨rfl, trivial, rfl⟩
  | true =>
   conv => whnf
   refine QCall.of_data c2 (nd _) ?_
   conv => whnf
   cases b2 with
   | false =>
    conv => whnf
    rw [stop (by rw [ebad]; rfl)]
    exact ⟨rfl, trivial, rfl⟩
   | true =>
    conv => whnf
    refine QCall.of_data c3 (nd _) ?_
    conv => whnf
    cases b3 with
    | false =>
     conv => whnf
     rw [stop (by rw [ebad]; rfl)]
     exact ⟨rfl, trivial, rfl⟩
    | true =>
     conv => whnf
     by_cases h0 : 0 < i
     ·rw [decide_eq_true (show (0 : Int) < (i : Int) by omega)]
      conv => whnf
      refine Wr.i64 (y := ((i - 1 : Nat) : Int)) (by omega) (by omega) (by omega) ?_
      conv => whnf
      refine ⟨⟨⟨by omega, by omega⟩, cC_sz _⟩, ?_⟩
      conv => whnf
      refine ⟨_, cC_as (by omega) ey, ?_⟩
      conv => whnf
      by_cases h1 : x.1 < y.1
      ·rw [decide_eq_true h1]
       conv => whnf
       rw [stop (by rw [ebad, decide_eq_true h0, decide_eq_true h1]; rfl)]
       exact ⟨rfl, trivial, rfl⟩
      ·rw [decide_eq_false h1]
       conv => whnf
       refine Wr.i64 (y := ((i + 1 : Nat) : Int)) rfl (by omega) (by omega) ?_
       conv => whnf
       exact ⟨i + 1, ⟨hb, next (by rw [ebad, decide_eq_false h1, Bool.and_false]; rfl)⟩, by show xs.length - (i + 1) < xs.length - i; omega, ⟨rfl, rfl, rfl, rfl,trivial⟩, trivial⟩
     ·rw [decide_eq_false (show ¬ (0 : Int) < (i : Int) by omega)]
      conv => whnf
      refine Wr.i64 (y := ((i + 1 : Nat) : Int)) rfl (by omega) (by omega) ?_
      conv => whnf
      exact ⟨i + 1, ⟨hb, next (by rw [ebad, decide_eq_false h0]; rfl)⟩, by show xs.length - (i + 1) < xs.length - i; omega, ⟨rfl, rfl, rfl, rfl,trivial⟩, trivial⟩
 ·have hb : i = xs.length := by simp only [decide_eq_false_iff_not] at hb; omega
  subst hb
  have e : areC xs = decide (((xs.length : Nat) : Int) ≤ 24) := by
   unfold areC
   rw [List.all_eq_true.2 fun k hk => by rw [hp k (by simpa using hk)]; rfl, Bool.true_and]
   exact decide_eq_decide.2 (by omega)
  conv => whnf
  rw [hz]
  exact ⟨by rw [e], trivial, rfl⟩
theorem fn_l05Are (xs : List Cu) (hl : xs.length ≤ 1000000) : Fn Tryz.prog 110 [lC xs] [] (B (areC xs)) [] := by
 have hz : ((cC xs).length : Int) = xs.length := by rw [cC_len]
 refine Fn.intro (ks := [0,2,3,4,6,7,8,44]) hty rfl rfl rfl rfl rfl ?_
 conv => whnf
 refine VLoop.inv hty (S := Nat) (fun i => [(7, I i), (6, I xs.length), (0, lC xs)]) (fun _ => []) (fun i => i ≤ xs.length ∧ ∀ k, k < i → badC xs k = false) (fun i => xs.length - i) 0 ⟨Nat.zero_le _, fun k h => absurd h (Nat.not_lt_zero k)⟩
  ⟨rfl, congrArg I hz, rfl, trivial⟩ trivial ?_
 rintro i ⟨hi, hp⟩
 conv => whnf
 refine Br.mk (fun hb => ?_) (fun hb => ?_)
 ·have hb : i < xs.length := by simp only [decide_eq_true_eq] at hb; omega
  obtain ⟨x, ex⟩ : ∃ x, xs.getD i (0, 0, 0) = x := ⟨_, rfl⟩
  obtain ⟨y, ey⟩ : ∃ y, xs.getD (i - 1) (0, 0, 0) = y := ⟨_, rfl⟩
  have ebad : badC xs i = (!(decide (0 ≤ x.1) && decide (x.1 ≤ 10000)) || !(decide (1 ≤ x.2.1) && decide (x.2.1 ≤ 1000)) || !(decide (0 ≤ x.2.2) && decide (x.2.2 ≤ 9)) || (decide (0 < i) && decide (x.1 < y.1))) := by unfold badC; rw [ex, ey]
  have c1 := fn_l00In x.1 0 10000
  have c2 := fn_l00In x.2.1 1 1000
  have c3 := fn_l00In x.2.2 0 9
  obtain ⟨b1, e1⟩ : ∃ b, (decide (0 ≤ x.1) && decide (x.1 ≤ 10000)) = b := ⟨_, rfl⟩
  obtain ⟨b2, e2⟩ : ∃ b, (decide (1 ≤ x.2.1) && decide (x.2.1 ≤ 1000)) = b := ⟨_, rfl⟩
  obtain ⟨b3, e3⟩ : ∃ b, (decide (0 ≤ x.2.2) && decide (x.2.2 ≤ 9)) = b := ⟨_, rfl⟩
  rw [e1] at c1
  rw [e2] at c2
  rw [e3] at c3
  rw [e1, e2, e3] at ebad
  have stop : badC xs i = true → areC xs = false := fun h => by
   unfold areC
   rw [List.all_eq_false.2 ⟨i, by simpa using hb, by rw [h]; decide⟩]; rfl
  have next : badC xs i = false → ∀ k, k < i + 1 → badC xs k = false := fun h k hk => by
   rcases Nat.lt_or_ge k i with h2 | h2
   ·exact hp k h2
   ·rw [show k = i by omega]; exact h
  conv => whnf
  refine ⟨⟨⟨by omega, by omega⟩, cC_sz _⟩, ?_⟩
  conv => whnf
  refine ⟨_, cC_as hb ex, ?_⟩
  conv => whnf
  refine VDraw.go hmo hty 31 [] rfl ?_
  conv => whnf
  refine QCall.of_data c1 (nd _) ?_
  conv => whnf
  cases b1 with
  | false =>
   conv => whnf
   rw [stop (by rw [ebad]; rfl)]
   exact ⟨rfl, trivial, rfl⟩
  | true =>
   conv => whnf
   refine QCall.of_data c2 (nd _) ?_
   conv => whnf
   cases b2 with
   | false =>
    conv => whnf
    rw [stop (by rw [ebad]; rfl)]
    exact ⟨rfl, trivial, rfl⟩
   | true =>
    conv => whnf
    refine QCall.of_data c3 (nd _) ?_
    conv => whnf
    cases b3 with
    | false =>
     conv => whnf
     rw [stop (by rw [ebad]; rfl)]
     exact ⟨rfl, trivial, rfl⟩
    | true =>
     conv => whnf
     by_cases h0 : 0 < i
     ·rw [decide_eq_true (show (0 : Int) < (i : Int) by omega)]
      conv => whnf
      refine Wr.i64 (y := ((i - 1 : Nat) : Int)) (by omega) (by omega) (by omega) ?_
      conv => whnf
      refine ⟨⟨⟨by omega, by omega⟩, cC_sz _⟩, ?_⟩
      conv => whnf
      refine ⟨_, cC_as (by omega) ey, ?_⟩
      conv => whnf
      by_cases h1 : x.1 < y.1
      ·rw [decide_eq_true h1]
       conv => whnf
       rw [stop (by rw [ebad, decide_eq_true h0, decide_eq_true h1]; rfl)]
       exact ⟨rfl, trivial, rfl⟩
      ·rw [decide_eq_false h1]
       conv => whnf
       refine Wr.i64 (y := ((i + 1 : Nat) : Int)) rfl (by omega) (by omega) ?_
       conv => whnf
       exact ⟨i + 1, ⟨hb, next (by rw [ebad, decide_eq_false h1, Bool.and_false]; rfl)⟩, by show xs.length - (i + 1) < xs.length - i; omega, ⟨rfl, rfl, rfl, trivial⟩, trivial⟩
     ·rw [decide_eq_false (show ¬ (0 : Int) < (i : Int) by omega)]
      conv => whnf
      refine Wr.i64 (y := ((i + 1 : Nat) : Int)) rfl (by omega) (by omega) ?_
      conv => whnf
      exact ⟨i + 1, ⟨hb, next (by rw [ebad, decide_eq_false h0]; rfl)⟩, by show xs.length - (i + 1) < xs.length - i; omega, ⟨rfl, rfl, rfl, trivial⟩, trivial⟩
 ·have hb : i = xs.length := by simp only [decide_eq_false_iff_not] at hb; omega
  subst hb
  have e : areC xs = decide (((xs.length : Nat) : Int) ≤ 24) := by
   unfold areC
   rw [List.all_eq_true.2 fun k hk => by rw [hp k (by simpa using hk)]; rfl, Bool.true_and]
   exact decide_eq_decide.2 (by omega)
  conv => whnf
  rw [hz]
  exact ⟨by rw [e], trivial, rfl⟩
abbrev dkI (rows : Tss) (xs : List Cu) : AV := .ag [.d (.sl (cTT rows)), .d (.sl (cC xs))]
def deskB (rows : Tss) (xs : List Cu) : Bool := (chainQ rows).isSome && areC xs
theorem fn_ValidDesk (rows : Tss) (xs : List Cu) (hi : ChIn rows) (hl : xs.length ≤ 1000000) : Fn Tryz.prog 19 [dkI rows xs] [] (B (deskB rows xs)) [] := by
 have c1 := fn_ValidChain rows hi
 have c2 := fn_AreCustomers xs hl
 unfold deskB
 obtain ⟨b1, e1⟩ : ∃ b, (chainQ rows).isSome = b := ⟨_, rfl⟩
 rw [e1] at c1
 rw [e1]
 refine Fn.intro (ks := [0,1,2]) hty rfl rfl rfl rfl rfl ?_
 conv => whnf
 refine VCall.of_data c1 (nd _) ?_
 conv => whnf
 cases b1 with
 | false =>
  conv => whnf
  exact ⟨rfl, trivial, rfl⟩
 | true =>
  conv => whnf
  refine VCall.of_data c2 (nd _) ?_
  conv => whnf
  exact ⟨rfl, trivial, rfl⟩
theorem fn_l11Is (rows : Tss) (xs : List Cu) (hi : ChIn rows) (hl : xs.length ≤ 1000000) : Fn Tryz.prog 52 [.pp [.sl (cTT rows), .sl (cC xs)] 0] [] (B (deskB rows xs)) [] := by
 have c1 := fn_l03Is rows hi
 have c2 := fn_l05Are xs hl
 unfold deskB
 obtain ⟨b1, e1⟩ : ∃ b, (chainQ rows).isSome = b := ⟨_, rfl⟩
 rw [e1] at c1
 rw [e1]
 refine Fn.intro (ks := [0,2]) hty rfl rfl rfl rfl rfl ?_
 conv => whnf
 refine VCall.of_data (c1.pp_more [.sl (cC xs)]) (nd _) ?_
 conv => whnf
 cases b1 with
 | false =>
  conv => whnf
  exact ⟨rfl, trivial, rfl⟩
 | true =>
  conv => whnf
  refine VCall.of_data c2 (nd _) ?_
  conv => whnf
  exact ⟨rfl, trivial, rfl⟩
theorem fn_sValidDesk (rows : Tss) (xs : List Cu) (hi : ChIn rows) (hl : xs.length ≤ 1000000) : Fn Tryz.prog 17 [dkI rows xs] [] (B (deskB rows xs)) [] := by
 have c1 := fn_l11Is rows xs hi hl
 refine Fn.intro (ks := [0,1,2]) hty rfl rfl rfl rfl rfl ?_
 conv => whnf
 refine VCall.thaw 1 (cs := [.sl (cTT rows), .sl (cC xs)]) rfl ?_
 refine VCall.of_data c1 (nd _) ?_
 conv => whnf
 exact ⟨rfl, trivial, rfl⟩
end Go.V
namespace Go.V
open Go.Proofs Go.RowKit
set_option maxRecDepth 10000
set_option maxHeartbeats 1000000
abbrev filC : Cu := (-7000000000000000101, -7000000000000000101, -7000000000000000101)
def withRoomC (xs : List Cu) : List Cu := xs ++ List.replicate (room xs.length) filC
abbrev cuI (c : Cu) : AV := .ag [I c.1, I c.2.1, I c.2.2]
theorem fn_toCustomer (c : Cu) : Fn Tryz.prog 111 [cuI c] [] (cuI c) [] := by
 refine Fn.intro (ks := [0,1,2,3]) hty rfl rfl rfl rfl rfl ?_
 conv => whnf
 exact ⟨rfl, rfl, rfl, trivial, rfl⟩
theorem fn_filler : Fn Tryz.prog 112 [] [] (cuI filC) [] := by
 refine Fn.intro (ks := [0]) hty rfl rfl rfl rfl rfl ?_
 conv => whnf
 exact ⟨rfl, rfl, rfl, trivial, rfl⟩
theorem fn_eqCustomer (x y : Cu) : Fn Tryz.prog 155 [cuI x, cuI y] [] (B (decide (x = y))) [] := by
 obtain ⟨x1, x2, x3⟩ := x
 obtain ⟨y1, y2, y3⟩ := y
 refine Fn.intro (ks := [0,1,2,3,4,9,14,19]) hty rfl rfl rfl rfl rfl ?_
 conv => whnf
 by_cases h1 : x1 = y1
 ·rw [decide_eq_true h1]
  conv => whnf
  by_cases h2 : x2 = y2
  ·rw [decide_eq_true h2]
   conv => whnf
   by_cases h3 : x3 = y3
   ·rw [decide_eq_true h3]
    conv => whnf
    exact ⟨by rw [decide_eq_true (by rw [h1, h2, h3])], trivial, rfl⟩
   ·rw [decide_eq_false h3]
    conv => whnf
    exact ⟨by rw [decide_eq_false fun e => h3 (by simpa using (Prod.mk.inj (Prod.mk.inj e).2).2)], trivial, rfl⟩
  ·rw [decide_eq_false h2]
   conv => whnf
   exact ⟨by rw [decide_eq_false fun e => h2 (by simpa using (Prod.mk.inj (Prod.mk.inj e).2).1)], trivial, rfl⟩
 ·rw [decide_eq_false h1]
  conv => whnf
  exact ⟨by rw [decide_eq_false fun e => h1 (Prod.mk.inj e).1], trivial, rfl⟩
theorem fn_eqC (xs ys : List Cu) (hl : xs.length ≤ 3000000) (hl' : ys.length ≤ 3000000) : Fn Tryz.prog 113 [lC xs, lC ys] [] (B (decide (xs = ys))) [] := by
 refine Fn.intro (ks := [0,1,4,5,10,14,26]) hty rfl rfl rfl rfl rfl ?_
 conv => whnf
 rw [cC_len, cC_len]
 refine Br.mk (fun h => ?_) (fun h => ?_)
 ·have h : ¬ xs.length = ys.length := by simp at h; omega
  conv => whnf
  refine ⟨?_, trivial, rfl⟩
  rw [decide_eq_false fun e => h (by rw [e])]
 ·have hxy : xs.length = ys.length := by simp at h; omega
  conv => whnf
  refine VLoop.inv hty (S := Nat) (fun k => [(5, I k), (1, lC ys), (0, lC xs)]) (fun _ => []) (fun k => k ≤ xs.length ∧ xs.take k = ys.take k) (fun k => xs.length - k) 0 ⟨Nat.zero_le _, rfl⟩
   ⟨rfl, rfl, rfl, trivial⟩ trivial ?_
  rintro k ⟨hk, hp⟩
  conv => whnf
  rw [cC_len]
  refine Br.mk (fun h => ?_) (fun h => ?_)
  ·have hk' : k < xs.length := by simp at h; omega
   obtain ⟨x, ex⟩ : ∃ x, xs.getD k (0, 0, 0) = x := ⟨_, rfl⟩
   obtain ⟨y, ey⟩ : ∃ y, ys.getD k (0, 0, 0) = y := ⟨_, rfl⟩
   have ex' : xs[k] = x := by rw [← ex, List.getD_eq_getElem?_getD, List.getElem?_eq_getElem hk']; rfl
   have ey' : ys[k]'(by omega) = y := by rw [← ey, List.getD_eq_getElem?_getD, List.getElem?_eq_getElem (by omega)]; rfl
   conv => whnf
   refine VDraw.go hmo hty 10 [] rfl ?_
   conv => whnf
   refine ⟨⟨⟨by omega, by rw [cC_len]; omega⟩, cC_sz _⟩, ?_⟩
   conv => whnf
   refine ⟨_, cC_as hk' ex, ?_⟩
   conv => whnf
   refine ⟨⟨⟨by omega, by rw [cC_len]; omega⟩, cC_sz _⟩, ?_⟩
   conv => whnf
   refine ⟨_, cC_as (by omega) ey, ?_⟩
   conv => whnf
   refine QCall.of_data (fn_eqCustomer x y) (nd _) ?_
   conv => whnf
   by_cases h2 : x = y
   ·rw [decide_eq_true h2]
    conv => whnf
    refine Wr.fit (wrap_i64 (by omega) (by omega)) ?_
    conv => whnf
    refine ⟨k + 1, ⟨hk', ?_⟩, by omega, ⟨rfl, rfl, rfl, trivial⟩, trivial⟩
    rw [List.take_succ_eq_append_getElem hk', List.take_succ_eq_append_getElem (by omega), hp, ex', ey', h2]
   ·rw [decide_eq_false h2]
    conv => whnf
    refine ⟨?_, trivial, rfl⟩
    rw [decide_eq_false fun e => h2 (by subst e; exact ex.symm.trans ey)]
  ·have hk' : k = xs.length := by simp at h; omega
   conv => whnf
   refine ⟨?_, trivial, rfl⟩
   subst hk'
   rw [List.take_length, List.take_of_length_le (by omega)] at hp
   rw [decide_eq_true hp]
theorem fn_toC (xs : List Cu) (b : Bool) (hb : b = false ∨ xs ≠ []) (hl : xs.length ≤ 1000000) :
  Fn Tryz.prog 53 [lC xs, B b] [] (.ls 0 0 xs.length 3) [(0, .row true 3 (cC (withRoomC xs)))] := by
 have hr := room_le xs.length
 generalize hm : room xs.length = m at hr
 have hwl : withRoomC xs = xs ++ List.replicate m filC := by rw [withRoomC, hm]
 have k1 : (xs ++ List.replicate m (0, 0, 0)).length = (List.replicate (xs.length + m) ((0, 0, 0) : Cu)).length := by simp
 have k2 : (xs ++ List.replicate m filC).length = (xs ++ List.replicate m (0, 0, 0)).length := by simp
 have k3 : (xs ++ List.replicate m filC).length = xs.length + m := by simp
 have c1 := fn_room xs.length hl
 rw [hm] at c1
 refine Fn.intro (ks := [0,1,4,5,6,7,13,24,40]) hty rfl rfl rfl rfl rfl ?_
 cases b
 case' true =>
  conv => whnf
  refine Br.mk (fun h => absurd h ?_) (fun _ => ?_)
  ·have hne : xs ≠ [] := by rcases hb with hb | hb; cases hb; exact hb
   have := List.length_pos_iff.2 hne
   rw [cC_len]; simp; exact hne
 all_goals
  clear hb
  conv => whnf
  rw [cC_len]
  refine VCall.of_data c1 (nd _) ?_
  conv => whnf
  refine Wr.fit (wrap_i64 (by omega) (by omega)) ?_
  conv => whnf
  refine ⟨⟨by omega, by omega, by show ((xs.length : Int) + m) * ((24 : Nat) : Int) ≤ _; omega, by omega⟩, ?_⟩
  conv => whnf
  refine VLoop.inv hty (S := Nat) (fun k => [(6, I k), (5, .ls 20 0 (xs.length + m) 3), (0, lC xs)])
   (fun k => [(20, .row true 3 (cC (fillL (xs ++ List.replicate m (0, 0, 0)) (List.replicate (xs.length + m) (0, 0, 0)) k)))]) (fun k => k ≤ xs.length) (fun k => xs.length - k) 0 (Nat.zero_le _)
   ⟨rfl, by show AV.ls _ _ _ _ = _; congr 1, rfl, trivial⟩ ⟨by show Ob.row true 3 (List.replicate ((xs.length : Int) + m).toNat _) = _; rw [fill_zero, show ((xs.length : Int) + m).toNat = xs.length + m by omega]; simp only [cC, List.map_replicate]; rfl, trivial⟩ ?_
  intro k hk
  conv => whnf
  rw [cC_len]
  refine Br.mk (fun h => ?_) (fun h => ?_)
  ·have hk' : k < xs.length := by simp at h; omega
   have ex : xs.getD k (0, 0, 0) = xs[k] := by rw [List.getD_eq_getElem?_getD, List.getElem?_eq_getElem hk']; rfl
   conv => whnf
   refine ⟨⟨⟨by omega, by rw [cC_len]; omega⟩, cC_sz xs⟩, ?_⟩
   conv => whnf
   refine ⟨_, cC_as hk' ex, ?_⟩
   conv => whnf
   refine VCall.of_data (fn_toCustomer xs[k]) (ndA fun k => rfl) ?_
   conv => whnf
   refine ⟨by omega, ?_⟩
   conv => whnf
   have kl : k + 0 < (cC (fillL (xs ++ List.replicate m (0, 0, 0)) (List.replicate (xs.length + m) (0, 0, 0)) k)).length := by rw [cC_len, fill_len k1]; simp; omega
   refine ⟨kl, ?_⟩
   conv => whnf
   refine Wr.fit (wrap_i64 (by omega) (by omega)) ?_
   conv => whnf
   refine ⟨k + 1, hk', by omega, ⟨rfl, rfl, rfl, trivial⟩, ?_, trivial⟩
   show Ob.row true 3 ((cC _).set k (c1C xs[k])) = _
   rw [cC_set, ← fill_set k1 (by simp; omega)]
   congr 3
   rw [List.getElem_append_left hk']
  ·have hk' : k = xs.length := by simp at h; omega
   subst hk'
   conv => whnf
   rw [cC_len]
   have e0 : fillL (xs ++ List.replicate m (0, 0, 0)) (List.replicate (xs.length + m) (0, 0, 0)) xs.length = fillL (xs ++ List.replicate m filC) (xs ++ List.replicate m (0, 0, 0)) xs.length := by
    simp [fillL]
   rw [e0]
   refine VLoop.inv hty (S := Nat) (fun k => [(7, I k), (5, .ls 20 0 (xs.length + m) 3), (0, lC xs)])
    (fun k => [(20, .row true 3 (cC (fillL (xs ++ List.replicate m filC) (xs ++ List.replicate m (0, 0, 0)) k)))]) (fun k => xs.length ≤ k ∧ k ≤ xs.length + m) (fun k => xs.length + m - k) xs.length ⟨Nat.le_refl _, by omega⟩
    ⟨rfl, rfl, rfl, trivial⟩ ⟨rfl, trivial⟩ ?_
   rintro k ⟨hk1, hk2⟩
   conv => whnf
   refine Br.mk (fun h => ?_) (fun h => ?_)
   ·have hk' : k < xs.length + m := by simp at h; omega
    conv => whnf
    refine VCall.of_data fn_filler (ndA fun k => rfl) ?_
    conv => whnf
    refine ⟨by omega, ?_⟩
    conv => whnf
    have kl : k + 0 < (cC (fillL (xs ++ List.replicate m filC) (xs ++ List.replicate m (0, 0, 0)) k)).length := by rw [cC_len, fill_len k2]; simp; omega
    refine ⟨kl, ?_⟩
    conv => whnf
    refine Wr.fit (wrap_i64 (by omega) (by omega)) ?_
    conv => whnf
    refine ⟨k + 1, ⟨by omega, by omega⟩, by omega, ⟨rfl, rfl, rfl, trivial⟩, ?_, trivial⟩
    show Ob.row true 3 ((cC _).set k (c1C filC)) = _
    rw [cC_set, ← fill_set k2 (by simp; omega)]
    congr 3
    rw [List.getElem_append_right (by omega)]; simp
   ·have hk' : k = xs.length + m := by simp at h; omega
    subst hk'
    conv => whnf
    rw [cC_len, fill_end k2 (by simp), ← hwl]
    refine ⟨⟨by omega, by omega, by rw [cC_len, hwl, k3]; omega⟩, ?_⟩
    conv => whnf
    exact ⟨⟨rfl, rfl, rfl, rfl, by omega, rfl⟩, [], rfl, trivial, rfl⟩
theorem fn_toC0 : Fn Tryz.prog 53 [lC [], B true] [] (.d (.sl [])) [] := by
 refine Fn.intro (ks := [0,1,4,5,6,7,13,24,40]) hty rfl rfl rfl rfl rfl ?_
 conv => whnf
 exact ⟨trivial, rfl⟩
theorem fn_toCd (xs : List Cu) (b : Bool) (hl : xs.length ≤ 1000000) : Fn Tryz.prog 53 [lC xs, B b] [] (lC xs) [] := by
 by_cases h : b = false ∨ xs ≠ []
 ·have := (fn_toC xs b h hl).freeze (by rw [cC_len]; simp [withRoomC])
  have e : (List.drop 0 (cC (withRoomC xs))).take xs.length = cC xs := by simp [cC, withRoomC]
  rwa [e] at this
 ·have hb : b = true := by cases b; exact absurd (.inl rfl) h; rfl
  have hx : xs = [] := Classical.byContradiction fun e => h (.inr e)
  subst hb; subst hx
  exact fn_toC0
theorem fn_intactC (xs : List Cu) (hl : xs.length ≤ 1000000) :
  Fn Tryz.prog 56 [.ls 1000000 0 xs.length 3, .ls 1000001 0 xs.length 3] [(1000000, .row true 3 (cC (withRoomC xs))), (1000001, .row true 3 (cC (withRoomC xs)))] (B true)
   [(1000000, .row true 3 (cC (withRoomC xs))), (1000001, .row true 3 (cC (withRoomC xs)))] := by
 have hr := room_le xs.length
 have hw : (withRoomC xs).length = xs.length + room xs.length := by simp [withRoomC]
 refine Fn.intro (ks := [0,1,4,5]) hty rfl rfl rfl rfl rfl ?_
 conv => whnf
 refine VCall.of_data (fn_room xs.length (by omega)) (nd _) ?_
 conv => whnf
 refine Wr.fit (wrap_i64 (by omega) (by omega)) ?_
 conv => whnf
 refine VDraw.go hmo hty 15 [] rfl ?_
 conv => whnf
 rw [decide_eq_true rfl]
 conv => whnf
 refine ⟨⟨by omega, by omega, by rw [cC_len, hw]; omega⟩, ?_⟩
 conv => whnf
 refine ⟨⟨by omega, by omega, by rw [cC_len, hw]; omega⟩, ?_⟩
 conv => whnf
 refine QCall.lend (fn_eqC (withRoomC xs) (withRoomC xs) (by omega) (by omega)) ⟨⟨rfl, ?_, ?_⟩, ⟨rfl, ?_, ?_⟩, trivial⟩ rfl ?_
 iterate 2
  ·simp only [cC_len, hw]; omega
  ·show ((cC _).drop (Int.toNat 0 + 0)).take _ = _
   rw [List.take_of_length_le (by simp [cC_len, hw]; omega)]; rfl
 conv => whnf
 exact ⟨by simp, ⟨rfl, rfl, trivial⟩, rfl⟩
def szCC (n : Int) (xs : List Cu) : Int := if n - xs.length < 0 then -1 else n - xs.length
theorem fn_szC (xs : List Cu) (n : Int) (hl : xs.length ≤ 281474976710656) (hn : n ≤ 1000000) (hn0 : 0 ≤ n) : Fn Tryz.prog 51 [lC xs, I n] [] (I (szCC n xs)) [] := by
 refine Fn.intro (ks := [0,1,4,10]) hty rfl rfl rfl rfl rfl ?_
 conv => whnf
 rw [cC_len]
 refine Wr.fit (wrap_i64 (by omega) (by omega)) ?_
 conv => whnf
 unfold szCC
 refine Br.mk (fun h => ?_) (fun h => ?_)
 ·have h : n - xs.length < 0 := by simpa using h
  conv => whnf
  exact ⟨by rw [if_pos h], trivial, rfl⟩
 ·have h : ¬ n - (xs.length : Int) < 0 := by simpa using h
  conv => whnf
  exact ⟨by rw [if_neg h], trivial, rfl⟩
def szDk (n : Int) (rows : Tss) (xs : List Cu) : Int := if szRR n rows < 0 then -1 else szCC (szRR n rows) xs
theorem fn_szDesk (rows : Tss) (xs : List Cu) (hl : rows.length ≤ 281474976710656) (hr : ∀ r, r ∈ rows → r.length ≤ 281474976710656) (hs : ∀ r, r ∈ rows → ∀ x, x ∈ r → x.length ≤ 281474976710656) (hx : xs.length ≤ 281474976710656) :
  Fn Tryz.prog 16 [dkI rows xs, I 1000000] [] (I (szDk 1000000 rows xs)) [] := by
 have c1 := fn_szChain rows 1000000 hl hr hs (by decide) (by decide)
 have hle : 0 ≤ szRR 1000000 rows → szRR 1000000 rows ≤ 1000000 := szRR_le
 unfold szDk
 generalize szRR 1000000 rows = m at c1 hle
 refine Fn.intro (ks := [0,1,2,4,10,16]) hty rfl rfl rfl rfl rfl ?_
 conv => whnf
 refine VCall.of_data c1 (nd _) ?_
 conv => whnf
 refine Br.mk (fun h => ?_) (fun h => ?_)
 ·have h : m < 0 := by simpa using h
  conv => whnf
  exact ⟨by rw [if_pos h], trivial, rfl⟩
 ·have h : ¬ m < 0 := by simpa using h
  have c2 := fn_szC xs m hx (hle (by omega)) (by omega)
  rw [if_neg h]
  have hk : szCC m xs < 0 → szCC m xs = -1 := fun h => by unfold szCC at h ⊢; split at h <;> simp_all
  generalize szCC m xs = k at c2 hk
  conv => whnf
  refine VCall.of_data c2 (nd _) ?_
  conv => whnf
  refine Br.mk (fun h => ?_) (fun h => ?_)
  ·have h : k < 0 := by simpa using h
   rw [hk h]
   conv => whnf
   exact ⟨rfl, trivial, rfl⟩
  ·conv => whnf
   exact ⟨rfl, trivial, rfl⟩
theorem szDk_in {rows : Tss} {xs : List Cu} (h : 0 ≤ szDk 1000000 rows xs) : ChIn rows ∧ xs.length ≤ 1000000 := by
 unfold szDk at h
 split at h
 ·omega
 ·have h1 := szRR_le (n := 1000000) (rows := rows) (by omega)
  refine ⟨szRR_in (n := 1000000) (by omega) (by decide), ?_⟩
  unfold szCC at h
  split at h <;> omega
theorem namesDk {rows : Tss} {xs : List Cu} : namesIn [(0, laidM rows), (1, .row true 3 (cC (withRoomC xs)))] (.ag [.ls 0 0 rows.length 1, .ls 1 0 xs.length 3]) := fun j hj => by
 have h : j = 0 ∨ j = 1 := by
  have : (AV.ment j (.ag [.ls 0 0 rows.length 1, .ls 1 0 xs.length 3])) = (Nat.beq 0 j || (Nat.beq 1 j || false)) := rfl
  rw [this] at hj
  simp only [Bool.or_false, Bool.or_eq_true] at hj
  exact hj.imp (fun h => (Nat.eq_of_beq_eq_true h).symm) (fun h => (Nat.eq_of_beq_eq_true h).symm)
 rcases h with rfl | rfl <;> exact fun e => by cases e
theorem fn_toDesk (rows : Tss) (xs : List Cu) (hi : ChIn rows) (hl : xs.length ≤ 1000000) : Fn Tryz.prog 18 [dkI rows xs, B false] [] (.ag [.ls 0 0 rows.length 1, .ls 1 0 xs.length 3]) [(0, laidM rows), (1, .row true 3 (cC (withRoomC xs)))] := by
 refine Fn.intro (ks := [0,1,2,4,5]) hty rfl rfl rfl rfl rfl ?_
 conv => whnf
 refine VCall.of_fn (k := 9) (fn_toChain rows hi) namesCh rfl ?_
 conv => whnf
 refine VCall.of_ls (k := 14) (fn_toC xs false (.inl rfl) hl) rfl ?_
 conv => whnf
 exact ⟨⟨rfl, rfl, rfl, rfl, rfl⟩, _, rfl, ⟨rfl, rfl, rfl, rfl, rfl, rfl⟩, _, rfl, trivial, rfl⟩
theorem fn_toDeskd (rows : Tss) (xs : List Cu) (b : Bool) (hi : ChIn rows) (hl : xs.length ≤ 1000000) : Fn Tryz.prog 18 [dkI rows xs, B b] [] (dkI rows xs) [] := by
 refine Fn.intro (ks := [0,1,2,4,5]) hty rfl rfl rfl rfl rfl ?_
 conv => whnf
 refine VCall.of_data (fn_toChaind rows b hi) (ndA fun k => rfl) ?_
 conv => whnf
 refine VCall.of_data (fn_toCd xs b hl) (nd _) ?_
 conv => whnf
 exact ⟨rfl, rfl, trivial, rfl⟩
theorem fn_intactDesk (rows : Tss) (xs : List Cu) (hi : ChIn rows) (hl : xs.length ≤ 1000000) :
  Fn Tryz.prog 20 [.ag [.ls 1000000 0 rows.length 1, .ls 1000001 0 xs.length 3], .ag [.ls 1000002 0 rows.length 1, .ls 1000003 0 xs.length 3]]
   [(1000000, laidM rows), (1000001, .row true 3 (cC (withRoomC xs))), (1000002, laidM rows), (1000003, .row true 3 (cC (withRoomC xs)))] (B true)
   [(1000000, laidM rows), (1000001, .row true 3 (cC (withRoomC xs))), (1000002, laidM rows), (1000003, .row true 3 (cC (withRoomC xs)))] := by
 refine Fn.intro (ks := [0,1,2,3,4,10,16]) hty rfl rfl rfl rfl rfl ?_
 conv => whnf
 refine VCall.parN [(1000000, 1000000), (1000001, 1000002)] (fn_intactChain rows hi) ⟨⟨⟨rfl, rfl, rfl, rfl⟩, trivial⟩, ⟨⟨rfl, rfl, rfl, rfl⟩, trivial⟩, trivial⟩ ⟨⟨rfl, rfl⟩, ⟨rfl, rfl⟩, trivial⟩ rfl rfl rfl rfl ?_
 conv => whnf
 refine VCall.par2 1000001 1000003 rfl (fn_intactC xs hl) ⟨⟨rfl, rfl, rfl, rfl⟩, ⟨rfl, rfl, rfl, rfl⟩, trivial⟩ rfl rfl ?_
 conv => whnf
 exact ⟨rfl, ⟨rfl, rfl, rfl, rfl, trivial⟩, rfl⟩
theorem lend_dk {l : LL} {id id2 : Nat} {rows : Tss} {xs : List Cu} (h : lget id l = laidM rows) (h2 : lget id2 l = .row true 3 (cC (withRoomC xs))) : lends1 l [.ls id 0 rows.length 1, .ls id2 0 xs.length 3] [.d (.sl (cTT rows)), .d (.sl (cC xs))] := by
 refine ⟨(lend_ch h).1, ?_, trivial⟩
 simp only [lend1, h2]
 refine ⟨trivial, by rw [cC_len]; simp [withRoomC], ?_⟩
 simp [cC, withRoomC]
theorem law_validDesk (rows : Tss) (xs : List Cu) (h0 : rows.length < 2 ^ 47) (hr0 : ∀ r, r ∈ rows → r.length < 2 ^ 47) (hs0 : ∀ r, r ∈ rows → ∀ x, x ∈ r → x.length < 2 ^ 47) (hx0 : xs.length < 2 ^ 47) : Fn Tryz.prog 4 [dkI rows xs] [] (B true) [] := by
 have c0 := fn_szDesk rows xs (by omega) (fun r hr => by have := hr0 r hr; omega) (fun r hr x hx => by have := hs0 r hr x hx; omega) (by omega)
 refine Fn.intro (ks := [0,1,2,3,4,5,6,7,12,22,27,33]) hty rfl rfl rfl rfl rfl ?_
 conv => whnf
 refine VCall.of_data c0 (nd _) ?_
 obtain ⟨m, em⟩ : ∃ m, szDk 1000000 rows xs = m := ⟨_, rfl⟩
 rw [em]
 conv => whnf
 refine Br.mk (fun h => ?_) (fun h => ?_)
 ·conv => whnf
  exact ⟨rfl, trivial, rfl⟩
 ·have h : 0 ≤ m := by simpa using h
  obtain ⟨hi, hl⟩ := szDk_in (em ▸ h)
  have cs := fn_sValidDesk rows xs hi hl
  have ci := fn_ValidDesk rows xs hi hl
  generalize deskB rows xs = r2 at cs ci
  conv => whnf
  refine VCall.of_data (fn_toDeskd rows xs false hi hl) (ndA fun k => rfl) ?_
  conv => whnf
  refine VCall.of_data cs (nd _) ?_
  conv => whnf
  refine VCall.of_fn (k := 17) (fn_toDesk rows xs hi hl) namesDk rfl ?_
  conv => whnf
  refine VCall.lend ci ⟨lend_dk rfl rfl, trivial⟩ rfl ?_
  conv => whnf
  rw [show (r2 == r2) = true by simp]
  conv => whnf
  refine VDraw.canon [(27, B false), (4, B r2), (1, .lp 1 0)] [(1, .box true [.d (.sl (cTT rows)), .d (.sl (cC xs))])] ?_ ?_
  ·refine VDraw.go hmo hty 0 [] rfl ?_
   conv => whnf
   refine ⟨?_, ?_⟩
   ·
    conv => whnf
    refine VCall.of_fn (k := 25) (fn_toDesk rows xs hi hl) namesDk rfl ?_
    conv => whnf
    refine VCall.parN [(1000000, 17), (1000001, 1017), (1000002, 25), (1000003, 1025)] (fn_intactDesk rows xs hi hl) ⟨⟨⟨rfl, rfl, rfl, rfl⟩, ⟨rfl, rfl, rfl, rfl⟩, trivial⟩, ⟨⟨rfl, rfl, rfl, rfl⟩, ⟨rfl, rfl, rfl, rfl⟩, trivial⟩, trivial⟩ ⟨⟨rfl, rfl⟩, ⟨rfl, rfl⟩, ⟨rfl, rfl⟩, ⟨rfl, rfl⟩, trivial⟩ rfl rfl rfl rfl ?_
    conv => whnf
    exact ⟨⟨rfl, rfl, rfl, trivial⟩, rfl, trivial⟩
   ·conv => whnf
    refine ⟨?_, ?_⟩
    ·
     conv => whnf
     refine VCall.of_fn (k := 25) (fn_toDesk rows xs hi hl) namesDk rfl ?_
     conv => whnf
     refine VCall.parN [(1000000, 17), (1000001, 1017), (1000002, 25), (1000003, 1025)] (fn_intactDesk rows xs hi hl) ⟨⟨⟨rfl, rfl, rfl, rfl⟩, ⟨rfl, rfl, rfl, rfl⟩, trivial⟩, ⟨⟨rfl, rfl, rfl, rfl⟩, ⟨rfl, rfl, rfl, rfl⟩, trivial⟩, trivial⟩ ⟨⟨rfl, rfl⟩, ⟨rfl, rfl⟩, ⟨rfl, rfl⟩, ⟨rfl, rfl⟩, trivial⟩ rfl rfl rfl rfl ?_
     conv => whnf
     exact ⟨⟨rfl, rfl, rfl, trivial⟩, rfl, trivial⟩
    ·
     conv => whnf
     refine VCall.of_fn (k := 25) (fn_toDesk rows xs hi hl) namesDk rfl ?_
     conv => whnf
     refine VCall.parN [(1000000, 17), (1000001, 1017), (1000002, 25), (1000003, 1025)] (fn_intactDesk rows xs hi hl) ⟨⟨⟨rfl, rfl, rfl, rfl⟩, ⟨rfl, rfl, rfl, rfl⟩, trivial⟩, ⟨⟨rfl, rfl, rfl, rfl⟩, ⟨rfl, rfl, rfl, rfl⟩, trivial⟩, trivial⟩ ⟨⟨rfl, rfl⟩, ⟨rfl, rfl⟩, ⟨rfl, rfl⟩, ⟨rfl, rfl⟩, trivial⟩ rfl rfl rfl rfl ?_
     conv => whnf
     exact ⟨⟨rfl, rfl, rfl, trivial⟩, rfl, trivial⟩
  conv => whnf
  refine VCall.of_data (fn_toDeskd rows xs true hi hl) (ndA fun k => rfl) ?_
  conv => whnf
  refine VCall.of_data ci (nd _) ?_
  conv => whnf
  rw [show (r2 == r2) = true by simp]
  conv => whnf
  exact ⟨rfl, trivial, rfl⟩
theorem fit_C {c : C} (h : Fit c (.sl [.i .i64, .i .i64, .i .i64])) : ∃ xs : List Cu, c = .sl (cC xs) ∧ xs.length < 2 ^ 47 := by
 cases h with
 | sl rows _ h hl hf =>
  have key : ∀ rows : List (List C), (∀ r, r ∈ rows → r.length = 3) → (∀ r, r ∈ rows → ∀ (i : Nat) c k, r[i]? = some c → ([K.i .i64, .i .i64, .i .i64] : List K)[i]? = some k → Fit c k) → ∃ xs : List Cu, rows = cC xs := by
   intro rows
   induction rows with
   | nil => intro _ _; exact ⟨[], rfl⟩
   | cons r rs ih =>
    intro h1 h2
    obtain ⟨xs, e⟩ := ih (fun r hr => h1 r (List.mem_cons_of_mem _ hr)) fun r hr => h2 r (List.mem_cons_of_mem _ hr)
    have hr := h1 r (by simp)
    have hf := h2 r (by simp)
    match r, hr, hf with
    | [a, b, c], _, hf =>
     have f1 := hf 0 a _ rfl rfl
     have f2 := hf 1 b _ rfl rfl
     have f3 := hf 2 c _ rfl rfl
     cases f1 with
     | i _ x _ => cases f2 with
      | i _ y _ => cases f3 with
       | i _ z _ => exact ⟨(x, y, z) :: xs, by rw [e]; rfl⟩
  obtain ⟨xs, e⟩ := key rows hl hf
  subst e
  exact ⟨xs, rfl, by have := reach_lt; rw [cC_len] at h; omega⟩
theorem fit_desk {rs : List C} (hl : rs.length = 2) (h : ∀ (i : Nat) c k, rs[i]? = some c → ([K.sl [.sl [.s]], .sl [.i .i64, .i .i64, .i .i64]] : List K)[i]? = some k → Fit c k) :
  ∃ (rows : Tss) (xs : List Cu), rs = [.sl (cTT rows), .sl (cC xs)] ∧ rows.length < 2 ^ 47 ∧ (∀ r, r ∈ rows → r.length < 2 ^ 47) ∧ (∀ r, r ∈ rows → ∀ x, x ∈ r → x.length < 2 ^ 47) ∧ xs.length < 2 ^ 47 := by
 match rs, hl with
 | [a, b], _ =>
  obtain ⟨us, rfl, h1, h2, h3⟩ := fit_TT (h 0 a _ rfl rfl)
  obtain ⟨xs, rfl, h4⟩ := fit_C (h 1 b _ rfl rfl)
  exact ⟨us, xs, rfl, h1, h2, h3, h4⟩
end Go.V
namespace Go.V
open Go.Proofs Go.RowKit
set_option maxRecDepth 10000
set_option maxHeartbeats 1000000
theorem and32 {y : Nat} (h : y < 4294967296) : (((BitVec.ofInt IntKind.u64.bits (y : Int) &&& BitVec.ofInt IntKind.u64.bits 4294967295).toNat : Nat) : Int) = (y : Int) := by
 rw [BitVec.toNat_and]
 have e1 : (BitVec.ofInt IntKind.u64.bits (y : Int)).toNat = y := by
  show (BitVec.ofInt 64 (y : Int)).toNat = y
  rw [BitVec.toNat_ofInt]; omega
 have e2 : (BitVec.ofInt IntKind.u64.bits 4294967295).toNat = 2 ^ 32 - 1 := rfl
 rw [e1, e2, Nat.and_two_pow_sub_one_eq_mod, Nat.mod_eq_of_lt h]
theorem shr0 {y : Nat} (h : y < 4294967296) : ((y : Nat) : Int).fdiv (2 ^ min (Int.toNat 32) IntKind.u64.bits) = 0 := by
 rw [show (2 : Int) ^ min (Int.toNat 32) IntKind.u64.bits = 4294967296 from rfl, Int.fdiv_eq_ediv_of_nonneg _ (by decide)]
 omega
theorem fn_Mul64 (y : Nat) (hy : y ≤ 1000000) : Fn Tryz.prog 191 [N64 1, N64 y] [] (.tup [N64 0, N64 y]) [] := by
 refine Fn.intro (ks := [0,1,4,5,6,7,8,9,10,11,12,13]) hty rfl rfl rfl rfl rfl ?_
 conv => whnf
 refine Wr.n64 (n := 1) (and32 (y := 1) (by omega)) (by omega) ?_
 conv => whnf
 refine ⟨by decide, ?_⟩
 conv => whnf
 refine Wr.n64 (n := y) (and32 (y := y) (by omega)) (by omega) ?_
 conv => whnf
 refine ⟨by decide, ?_⟩
 conv => whnf
 have e1 := shr0 (y := 1) (by omega)
 have ey := shr0 (y := y) (by omega)
 refine Wr.n64 (n := y) (by omega) (by omega) ?_
 conv => whnf
 refine Wr.n64 (n := 0) (by rw [e1]; simp) (by omega) ?_
 conv => whnf
 refine ⟨by decide, ?_⟩
 conv => whnf
 refine Wr.n64 (n := 0) (by rw [ey]; rfl) (by omega) ?_
 conv => whnf
 refine Wr.n64 (n := 0) (and32 (y := 0) (by omega)) (by omega) ?_
 conv => whnf
 refine ⟨by decide, ?_⟩
 conv => whnf
 refine Wr.n64 (n := 0) (by rw [ey]; rfl) (by omega) ?_
 conv => whnf
 refine Wr.n64 (n := 0) rfl (by omega) ?_
 conv => whnf
 refine Wr.n64 (n := 0) (by rw [e1, ey]; rfl) (by omega) ?_
 conv => whnf
 refine Wr.n64 (n := 0) (by rw [shr0 (y := 0) (by omega)]; rfl) (by omega) ?_
 conv => whnf
 refine ⟨by decide, ?_⟩
 conv => whnf
 refine Wr.n64 (n := 0) (by rw [shr0 (y := 0) (by omega)]; rfl) (by omega) ?_
 conv => whnf
 refine Wr.n64 (n := y) (by omega) (by omega) ?_
 conv => whnf
 exact ⟨rfl, rfl, trivial, rfl⟩
theorem fn_Mul (y : Nat) (hy : y ≤ 1000000) : Fn Tryz.prog 164 [N64 1, N64 y] [] (.tup [N64 0, N64 y]) [] := by
 refine Fn.intro (ks := [0,1,4,5,6,7,8,9]) hty rfl rfl rfl rfl rfl ?_
 conv => whnf
 refine VCall.of_data (fn_Mul64 y hy) (ndT fun _ => rfl) ?_
 conv => whnf
 exact ⟨rfl, rfl, trivial, rfl⟩
abbrev zrQ : List C := [.s (.bool false), .s (.slice none 0 0), .s (.slice none 0 0)]
def repQ (a : Rat) (n k : Nat) : List (List C) := cQ (List.replicate k a) ++ List.replicate (n - k) zrQ
theorem repQ_len {a : Rat} {n k : Nat} (h : k ≤ n) : (repQ a n k).length = n := by
 unfold repQ; rw [List.length_append, cQ_len, List.length_replicate, List.length_replicate]; omega
theorem repQ_all (a : Rat) (n : Nat) : repQ a n n = cQ (List.replicate n a) := by unfold repQ; rw [Nat.sub_self]; simp
theorem cQ_take (xs : List Rat) (k : Nat) : (cQ xs).take k = cQ (xs.take k) := by unfold cQ; rw [List.map_take]
theorem repQ_copy {a : Rat} {n k m : Nat} (h : k ≤ n) (hm : m ≤ n - k) (hk : m ≤ k) : (repQ a n k).take k ++ (((repQ a n k).take k).take m ++ (repQ a n k).drop (k + m)) = repQ a n (k + m) := by
 have e1 : (repQ a n k).take k = cQ (List.replicate k a) := by
  unfold repQ
  rw [List.take_append_of_le_length (by rw [cQ_len, List.length_replicate]; exact Nat.le_refl _), List.take_of_length_le (by rw [cQ_len, List.length_replicate]; exact Nat.le_refl _)]
 have e2 : (repQ a n k).drop (k + m) = List.replicate (n - (k + m)) zrQ := by
  unfold repQ
  rw [List.drop_append, List.drop_of_length_le (by rw [cQ_len, List.length_replicate]; omega), cQ_len, List.length_replicate, List.drop_replicate]
  rw [List.nil_append]; congr 1; omega
 rw [e1, e2, cQ_take, List.take_replicate, Nat.min_eq_left hk, ← List.append_assoc, cQ_append, List.replicate_append_replicate]
 rfl
theorem fn_slRepeat (a : Rat) (n : Nat) (h1 : 1 ≤ n) (hn : n ≤ 20) : Fn Tryz.prog 125 [lQ [a], I n] [] (.ls 0 0 n 3) [(0, .row true 3 (cQ (List.replicate n a)))] := by
 refine Fn.intro (ks := [0,1,4,5,6,7,8,10,26,37]) hty rfl rfl rfl rfl rfl ?_
 conv => whnf
 rw [show decide ((n : Int) < 0) = false by simp]
 conv => whnf
 refine Wr.n64 (n := 1) (by rw [cQ_len]; rfl) (by omega) ?_
 conv => whnf
 refine Wr.n64 (n := n) rfl (by omega) ?_
 conv => whnf
 refine VCall.of_data (fn_Mul n (by omega)) (ndT fun _ => rfl) ?_
 conv => whnf
 rw [show decide (((9223372036854775807 : Int)) < (n : Int)) = false by simp; omega]
 conv => whnf
 refine Wr.fit (wrap_i64 (by omega) (by omega)) ?_
 conv => whnf
 refine ⟨⟨by omega, by omega, by show (n : Int) * ((56 : Nat) : Int) ≤ _; omega, by omega⟩, ?_⟩
 conv => whnf
 refine ⟨cQ_sz _, ?_⟩
 conv => whnf
 refine ⟨by show 0 + ((n : Int)).toNat ≤ (List.replicate ((n : Int)).toNat _).length; rw [List.length_replicate]; omega, ?_⟩
 conv => whnf
 have e0 : List.take 0 (List.replicate ((n : Int)).toNat zrQ) ++ ((cQ [a]).take (Nat.min 1 ((n : Int)).toNat) ++ (List.replicate ((n : Int)).toNat zrQ).drop (0 + Nat.min 1 ((n : Int)).toNat)) = repQ a n 1 := by
  rw [show ((n : Int)).toNat = n by omega, show Nat.min 1 n = 1 from Nat.min_eq_left h1, List.drop_replicate]
  unfold repQ
  rw [List.take_zero, List.nil_append, List.take_of_length_le (by rw [cQ_len]; simp)]
  rfl
 refine VLoop.inv hty (S := Nat) (fun k => [(8, I k), (7, .ls 30 0 n 3)]) (fun k => [(30, .row true 3 (repQ a n k))]) (fun k => 1 ≤ k ∧ k ≤ n) (fun k => n - k) 1 ⟨Nat.le_refl _, h1⟩
  ⟨?_, ?_, trivial⟩ ⟨?_, trivial⟩ ?_
 ·show I ((Nat.min 1 ((n : Int)).toNat : Nat) : Int) = I 1
  rw [show Nat.min 1 ((n : Int)).toNat = 1 from Nat.min_eq_left (by omega)]; rfl
 ·show AV.ls 30 0 ((n : Int)).toNat 3 = AV.ls 30 0 n 3
  rw [show ((n : Int)).toNat = n by omega]
 ·rw [← e0]; rfl
 rintro k ⟨hk1, hk2⟩
 conv => whnf
 refine Br.mk (fun h => ?_) (fun h => ?_)
 ·have h : k < n := by simp only [decide_eq_true_eq] at h; omega
  have hl := repQ_len (a := a) hk2
  have g1 : (0 ≤ (k : Int) ∧ (k : Int) ≤ n ∧ ((n : Int)).toNat + 0 ≤ (repQ a n k).length) := ⟨by omega, by omega, by rw [hl]; omega⟩
  have g2 : (0 ≤ (0 : Int) ∧ (0 : Int) ≤ k ∧ ((k : Int)).toNat + 0 ≤ (repQ a n k).length) := ⟨by omega, by omega, by rw [hl]; omega⟩
  have hc := repQ_copy (a := a) (n := n) (k := k) (m := min k (n - k)) hk2 (Nat.min_le_right _ _) (Nat.min_le_left _ _)
  have hmin : 1 ≤ min k (n - k) := by omega
  conv => whnf
  have hs : (0 : Int).toNat + 0 + ((k : Int) - 0).toNat ≤ (repQ a n k).length := by rw [hl]; omega
  have hd : (k : Int).toNat + 0 + ((n : Int) - (k : Int)).toNat ≤ (repQ a n k).length := by rw [hl]; omega
  have hmm : Nat.min ((k : Int) - 0).toNat ((n : Int) - (k : Int)).toNat = min k (n - k) := by
   show min _ _ = _
   rw [show ((k : Int) - 0).toNat = k by omega, show ((n : Int) - (k : Int)).toNat = n - k by omega]
  refine VDraw.goS hmo hty [0,1,2,4,5] rfl ?_
  conv => whnf
  repeat' (first
   | (refine ⟨g1, ?_⟩; conv => whnf)
   | (refine ⟨g2, ?_⟩; conv => whnf)
   | (refine Sub.lo hs ?_; conv => whnf)
   | (refine ⟨hd, ?_⟩; conv => whnf)
   | (refine Wr.i64 (y := ((k + min k (n - k) : Nat) : Int)) (by rw [hmm]; rfl) (by omega) (by omega) ?_; conv => whnf)
   | (refine ⟨k + min k (n - k), ⟨by omega, by omega⟩, by show n - (k + min k (n - k)) < n - k; omega, ⟨rfl, rfl, trivial⟩, ?_, trivial⟩; rw [← hc, ← hmm]; rfl)
   | (refine ⟨?_, ?_⟩ <;> conv => whnf))
 ·have h : k = n := by simp only [decide_eq_false_iff_not] at h; omega
  subst h
  rw [repQ_all]
  conv => whnf
  exact ⟨⟨rfl, rfl, rfl, rfl, rfl, rfl⟩, [], rfl, trivial, rfl⟩
end Go.V
namespace Go.V
open Go.Proofs Go.RowKit
set_option maxRecDepth 10000
set_option maxHeartbeats 1000000
def outQ (p : Mt) (w : List Rat) (i j : Nat) : List Rat := (List.range w.length).map fun k => stepAt p w k (if k < j then i + 1 else i)
theorem outQ_len (p : Mt) (w : List Rat) (i j : Nat) : (outQ p w i j).length = w.length := by simp [outQ]
theorem outQ_at {p : Mt} {w : List Rat} {i j k : Nat} (h : k < w.length) : (outQ p w i j).getD k 0 = stepAt p w k (if k < j then i + 1 else i) := by
 rw [List.getD_eq_getElem?_getD, List.getElem?_eq_getElem (by rw [outQ_len]; exact h)]; simp [outQ]
theorem outQ_zero (p : Mt) (w : List Rat) : outQ p w 0 0 = List.replicate w.length 0 := by
 apply List.ext_getElem (by simp [outQ_len])
 intro k h1 h2
 simp [outQ, stepAt, sN]
theorem outQ_next (p : Mt) (w : List Rat) (i : Nat) : outQ p w i w.length = outQ p w (i + 1) 0 := by
 unfold outQ
 apply List.map_congr_left
 intro k hk
 rw [if_pos (by simpa using hk), if_neg (by omega)]
theorem outQ_skip {p : Mt} {w : List Rat} {i : Nat} (h : w.getD i 0 = 0) : outQ p w (i + 1) 0 = outQ p w i 0 := by
 unfold outQ
 apply List.map_congr_left
 intro k hk
 rw [if_neg (by omega), if_neg (by omega)]
 show stepAt p w k i + w.getD i 0 * ent p i k = stepAt p w k i
 rw [h, Rat.zero_mul, Rat.add_zero]
theorem outQ_set {p : Mt} {w : List Rat} {i j : Nat} (h : j < w.length) : (outQ p w i j).set j (stepAt p w j (i + 1)) = outQ p w i (j + 1) := by
 apply List.ext_getElem (by simp [outQ_len])
 intro k h1 h2
 rw [List.getElem_set]
 simp only [outQ, List.getElem_map, List.getElem_range]
 by_cases e : j = k
 ·subst e; rw [if_pos rfl, if_pos (by omega)]
 ·rw [if_neg e]
  by_cases h3 : k < j
  ·rw [if_pos h3, if_pos (by omega)]
  ·rw [if_neg h3, if_neg (by omega)]
theorem outQ_all {p : Mt} {w : List Rat} : outQ p w w.length 0 = stepQ p w := by
 unfold outQ stepQ
 apply List.map_congr_left
 intro k hk
 rw [if_neg (by omega)]
theorem cQ_set (xs : List Rat) (k : Nat) (x : Rat) : (cQ xs).set k (c1Q x) = cQ (xs.set k x) := by unfold cQ; rw [List.map_set]
theorem sgI_zeroD (q : Rat) : decide (sgI q = 0) = decide (q = 0) := decide_eq_decide.2 sgI_zero
theorem fn_stepped (p : Mt) (w : List Rat) (s : Nat) (hp : MtOk p) (hw : Wk p.length s w) (hs : s ≤ 10000000000) : Fn Tryz.prog 76 [lM p, lQ w] [] (lQ (stepQ p w)) [] := by
 have hn1 := hp.n1
 have hn2 := hp.n2
 have hl := hw.1
 have hzw : ((cQ w).length : Int) = w.length := by rw [cQ_len]
 have c0 := fn_whole 0 (by decide) (by decide)
 have cr := fn_slRepeat 0 w.length (by omega) (by omega)
 refine Fn.intro (ks := [0,1,4,5,6,7,8,9,15,16,17,18,24,28,29,30,31]) hty rfl rfl rfl rfl rfl ?_
 conv => whnf
 refine VCall.of_data c0 (ndA fun k => rfl) ?_
 conv => whnf
 try rw [cQ_len w]
 refine VCall.frzD 11 (n := 1) (sz := 3) (D := cQ [0]) ⟨rfl, rfl⟩ (by rw [cQ_len]; rfl) (by repeat first | exact trivial | refine ⟨⟨rfl, rfl, rfl⟩, ?_⟩) ⟨⟨rfl, rfl, rfl⟩, trivial⟩ ?_
 refine VCall.of_ls (k := 14) cr rfl ?_
 conv => whnf
 refine VLoop.inv hty (S := Nat) (fun i => [(17, I i), (16, I w.length), (15, lQ w), (5, .ls 14 0 w.length 3), (0, lM p)]) (fun i => [(14, .row true 3 (cQ (outQ p w i 0)))]) (fun i => i ≤ w.length) (fun i => w.length - i) 0 (Nat.zero_le _)
  ⟨rfl, by show I ((cQ w).length : Nat) = _; rw [cQ_len], rfl, rfl, rfl, trivial⟩ ⟨by rw [outQ_zero]; rfl, trivial⟩ ?_
 intro i hi
 conv => whnf
 refine Br.mk (fun hb => ?_) (fun hb => ?_)
 ·have hb : i < w.length := by simp only [decide_eq_true_eq] at hb; omega
  obtain ⟨a, ea⟩ : ∃ a, w.getD i 0 = a := ⟨_, rfl⟩
  have za : sz a ≤ s := by rw [← ea]; exact hw.sz (getD_mem hb)
  have cs := fn_sign a (by omega)
  conv => whnf
  refine ⟨⟨⟨by omega, by rw [cQ_len]; omega⟩, cQ_sz _⟩, ?_⟩
  conv => whnf
  refine ⟨_, cQ_as hb ea, ?_⟩
  conv => whnf
  refine VCall.of_data cs (nd _) ?_
  conv => whnf
  rw [sgI_zeroD]
  by_cases h0 : a = 0
  ·rw [decide_eq_true h0]
   conv => whnf
   refine Wr.i64 (y := ((i + 1 : Nat) : Int)) rfl (by omega) (by omega) ?_
   conv => whnf
   refine ⟨i + 1, hb, by show w.length - (i + 1) < w.length - i; omega, ⟨rfl, rfl, rfl, rfl, rfl, trivial⟩, ⟨?_, trivial⟩⟩
   rw [outQ_skip (ea.trans h0)]; rfl
  ·rw [decide_eq_false h0]
   conv => whnf
   have hrl : (p.getD i []).length = w.length := by rw [hp.toSz.len (by omega), hl]
   refine ⟨⟨⟨by omega, by rw [cM_len]; omega⟩, cM_sz _⟩, ?_⟩
   conv => whnf
   refine ⟨_, cM_as (x := p.getD i []) (by omega) rfl, ?_⟩
   conv => whnf
   refine VLoop.inv hty (S := Nat) (fun j => [(30, I j), (29, I w.length), (28, lQ (p.getD i [])), (17, I i), (16, I w.length), (15, lQ w), (7, .lp 7 0), (6, I i), (5, .ls 14 0 w.length 3), (0, lM p)])
    (fun j => [(14, .row true 3 (cQ (outQ p w i j))), (7, .box true [B (ng a), nI (tp a), nI a.den])]) (fun j => j ≤ w.length) (fun j => w.length - j) 0 (Nat.zero_le _)
    ⟨rfl, by show I ((cQ (p.getD i [])).length : Nat) = _; rw [cQ_len, hrl], rfl, rfl, rfl, rfl, rfl, rfl, rfl, rfl, trivial⟩ ⟨rfl, rfl, trivial⟩ ?_
   intro j hj
   conv => whnf
   refine Br.mk (fun hc => ?_) (fun hc => ?_)
   ·have hc : j < w.length := by simp only [decide_eq_true_eq] at hc; omega
    have z1 := hp.ent_sz (i := i) (j := j) (by omega) (by omega)
    have z2 := step_sz hp hw (j := j) (k := i) (by omega) (by omega)
    have z3 := sz_mul a (ent p i j)
    have cm := fn_rmul a (ent p i j) (by omega) (by omega)
    have ca := fn_radd (stepAt p w j i) (a * ent p i j) (by omega)
    have e1 : stepAt p w j i + a * ent p i j = stepAt p w j (i + 1) := by rw [← ea]; rfl
    rw [e1] at ca
    have eo : (outQ p w i j).getD j 0 = stepAt p w j i := by rw [outQ_at hc, if_neg (by omega)]
    have es := outQ_set (p := p) (w := w) (i := i) hc
    have hol := outQ_len p w i j
    conv => whnf
    refine ⟨⟨⟨by omega, by rw [cQ_len, hrl]; omega⟩, cQ_sz _⟩, ?_⟩
    conv => whnf
    refine ⟨_, cQ_as (x := ent p i j) (by rw [hrl]; exact hc) rfl, ?_⟩
    conv => whnf
    refine VDraw.go hmo hty 11 [] rfl ?_
    conv => whnf
    refine ⟨by omega, ?_⟩
    conv => whnf
    refine ⟨_, cQ_as (by rw [hol]; exact hc) eo, ?_⟩
    conv => whnf
    refine QCall.of_data cm (ndA fun k => rfl) ?_
    conv => whnf
    refine QCall.of_data ca (ndA fun k => rfl) ?_
    conv => whnf
    refine ⟨by omega, ?_⟩
    conv => whnf
    refine ⟨by rw [cQ_len, hol]; show j + 0 < _; omega, ?_⟩
    conv => whnf
    refine Wr.i64 (y := ((j + 1 : Nat) : Int)) rfl (by omega) (by omega) ?_
    conv => whnf
    refine ⟨j + 1, hc, by show w.length - (j + 1) < w.length - j; omega, ⟨rfl, rfl, rfl, rfl, rfl, rfl, rfl, rfl, rfl, rfl, trivial⟩, ⟨?_, rfl, trivial⟩⟩
    show Ob.row true 3 ((cQ _).set j (c1Q (stepAt p w j (i + 1)))) = _
    rw [cQ_set, es]
   ·have hc : j = w.length := by simp only [decide_eq_false_iff_not] at hc; omega
    rw [hc, outQ_next]
    conv => whnf
    refine Wr.i64 (y := ((i + 1 : Nat) : Int)) rfl (by omega) (by omega) ?_
    conv => whnf
    exact ⟨i + 1, hb, by show w.length - (i + 1) < w.length - i; omega, ⟨rfl, rfl, rfl, rfl, rfl, trivial⟩, ⟨rfl, trivial⟩⟩
 ·have hb : i = w.length := by simp only [decide_eq_false_iff_not] at hb; omega
  rw [hb, outQ_all]
  conv => whnf
  refine ⟨⟨rfl, by rw [cQ_len, stepQ_len]; omega, ?_⟩, trivial, rfl⟩
  rw [List.drop_zero, List.take_of_length_le (by rw [cQ_len, stepQ_len]; omega)]
end Go.V
namespace Go.V
open Go.Proofs Go.RowKit
set_option maxRecDepth 10000
set_option maxHeartbeats 1000000
theorem cS_set (xs : List Rat) (k : Nat) (x : Rat) : (cS xs).set k (c1S x) = cS (xs.set k x) := by unfold cS; rw [List.map_set]
abbrev lMS (p : Mt) : AV := .d (.sl (cMS p))
theorem fn_sRow (n : Nat) (hn : n ≤ 1000) : Fn Tryz.prog 161 [I n] [] (.ls 0 0 n 3) [(0, .row true 3 (cS (List.replicate n 0)))] := by
 refine Fn.intro (ks := [0,2,3,4,8]) hty rfl rfl rfl rfl rfl ?_
 conv => whnf
 refine VLoop.ren 5 14 rfl ?_
 refine VLoop.inv hty (S := Nat) (fun k => [(4, I k), (3, .ls 14 0 k 3), (0, I n)]) (fun k => [(14, .row true 3 (cS (List.replicate k 0)))]) (fun k => k ≤ n) (fun k => n - k) 0 (Nat.zero_le _)
  ⟨rfl, rfl, rfl, trivial⟩ ⟨rfl, trivial⟩ ?_
 intro k hk
 conv => whnf
 refine Br.mk (fun h => ?_) (fun h => ?_)
 ·have h : k < n := by simp only [decide_eq_true_eq] at h; omega
  conv => whnf
  refine VCall.of_data fn_sNone (ndA fun k => rfl) ?_
  conv => whnf
  refine Sub.full rfl ?_
  conv => whnf
  refine Sub.full (by rw [cS_len, List.length_replicate]) ?_
  conv => whnf
  refine ⟨by show (k + 1) * 56 ≤ _; omega, ?_⟩
  conv => whnf
  refine Wr.i64 (y := ((k + 1 : Nat) : Int)) rfl (by omega) (by omega) ?_
  conv => whnf
  refine ⟨k + 1, h, by show n - (k + 1) < n - k; omega, ⟨rfl, rfl, rfl, trivial⟩, ?_, trivial⟩
  show Ob.row true 3 (cS (List.replicate k 0) ++ cS [0]) = _
  rw [cS_append, show (List.replicate (k + 1) (0 : Rat)) = List.replicate k 0 ++ [0] from List.replicate_succ']
 ·have h : k = n := by simp only [decide_eq_false_iff_not] at h; omega
  rw [h]
  conv => whnf
  exact ⟨⟨rfl, rfl, rfl, rfl, rfl, rfl⟩, [], rfl, trivial, rfl⟩
theorem point_set (n i : Nat) : (List.replicate n (0 : Rat)).set i 1 = pointQ n i := by
 apply List.ext_getElem (by simp [pointQ_len])
 intro k h1 h2
 rw [List.getElem_set]
 simp only [pointQ, List.getElem_map, List.getElem_range, List.getElem_replicate]
 by_cases e : i = k
 ·rw [if_pos e, if_pos e.symm]
 ·rw [if_neg e, if_neg (fun h => e h.symm)]
theorem fn_sPoint (n i : Nat) (hn : n ≤ 1000) (hi : i < n) : Fn Tryz.prog 120 [I n, I i] [] (.ls 0 0 n 3) [(0, .row true 3 (cS (pointQ n i)))] := by
 refine Fn.intro (ks := [0,1,4,5]) hty rfl rfl rfl rfl rfl ?_
 conv => whnf
 refine VCall.of_ls (k := 7) (fn_sRow n hn) rfl ?_
 conv => whnf
 refine VCall.of_data fn_sOne (ndA fun k => rfl) ?_
 conv => whnf
 refine ⟨by omega, ?_⟩
 conv => whnf
 refine ⟨by rw [cS_len, List.length_replicate]; show i + 0 < _; omega, ?_⟩
 conv => whnf
 refine ⟨⟨rfl, rfl, rfl, rfl, rfl, rfl⟩, [], ?_, trivial, rfl⟩
 show [(0, Ob.row true 3 (cS (pointQ n i)))] = [(0, Ob.row true 3 ((cS (List.replicate n 0)).set i (c1S 1)))]
 rw [cS_set, point_set]
theorem fn_sPointd (n i : Nat) (hn : n ≤ 1000) (hi : i < n) : Fn Tryz.prog 120 [I n, I i] [] (lS (pointQ n i)) [] := by
 have := (fn_sPoint n i hn hi).freeze (by rw [cS_len, pointQ_len]; omega)
 rwa [List.drop_zero, List.take_of_length_le (by rw [cS_len, pointQ_len]; omega)] at this
theorem step_next {p : Mt} {w : List Rat} {j : Nat} : (List.range (j + 1)).map (fun j => stepAt p w j w.length) = (List.range j).map (fun j => stepAt p w j w.length) ++ [stepAt p w j w.length] := by
 rw [List.range_succ, List.map_append]; rfl
theorem fn_sStep (p : Mt) (w : List Rat) (s : Nat) (hp : MtOk p) (hw : Wk p.length s w) (hs : s ≤ 10000000000) : Fn Tryz.prog 121 [mP p, lS w] [] (lS (stepQ p w)) [] := by
 have hn2 := hp.n2
 have hl := hw.1
 have hzw : ((cS w).length : Int) = w.length := by rw [cS_len]
 have g : Fn Tryz.prog 121 [mP p, lS w] [] (.ls 0 0 (stepQ p w).length 3) [(0, .row true 3 (cS (stepQ p w)))] := by
  refine Fn.intro (ks := [0,1,4,5,6,7,8,11,12,13,17,18,19]) hty rfl rfl rfl rfl rfl ?_
  conv => whnf
  rw [hzw]
  refine VLoop.ren 9 42 rfl ?_
  refine VLoop.inv hty (S := Nat) (fun j => [(12, I j), (11, I w.length), (5, .ls 42 0 j 3), (1, lS w), (0, mP p)]) (fun j => [(42, .row true 3 (cS ((List.range j).map fun j => stepAt p w j w.length)))]) (fun j => j ≤ w.length) (fun j => w.length - j) 0 (Nat.zero_le _)
   ⟨rfl, rfl, rfl, rfl, rfl, trivial⟩ ⟨rfl, trivial⟩ ?_
  intro j hj
  conv => whnf
  refine Br.mk (fun hb => ?_) (fun hb => ?_)
  ·have hb : j < w.length := by simp only [decide_eq_true_eq] at hb; omega
   conv => whnf
   refine VCall.of_data fn_sNone (ndA fun k => rfl) ?_
   conv => whnf
   rw [hzw]
   refine VLoop.inv hty (S := Nat) (fun i => [(18, I i), (17, I w.length), (12, I j), (11, I w.length), (7, .lp 7 0), (6, I j), (5, .ls 42 0 j 3), (1, lS w), (0, mP p)])
    (fun i => [(42, .row true 3 (cS ((List.range j).map fun j => stepAt p w j w.length))), (7, .box true [B (ng (stepAt p w j i)), nS (tp (stepAt p w j i)), nS (stepAt p w j i).den])]) (fun i => i ≤ w.length) (fun i => w.length - i) 0 (Nat.zero_le _)
    ⟨rfl, rfl, rfl, rfl, rfl, rfl, rfl, rfl, rfl, trivial⟩ ⟨rfl, rfl, trivial⟩ ?_
   intro i hi
   conv => whnf
   refine Br.mk (fun hc => ?_) (fun hc => ?_)
   ·have hc : i < w.length := by simp only [decide_eq_true_eq] at hc; omega
    obtain ⟨a, ea⟩ : ∃ a, w.getD i 0 = a := ⟨_, rfl⟩
    have za : sz a ≤ s := by rw [← ea]; exact hw.sz (getD_mem hc)
    have z1 := hp.ent_sz (i := i) (j := j) (by omega) (by omega)
    have z2 := step_sz hp hw (j := j) (k := i) (by omega) (by omega)
    have z3 := sz_mul a (ent p i j)
    have cm := fn_sTimes a (ent p i j) (by omega)
    have ca := fn_sSum (stepAt p w j i) (a * ent p i j) (by omega)
    have e1 : stepAt p w j i + a * ent p i j = stepAt p w j (i + 1) := by rw [← ea]; rfl
    rw [e1] at ca
    have hrl : (p.getD i []).length = w.length := by rw [hp.toSz.len (by omega), hl]
    conv => whnf
    refine VDraw.go hmo hty 17 [] rfl ?_
    conv => whnf
    refine ⟨⟨⟨by omega, by rw [cS_len]; omega⟩, cS_sz _⟩, ?_⟩
    conv => whnf
    refine ⟨_, cS_as hc ea, ?_⟩
    conv => whnf
    refine ⟨⟨⟨by omega, by rw [cMS_len]; omega⟩, cMS_sz _⟩, ?_⟩
    conv => whnf
    refine ⟨_, cMS_as (x := p.getD i []) (by omega) rfl, ?_⟩
    conv => whnf
    refine ⟨⟨⟨by omega, by rw [cS_len, hrl]; omega⟩, cS_sz _⟩, ?_⟩
    conv => whnf
    refine ⟨_, cS_as (x := ent p i j) (by rw [hrl]; exact hb) rfl, ?_⟩
    conv => whnf
    refine QCall.of_data cm (ndA fun k => rfl) ?_
    conv => whnf
    refine QCall.of_data ca (ndA fun k => rfl) ?_
    conv => whnf
    refine Wr.i64 (y := ((i + 1 : Nat) : Int)) rfl (by omega) (by omega) ?_
    conv => whnf
    exact ⟨i + 1, hc, by show w.length - (i + 1) < w.length - i; omega, ⟨rfl, rfl, rfl, rfl, rfl, rfl, rfl, rfl, rfl, trivial⟩, rfl, rfl, trivial⟩
   ·have hc : i = w.length := by simp only [decide_eq_false_iff_not] at hc; omega
    rw [hc]
    conv => whnf
    refine Sub.full rfl ?_
    conv => whnf
    refine Sub.full (by rw [cS_len, List.length_map, List.length_range]) ?_
    conv => whnf
    refine ⟨by show (j + 1) * 56 ≤ _; omega, ?_⟩
    conv => whnf
    refine Wr.i64 (y := ((j + 1 : Nat) : Int)) rfl (by omega) (by omega) ?_
    conv => whnf
    refine ⟨j + 1, hb, by show w.length - (j + 1) < w.length - j; omega, ⟨rfl, rfl, rfl, rfl, rfl, trivial⟩, ?_, trivial⟩
    show Ob.row true 3 (cS _ ++ cS [stepAt p w j w.length]) = _
    rw [cS_append, step_next]
  ·have hb : j = w.length := by simp only [decide_eq_false_iff_not] at hb; omega
   rw [hb]
   conv => whnf
   refine ⟨⟨rfl, rfl, rfl, rfl, ?_, rfl⟩, [], rfl, trivial, rfl⟩
   rw [stepQ_len]
 have := g.freeze (by rw [cS_len]; omega)
 rwa [List.drop_zero, List.take_of_length_le (by rw [cS_len]; omega)] at this
def powM (p : Mt) (n : Nat) : Mt := (List.range p.length).map fun i => afterQ p n (pointQ p.length i)
theorem powM_len (p : Mt) (n : Nat) : (powM p n).length = p.length := by simp [powM]
def powL (p : Mt) (n i : Nat) : Mt := (List.range i).map fun i => afterQ p n (pointQ p.length i)
theorem powL_next (p : Mt) (n i : Nat) : powL p n (i + 1) = powL p n i ++ [afterQ p n (pointQ p.length i)] := by
 unfold powL; rw [List.range_succ, List.map_append]; rfl
theorem powL_len (p : Mt) (n i : Nat) : (powL p n i).length = i := by simp [powL]
theorem fn_sPowerM (p : Mt) (n : Nat) (hp : MtOk p) (hn : n ≤ 40) : Fn Tryz.prog 71 [mP p, I n] [] (lMS (powM p n)) [] := by
 have hn2 := hp.n2
 have hz : ((cMS p).length : Int) = p.length := by rw [cMS_len]
 have g : Fn Tryz.prog 71 [mP p, I n] [] (.ls 0 0 p.length 1) [(0, .row true 1 (cMS (powM p n)))] := by
  refine Fn.intro (ks := [0,1,4,5,6,7,8,16,28]) hty rfl rfl rfl rfl rfl ?_
  conv => whnf
  refine VLoop.ren 9 37 rfl ?_
  refine VLoop.inv hty (S := Nat) (fun i => [(6, I i), (5, .ls 37 0 i 1), (1, I n), (0, mP p)]) (fun i => [(37, .row true 1 (cMS (powL p n i)))]) (fun i => i ≤ p.length) (fun i => p.length - i) 0 (Nat.zero_le _)
   ⟨rfl, rfl, rfl, rfl, trivial⟩ ⟨rfl, trivial⟩ ?_
  intro i hi
  conv => whnf
  rw [hz]
  refine Br.mk (fun hb => ?_) (fun hb => ?_)
  ·have hb : i < p.length := by simp only [decide_eq_true_eq] at hb; omega
   conv => whnf
   rw [hz]
   refine VCall.of_data (fn_sPointd p.length i (by omega) hb) (nd _) ?_
   conv => whnf
   refine VLoop.inv hty (S := Nat) (fun k => [(8, I k), (7, lS (afterQ p k (pointQ p.length i))), (6, I i), (5, .ls 37 0 i 1), (1, I n), (0, mP p)]) (fun _ => [(37, .row true 1 (cMS (powL p n i)))]) (fun k => k ≤ n) (fun k => n - k) 0 (Nat.zero_le _)
    ⟨rfl, rfl, rfl, rfl, rfl, rfl, trivial⟩ ⟨rfl, trivial⟩ ?_
   intro k hk
   conv => whnf
   refine Br.mk (fun hc => ?_) (fun hc => ?_)
   ·have hc : k < n := by simp only [decide_eq_true_eq] at hc; omega
    have hw := (pointQ_wk p.length i).after hp k
    have cs := fn_sStep p _ _ hp hw (by omega)
    conv => whnf
    refine VCall.of_data cs (nd _) ?_
    conv => whnf
    refine Wr.i64 (y := ((k + 1 : Nat) : Int)) rfl (by omega) (by omega) ?_
    conv => whnf
    exact ⟨k + 1, hc, by show n - (k + 1) < n - k; omega, ⟨rfl, rfl, rfl, rfl, rfl, rfl, trivial⟩, rfl, trivial⟩
   ·have hc : k = n := by simp only [decide_eq_false_iff_not] at hc; omega
    rw [hc]
    conv => whnf
    refine Sub.full rfl ?_
    conv => whnf
    refine Sub.full (by rw [cMS_len, powL_len]) ?_
    conv => whnf
    refine ⟨by show (i + 1) * 24 ≤ _; omega, ?_⟩
    conv => whnf
    refine Wr.i64 (y := ((i + 1 : Nat) : Int)) rfl (by omega) (by omega) ?_
    conv => whnf
    refine ⟨i + 1, hb, by show p.length - (i + 1) < p.length - i; omega, ⟨rfl, rfl, rfl, rfl, trivial⟩, ?_, trivial⟩
    show Ob.row true 1 (cMS _ ++ [[.sl (cS _)]]) = _
    rw [cMS_append1, powL_next]
  ·have hb : i = p.length := by simp only [decide_eq_false_iff_not] at hb; omega
   rw [hb]
   conv => whnf
   exact ⟨⟨rfl, rfl, rfl, rfl, rfl, rfl⟩, [], rfl, trivial, rfl⟩
 have := g.freeze (by rw [cMS_len, powM_len]; omega)
 rwa [List.drop_zero, List.take_of_length_le (by rw [cMS_len, powM_len]; omega)] at this
end Go.V
