/- Part 5: the abstract machine, its soundness, contracts of functions. -/
import Derived.Test.YtokfblcbmmaloaaDoorK4
set_option linter.unusedVariables false
set_option linter.unusedSimpArgs false
namespace Go.V
def Iz (E : Nat) (q : Rat) : Prop := ∃ z : Int, q * ((E : Int) : Rat) = (z : Rat)
theorem Iz.zero (E : Nat) : Iz E 0 := ⟨0, by simp [Rat.zero_mul]⟩
theorem Iz.one (E : Nat) : Iz E 1 := ⟨(E : Int), by rw [Rat.one_mul]⟩
theorem Iz.add {E : Nat} {a b : Rat} (h1 : Iz E a) (h2 : Iz E b) : Iz E (a + b) := by
 obtain ⟨x, hx⟩ := h1; obtain ⟨y, hy⟩ := h2
 exact ⟨x + y, by rw [Rat.add_mul, hx, hy, Rat.intCast_add]⟩
theorem Iz.neg {E : Nat} {a : Rat} (h : Iz E a) : Iz E (-a) := by
 obtain ⟨x, hx⟩ := h
 exact ⟨-x, by rw [Rat.neg_mul, hx, Rat.intCast_neg]⟩
theorem Iz.mul {E F : Nat} {a b : Rat} (h1 : Iz E a) (h2 : Iz F b) : Iz (E * F) (a * b) := by
 obtain ⟨x, hx⟩ := h1; obtain ⟨y, hy⟩ := h2
 refine ⟨x * y, ?_⟩
 rw [Rat.intCast_mul, ← hx, ← hy, Int.natCast_mul, Rat.intCast_mul]
 grind
theorem Iz.more {E : Nat} {a : Rat} (h : Iz E a) (F : Nat) : Iz (E * F) a := by
 have := h.mul (Iz.one F)
 rwa [Rat.mul_one] at this
theorem natc (n : Nat) : ((n : Nat) : Rat) = ((n : Int) : Rat) := (Rat.intCast_natCast n).symm
theorem Iz.den (a : Rat) : Iz a.den a := ⟨a.num, by
 have h : mkRat a.num a.den = a := Rat.mkRat_self a
 have hp : ((a.den : Int) : Rat) ≠ 0 := by have := a.den_nz; exact_mod_cast this
 rw [Rat.mkRat_eq_div, natc] at h
 have h3 := Rat.div_mul_cancel (a := ((a.num : Int) : Rat)) hp
 rw [h] at h3
 exact h3⟩
theorem Iz.of_dvd {E F : Nat} {a : Rat} (h : Iz E a) (d : E ∣ F) : Iz F a := by obtain ⟨k, rfl⟩ := d; exact h.more k
theorem Iz.sz {E : Nat} {a : Rat} (h : Iz E a) (hE : E ≠ 0) (h0 : 0 ≤ a) (M : Nat) (h1 : a ≤ ((M : Int) : Rat)) : sz a ≤ max (bl (M * E)) (bl E) := by
 obtain ⟨z, hz⟩ := h
 have hp : (0 : Rat) < ((E : Int) : Rat) := by
  have : (0 : Int) < (E : Int) := by omega
  exact_mod_cast this
 have hz0 : 0 ≤ z := by
  have : (0 : Rat) ≤ (z : Rat) := by rw [← hz]; exact Rat.mul_nonneg h0 (Rat.le_of_lt hp)
  exact_mod_cast this
 have hz1 : z ≤ ((M * E : Nat) : Int) := by
  have : (z : Rat) ≤ (((M * E : Nat) : Int) : Rat) := by
   rw [← hz, Int.natCast_mul, Rat.intCast_mul]
   exact Rat.mul_le_mul_of_nonneg_right h1 (Rat.le_of_lt hp)
  exact_mod_cast this
 obtain ⟨t, rfl⟩ : ∃ t : Nat, z = (t : Int) := ⟨z.toNat, by omega⟩
 have ea : a = mkRat (sgn false t) E := by
  have h2 := natc E
  rw [sgn_f, Rat.mkRat_eq_div, ← hz, h2, Rat.div_def, Rat.mul_assoc, Rat.mul_inv_cancel _ (Rat.ne_of_gt hp), Rat.mul_one]
 rw [ea]
 refine Nat.le_trans (sz_mkRat hE) ?_
 have := bl_mono (a := t) (b := M * E) (by omega)
 omega
def dens : List Rat → Nat
 | [] => 1
 | q :: r => q.den * dens r
theorem dens_pos : ∀ xs, dens xs ≠ 0
 | [] => by decide
 | q :: r => Nat.mul_ne_zero q.den_nz (dens_pos r)
theorem dens_dvd {q : Rat} : ∀ {xs : List Rat}, q ∈ xs → q.den ∣ dens xs
 | x :: r, h => by
  rcases List.mem_cons.1 h with rfl | h
  ·exact ⟨dens r, rfl⟩
  ·exact Nat.dvd_trans (dens_dvd h) ⟨x.den, Nat.mul_comm _ _⟩
theorem dens_bl {m : Nat} : ∀ {xs : List Rat}, (∀ q, q ∈ xs → Go.V.sz q ≤ m) → bl (dens xs) ≤ xs.length * m + 1
 | [], _ => by show bl 1 ≤ _; rw [bl_one]; omega
 | x :: r, h => by
  show bl (x.den * dens r) ≤ (r.length + 1) * m + 1
  have h1 := bl_mul x.den (dens r)
  have h2 := dens_bl (xs := r) fun q hq => h q (List.mem_cons_of_mem _ hq)
  have h3 := h x (by simp)
  have h4 := bl_den x
  have : (r.length + 1) * m = r.length * m + m := Nat.succ_mul _ _
  omega
end Go.V
namespace Go.V
def sN : Nat → (Nat → Rat) → Rat
 | 0, _ => 0
 | n + 1, f => sN n f + f n
theorem sN_nonneg {n : Nat} {f : Nat → Rat} (h : ∀ i, i < n → 0 ≤ f i) : 0 ≤ sN n f := by
 induction n with
 | zero => exact Rat.le_refl
 | succ n ih =>
  have h1 := ih fun i hi => h i (by omega)
  have h2 := h n (by omega)
  show 0 ≤ sN n f + f n
  grind
theorem sN_mono {n m : Nat} {f : Nat → Rat} (hm : m ≤ n) (h : ∀ i, i < n → 0 ≤ f i) : sN m f ≤ sN n f := by
 induction n with
 | zero => rw [show m = 0 by omega]; exact Rat.le_refl
 | succ n ih =>
  by_cases e : m = n + 1
  ·subst e; exact Rat.le_refl
  ·have h1 := ih (by omega) fun i hi => h i (by omega)
   have h2 := h n (by omega)
   show sN m f ≤ sN n f + f n
   grind
theorem sN_one_le {n k : Nat} {f : Nat → Rat} (hk : k < n) (h : ∀ i, i < n → 0 ≤ f i) : f k ≤ sN n f := by
 have h1 := sN_mono (m := k + 1) (by omega) h
 have h2 : 0 ≤ sN k f := sN_nonneg fun i hi => h i (by omega)
 have h3 : sN (k + 1) f = sN k f + f k := rfl
 grind
theorem sN_const_le {n : Nat} {f : Nat → Rat} {M : Nat} (h : ∀ i, i < n → f i ≤ ((M : Int) : Rat)) : sN n f ≤ (((n * M : Nat) : Int) : Rat) := by
 induction n with
 | zero => simp [sN]
 | succ n ih =>
  have h1 := ih fun i hi => h i (by omega)
  have h2 := h n (by omega)
  show sN n f + f n ≤ _
  rw [Nat.succ_mul, Int.natCast_add, Rat.intCast_add]
  grind
theorem sN_iz {E n : Nat} {f : Nat → Rat} (h : ∀ i, i < n → Iz E (f i)) : Iz E (sN n f) := by
 induction n with
 | zero => exact Iz.zero E
 | succ n ih => exact (ih fun i hi => h i (by omega)).add (h n (by omega))
end Go.V
namespace Go.V
abbrev Mt := List (List Rat)
def ent (p : Mt) (i j : Nat) : Rat := (p.getD i []).getD j 0
def stepAt (p : Mt) (w : List Rat) (j k : Nat) : Rat := sN k fun i => w.getD i 0 * ent p i j
def stepQ (p : Mt) (w : List Rat) : List Rat := (List.range w.length).map fun j => stepAt p w j w.length
theorem stepQ_len (p : Mt) (w : List Rat) : (stepQ p w).length = w.length := by simp [stepQ]
def afterQ (p : Mt) : Nat → List Rat → List Rat
 | 0, w => w
 | k + 1, w => stepQ p (afterQ p k w)
theorem getD_mem {α : Type} {xs : List α} {i : Nat} {d : α} (h : i < xs.length) : xs.getD i d ∈ xs := by
 rw [List.getD_eq_getElem?_getD, List.getElem?_eq_getElem h]; exact List.getElem_mem h
structure MtOk (p : Mt) : Prop where
 n1 : 1 ≤ p.length
 n2 : p.length ≤ 12
 sq : ∀ r, r ∈ p → r.length = p.length
 pos : ∀ r, r ∈ p → ∀ q, q ∈ r → 0 ≤ q
 sz : ∀ r, r ∈ p → ∀ q, q ∈ r → Go.V.sz q ≤ 800
 one : ∀ r, r ∈ p → sN r.length (r.getD · 0) = 1
theorem MtOk.ent_mem {p : Mt} (h : MtOk p) {i j : Nat} (hi : i < p.length) (hj : j < p.length) : p.getD i [] ∈ p ∧ ent p i j ∈ p.getD i [] := by
 have h1 : p.getD i [] ∈ p := getD_mem hi
 exact ⟨h1, getD_mem (by rw [h.sq _ h1]; exact hj)⟩
theorem MtOk.ent_pos {p : Mt} (h : MtOk p) {i j : Nat} (hi : i < p.length) (hj : j < p.length) : 0 ≤ ent p i j := h.pos _ (h.ent_mem hi hj).1 _ (h.ent_mem hi hj).2
theorem MtOk.row_one {p : Mt} (h : MtOk p) {i : Nat} (hi : i < p.length) : sN p.length (ent p i) = 1 := by
 have h1 : p.getD i [] ∈ p := getD_mem hi
 have h2 := h.one _ h1
 rw [h.sq _ h1] at h2
 exact h2
theorem MtOk.ent_le {p : Mt} (h : MtOk p) {i j : Nat} (hi : i < p.length) (hj : j < p.length) : ent p i j ≤ 1 := by
 rw [← h.row_one hi]
 exact sN_one_le (f := ent p i) hj fun k hk => h.ent_pos hi hk
def dM (p : Mt) : Nat := dens p.flatten
theorem dM_pos (p : Mt) : dM p ≠ 0 := dens_pos _
theorem flat_len {m : Nat} : ∀ {p : Mt}, (∀ r, r ∈ p → r.length = m) → p.flatten.length = p.length * m
 | [], _ => by simp
 | r :: p, h => by
  have h1 := flat_len (p := p) fun r hr => h r (List.mem_cons_of_mem _ hr)
  rw [List.flatten_cons, List.length_append, h1, h r (by simp), List.length_cons, Nat.succ_mul, Nat.add_comm]
theorem MtOk.dM_bl {p : Mt} (h : MtOk p) : bl (dM p) ≤ 115201 := by
 have h1 := dens_bl (xs := p.flatten) (m := 800) fun q hq => by
  obtain ⟨r, hr, hq⟩ := List.mem_flatten.1 hq
  exact h.sz r hr q hq
 rw [flat_len h.sq] at h1
 have h2 : p.length * p.length ≤ 12 * 12 := Nat.mul_le_mul h.n2 h.n2
 have h3 : p.length * p.length * 800 ≤ 144 * 800 := Nat.mul_le_mul_right _ h2
 unfold dM
 omega
theorem MtOk.ent_iz {p : Mt} (h : MtOk p) {i j : Nat} (hi : i < p.length) (hj : j < p.length) : Iz (dM p) (ent p i j) :=
 (Iz.den _).of_dvd (dens_dvd (List.mem_flatten.2 ⟨_, (h.ent_mem hi hj).1, (h.ent_mem hi hj).2⟩))
def Wk (n s : Nat) (w : List Rat) : Prop := w.length = n ∧ ∃ E M : Nat, E ≠ 0 ∧ bl M + bl E ≤ s ∧ ∀ q, q ∈ w → 0 ≤ q ∧ q ≤ ((M : Int) : Rat) ∧ Iz E q
theorem Iz.sz2 {E M : Nat} {a : Rat} (h : Iz E a) (hE : E ≠ 0) (h0 : 0 ≤ a) (h1 : a ≤ ((M : Int) : Rat)) : Go.V.sz a ≤ bl M + bl E := by
 have h2 := h.sz hE h0 M h1
 have h3 := bl_mul M E
 omega
theorem Wk.sz {n s : Nat} {w : List Rat} (h : Wk n s w) {q : Rat} (hq : q ∈ w) : Go.V.sz q ≤ s := by
 obtain ⟨_, E, M, h1, h2, h3⟩ := h
 obtain ⟨h4, h5, h6⟩ := h3 q hq
 have := h6.sz2 h1 h4 h5
 omega
theorem Wk.pos {n s : Nat} {w : List Rat} (h : Wk n s w) {q : Rat} (hq : q ∈ w) : 0 ≤ q := by
 obtain ⟨_, E, M, h1, h2, h3⟩ := h
 exact (h3 q hq).1
theorem step_part {p : Mt} (hp : MtOk p) {s : Nat} {w : List Rat} (h : Wk p.length s w) :
  ∃ E M : Nat, E ≠ 0 ∧ bl M + bl E ≤ s + 115210 ∧ ∀ j k, j < p.length → k ≤ p.length → 0 ≤ stepAt p w j k ∧ stepAt p w j k ≤ ((M : Int) : Rat) ∧ Iz E (stepAt p w j k) := by
 obtain ⟨hl, E, M, h1, h2, h3⟩ := h
 have hb := hp.dM_bl
 have h12 : bl (p.length * M) ≤ 4 + bl M := by
  have h4 := bl_mul p.length M
  have h5 : bl p.length ≤ 4 := bl_le (by have := hp.n2; omega)
  omega
 have h6 := bl_mul E (dM p)
 refine ⟨E * dM p, p.length * M, Nat.mul_ne_zero h1 (dM_pos p), by omega, fun j k hj hk => ?_⟩
 have hm : ∀ i, i < p.length → 0 ≤ w.getD i 0 ∧ w.getD i 0 ≤ ((M : Int) : Rat) ∧ Iz E (w.getD i 0) := fun i hi => h3 _ (getD_mem (by omega))
 have t0 : ∀ i, i < p.length → 0 ≤ w.getD i 0 * ent p i j := fun i hi => Rat.mul_nonneg (hm i hi).1 (hp.ent_pos hi hj)
 refine ⟨sN_nonneg fun i hi => t0 i (by omega), ?_, sN_iz fun i hi => (hm i (by omega)).2.2.mul (hp.ent_iz (by omega) hj)⟩
 refine Rat.le_trans (sN_mono hk t0) (sN_const_le fun i hi => ?_)
 have h7 := Rat.mul_le_mul_of_nonneg_left (hp.ent_le hi hj) (hm i hi).1
 rw [Rat.mul_one] at h7
 exact Rat.le_trans h7 (hm i hi).2.1
theorem Wk.step {p : Mt} (hp : MtOk p) {s : Nat} {w : List Rat} (h : Wk p.length s w) : Wk p.length (s + 115210) (stepQ p w) := by
 obtain ⟨E, M, h1, h2, h3⟩ := step_part hp h
 refine ⟨by rw [stepQ_len, h.1], E, M, h1, h2, fun q hq => ?_⟩
 obtain ⟨j, hj, rfl⟩ := List.mem_map.1 hq
 rw [h.1] at hj ⊢
 exact h3 j p.length (by simpa using hj) (Nat.le_refl _)
theorem Wk.after {p : Mt} (hp : MtOk p) {s : Nat} {w : List Rat} (h : Wk p.length s w) : ∀ k, Wk p.length (s + k * 115210) (afterQ p k w)
 | 0 => by rw [Nat.zero_mul]; exact h
 | k + 1 => by
  have := (Wk.after hp h k).step hp
  rwa [Nat.add_assoc, ← Nat.succ_mul] at this
end Go.V
namespace Go.V
open Go.Proofs Go.RowKit
set_option maxRecDepth 10000
set_option maxHeartbeats 1000000
theorem bapp (a b : List UInt8) : (⟨a.toArray⟩ : ByteArray) ++ (⟨b.toArray⟩ : ByteArray) = ⟨(a ++ b).toArray⟩ := by
 apply ByteArray.ext
 rw [ByteArray.data_append]
 simp
theorem cut_uniq {c : UInt8} {r r' : List UInt8} : ∀ {p p' : List UInt8}, c ∉ p → c ∉ p' → p ++ c :: r = p' ++ c :: r' → p = p' ∧ r = r'
 | [], [], _, _, e => by simpa using e
 | [], b :: p', _, h', e => by simp at e; exact absurd e.1 (fun q => h' (by simp [q]))
 | b :: p, [], h, _, e => by simp at e; exact absurd e.1.symm (fun q => h (by simp [q]))
 | b :: p, b' :: p', h, h', e => by
  simp at e
  obtain ⟨e1, e2⟩ := cut_uniq (p := p) (p' := p') (fun m => h (List.mem_cons_of_mem _ m)) (fun m => h' (List.mem_cons_of_mem _ m)) e.2
  exact ⟨by rw [e.1, e1], e2⟩
theorem cutB_at {c : UInt8} {p r : List UInt8} (h : c ∉ p) : cutB c (p ++ c :: r) = (p, r, true) := by
 rcases indexByte_spec c (p ++ c :: r) with ⟨h1, _⟩ | ⟨p', r', h1, h2, h3⟩
 ·exact absurd (by simp) h1
 ·obtain ⟨rfl, rfl⟩ := cut_uniq h h2 h1
  rw [cutB, h3]
  show ((p ++ c :: r).take p.length, (p ++ c :: r).drop (p.length + 1), true) = _
  simp
theorem cutB_no {c : UInt8} {s : List UInt8} (h : c ∉ s) : cutB c s = (s, [], false) := by
 rcases indexByte_spec c s with ⟨_, h2⟩ | ⟨p', r', h1, h2, h3⟩
 ·rw [cutB, h2]; rfl
 ·exact absurd (by rw [h1]; simp) h
def linesOf (t : List UInt8) : List (List UInt8) := (parts 10 t).dropLast
def restOf (t : List UInt8) : List UInt8 := (parts 10 t).getD ((parts 10 t).length - 1) []
theorem linesOf_none {t : List UInt8} (h : (10 : UInt8) ∉ t) : linesOf t = [] := by rw [linesOf, parts_end h]; rfl
theorem linesOf_cut {p r : List UInt8} (h : (10 : UInt8) ∉ p) : linesOf (p ++ 10 :: r) = p :: linesOf r := by
 rw [linesOf, parts_cut h]
 exact List.dropLast_cons_of_ne_nil (parts_ne _ _)
theorem parts_mem {c : UInt8} {p : List UInt8} {s : List UInt8} (h : p ∈ parts c s) : p.length ≤ s.length := by
 induction s generalizing p with
 | nil => simp [parts] at h; subst h; simp
 | cons b r ih =>
  unfold parts at h
  split at h
  ·rcases List.mem_cons.1 h with rfl | h
   ·simp
   ·have := ih h; simp; omega
  ·split at h
   ·simp at h; subst h; simp
   ·rename_i q qs e
    rcases List.mem_cons.1 h with rfl | h
    ·have := ih (p := q) (by rw [e]; simp); simp; omega
    ·have := ih (p := p) (by rw [e]; simp [h]); simp; omega
theorem fn_l11Lines (s : List UInt8) (hs : s.length ≤ 1000000000) : Fn Tryd.prog 20 [Str s] [] (.tup [lT (linesOf s), Str (restOf s)]) [] := by
 have c : Fn Tryd.prog 38 [Str s, .d (.s (.int .u8 10))] [] (.ls 0 0 (parts 10 s).length 1) [(0, .row true 1 (cT (parts 10 s)))] := fn_l01Cut s 10 hs
 have hl := parts_len 10 s
 obtain ⟨n, hn⟩ : ∃ n, (parts 10 s).length = n + 1 := by
  cases e : parts 10 s with
  | nil => exact absurd e (parts_ne 10 s)
  | cons a q => exact ⟨q.length, rfl⟩
 have e1 : (cT (parts 10 s)).take n = cT (linesOf s) := by rw [linesOf, List.dropLast_eq_take, hn]; simp [cT]
 have e2 : (parts 10 s).getD n [] = restOf s := by rw [restOf, hn]; rfl
 generalize restOf s = R at e2 ⊢
 generalize linesOf s = L at e1 ⊢
 generalize parts 10 s = Q at c hn hl e1 e2
 rw [hn] at c
 refine Fn.intro (ks := [0,2,3,4]) hty rfl rfl rfl rfl rfl ?_
 conv => whnf
 refine VCall.of_ls (k := 6) c rfl ?_
 conv => whnf
 refine VDraw.go hmo hty 13 [] rfl ?_
 conv => whnf
 refine Wr.i64 (y := ((n : Nat) : Int)) (by omega) (by omega) (by omega) ?_
 conv => whnf
 refine ⟨⟨by omega, by omega, by show n + 0 ≤ (cT Q).length; rw [cT_len, hn]; omega⟩, ?_⟩
 conv => whnf
 refine Wr.i64 (y := ((n : Nat) : Int)) (by omega) (by omega) (by omega) ?_
 conv => whnf
 refine ⟨⟨by omega, by omega⟩, ?_⟩
 conv => whnf
 refine ⟨_, cT_as (by show n + 0 < Q.length; omega) e2, ?_⟩
 conv => whnf
 refine ⟨⟨rfl, ?_, ?_⟩, rfl, trivial, rfl⟩
 ·show n + 0 ≤ (cT Q).length; rw [cT_len, hn]; omega
 ·exact e1
def recJ : Nat → List (List UInt8) → List (List UInt8) × Nat
 | _, [] => ([], 0)
 | c, l :: ls => if (cutB 32 l).2.2 = true ∧ (cutB 32 l).1 = Lib.decDigits (chk c (cutB 32 l).2.1) then
   ((cutB 32 l).2.1 :: (recJ (chk c (cutB 32 l).2.1) ls).1, l.length + 1 + (recJ (chk c (cutB 32 l).2.1) ls).2) else ([], 0)
theorem recJ_no {c : Nat} {l : List UInt8} {ls : List (List UInt8)} (h : ¬ ((cutB 32 l).2.2 = true ∧ (cutB 32 l).1 = Lib.decDigits (chk c (cutB 32 l).2.1))) : recJ c (l :: ls) = ([], 0) := by rw [recJ, if_neg h]
theorem recJ_yes {c : Nat} {l : List UInt8} {ls : List (List UInt8)} (h : (cutB 32 l).2.2 = true ∧ (cutB 32 l).1 = Lib.decDigits (chk c (cutB 32 l).2.1)) :
  recJ c (l :: ls) = ((cutB 32 l).2.1 :: (recJ (chk c (cutB 32 l).2.1) ls).1, l.length + 1 + (recJ (chk c (cutB 32 l).2.1) ls).2) := by rw [recJ, if_pos h]
structure RecI (L : List (List UInt8)) (x : List (List UInt8) × Nat × Nat) (R : List (List UInt8)) : Prop where
 a : (recJ 0 L).1 = x.1 ++ (recJ x.2.1 R).1
 b : (recJ 0 L).2 = x.2.2 + (recJ x.2.1 R).2
 c : x.2.1 < 65129
theorem RecI.init (L : List (List UInt8)) : RecI L ([], 0, 0) L := ⟨rfl, by simp, by decide⟩
theorem RecI.fin {L : List (List UInt8)} {x : List (List UInt8) × Nat × Nat} {R : List (List UInt8)} (h : RecI L x R) (hR : recJ x.2.1 R = ([], 0)) : (recJ 0 L).1 = x.1 ∧ (recJ 0 L).2 = x.2.2 := by
 have h1 := h.a; have h2 := h.b
 rw [hR] at h1 h2
 exact ⟨by simpa using h1, by simpa using h2⟩
theorem RecI.step {L : List (List UInt8)} {x : List (List UInt8) × Nat × Nat} {l p r : List UInt8} {R : List (List UInt8)} (h : RecI L x (l :: R)) (e : cutB 32 l = (p, r, true)) (e2 : p = Lib.decDigits (chk x.2.1 r)) :
  RecI L (x.1 ++ [r], chk x.2.1 r, x.2.2 + (l.length + 1)) R := by
 have h1 := h.a; have h2 := h.b
 rw [recJ_yes (by rw [e]; exact ⟨rfl, e2⟩)] at h1 h2
 rw [e] at h1 h2
 dsimp only at h1 h2
 exact ⟨by rw [h1, List.append_assoc]; rfl, by rw [h2]; show x.2.2 + (l.length + 1 + (recJ (chk x.2.1 r) R).2) = x.2.2 + (l.length + 1) + (recJ (chk x.2.1 r) R).2; omega, chk_lt _ _ h.c⟩
theorem recJ_cut {c : Nat} {l p r : List UInt8} {R : List (List UInt8)} (e : cutB 32 l = (p, r, true)) (e2 : ¬ p = Lib.decDigits (chk c r)) : recJ c (l :: R) = ([], 0) :=
 recJ_no (by rw [e]; exact fun h => e2 h.2)
theorem recJ_nocut {c : Nat} {l : List UInt8} {R : List (List UInt8)} (e : cutB 32 l = (l, [], false)) : recJ c (l :: R) = ([], 0) :=
 recJ_no (by rw [e]; exact fun h => Bool.noConfusion h.1)
theorem drop_cons_getD {α : Type} {xs : List α} {i : Nat} (d : α) (h : i < xs.length) : xs.drop i = xs.getD i d :: xs.drop (i + 1) := by
 rw [List.drop_eq_getElem_cons h, List.getD_eq_getElem?_getD, List.getElem?_eq_getElem h]; rfl
theorem fn_sRecover0 (s : List UInt8) (h : 6000 < s.length) : Fn Tryd.prog 6 [Str s] [] (.tup [lT [], I 0, B false]) [] := by
 refine Fn.intro (ks := [0,2,3,4,5,7,8,9,10,11,12,15,25,43,52,71]) hty rfl rfl rfl rfl rfl ?_
 conv => whnf
 rw [decide_eq_true (show (6000 : Int) < (⟨s.toArray⟩ : ByteArray).size by rw [bsize]; omega)]
 conv => whnf
 exact ⟨rfl, rfl, trivial, rfl⟩
theorem fn_sRecover1 (s : List UInt8) (h : s.length ≤ 6000) : Fn Tryd.prog 6 [Str s] [] (.tup [lT (recJ 0 (linesOf s)).1, I (recJ 0 (linesOf s)).2, B true]) [] := by
 have c1 := fn_l11Lines s (by omega)
 have hml : ∀ p, p ∈ linesOf s → p.length ≤ 6000 := fun p hp => by have := parts_mem (List.mem_of_mem_take (by rw [← List.dropLast_eq_take]; exact hp)); omega
 have hll : (linesOf s).length ≤ 6001 := by have := parts_len 10 s; rw [linesOf, List.length_dropLast]; omega
 generalize linesOf s = L at c1 hml hll ⊢
 have hL : ((cT L).length : Int) = L.length := by rw [cT_len]
 refine Fn.intro (ks := [0,2,3,4,5,7,8,9,10,11,12,15,25,43,52,71]) hty rfl rfl rfl rfl rfl ?_
 conv => whnf
 rw [decide_eq_false (show ¬ (6000 : Int) < (⟨s.toArray⟩ : ByteArray).size by rw [bsize]; omega)]
 conv => whnf
 refine VCall.of_data c1 (ndT fun _ => rfl) ?_
 conv => whnf
 refine VLoop.ren 21 75 rfl ?_
 refine VLoop.inv hty (S := (List (List UInt8) × Nat × Nat) × Nat) (fun x => [(10, I x.2), (9, I x.1.2.2), (8, I x.1.2.1), (7, .ls 75 0 x.1.1.length 1), (5, lT L)]) (fun x => [(75, .row true 1 (cT x.1.1))])
  (fun x => x.2 ≤ L.length ∧ RecI L x.1 (L.drop x.2) ∧ x.1.1.length ≤ x.2 ∧ x.1.2.2 ≤ x.2 * 6001) (fun x => L.length - x.2) (([], 0, 0), 0) ⟨Nat.zero_le _, RecI.init L, Nat.le_refl _, Nat.le_refl _⟩ ⟨rfl, rfl, rfl, rfl, rfl, trivial⟩ ⟨rfl, trivial⟩ ?_
 intro x hx
 obtain ⟨h1, h2, h3, h4⟩ := hx
 have h5 := h2.c
 have fin : recJ x.1.2.1 (L.drop x.2) = ([], 0) → x.1.1 = (recJ 0 L).1 ∧ x.1.2.2 = (recJ 0 L).2 := fun e => ⟨(h2.fin e).1.symm, (h2.fin e).2.symm⟩
 conv => whnf
 rw [hL]
 refine Br.mk (fun h => ?_) (fun h => ?_)
 ·have h : x.2 < L.length := by simp only [decide_eq_true_eq] at h; omega
  obtain ⟨l, el⟩ : ∃ l, L.getD x.2 [] = l := ⟨_, rfl⟩
  have ed : L.drop x.2 = l :: L.drop (x.2 + 1) := by rw [drop_cons_getD [] h, el]
  have hlm := hml l (by rw [← el]; exact getD_mem h)
  rw [ed] at h2 fin
  conv => whnf
  refine VLoop.inv hty (S := Nat) (fun k => [(11, I k), (10, I x.2), (9, I x.1.2.2), (8, I x.1.2.1), (7, .ls 75 0 x.1.1.length 1), (5, lT L)]) (fun _ => [(75, .row true 1 (cT x.1.1))])
   (fun k => k ≤ l.length ∧ (32 : UInt8) ∉ l.take k) (fun k => l.length - k) 0 ⟨Nat.zero_le _, by simp⟩ ⟨rfl, rfl, rfl, rfl, rfl, rfl, trivial⟩ ⟨rfl, trivial⟩ ?_
  intro k hk
  obtain ⟨k1, k2⟩ := hk
  conv => whnf
  refine ⟨⟨⟨by omega, by omega⟩, cT_sz _⟩, ?_⟩
  conv => whnf
  refine ⟨_, cT_as h el, ?_⟩
  conv => whnf
  refine Br.mk (fun h6 => ?_) (fun h6 => ?_)
  ·have h6 : k < l.length := by simp only [decide_eq_true_eq, bsize] at h6; omega
   conv => whnf
   refine ⟨⟨⟨by omega, by omega⟩, cT_sz _⟩, ?_⟩
   conv => whnf
   refine ⟨_, cT_as h el, ?_⟩
   conv => whnf
   refine ⟨⟨by omega, by rw [bsize]; omega⟩, ?_⟩
   conv => whnf
   obtain ⟨b, hb⟩ : ∃ b, l.getD k 0 = b := ⟨_, rfl⟩
   rw [show ((⟨l.toArray⟩ : ByteArray).data.toList.getD ((k : Nat) : Int).toNat 0) = b from hb]
   by_cases hb2 : b = 32
   ·rw [decide_eq_true (show ((b.toNat : Nat) : Int) = 32 by rw [hb2]; rfl)]
    conv => whnf
    have ecut : cutB 32 l = (l.take k, l.drop (k + 1), true) := by
     have : l = l.take k ++ 32 :: l.drop (k + 1) := by
      conv => lhs; rw [← List.take_append_drop k l, drop_cons_getD 0 h6, hb, hb2]
     conv => lhs; rw [this]
     exact cutB_at k2
    obtain ⟨r, er⟩ : ∃ r, l.drop (k + 1) = r := ⟨_, rfl⟩
    have hrl : r.length ≤ 6000 := by rw [← er, List.length_drop]; omega
    have cc := fn_l01Check x.1.2.1 r h5 (by omega)
    have hch := chk_lt r x.1.2.1 h5
    have hst := fun e2 => h2.step ecut e2
    have hno := fun e2 => recJ_cut (c := x.1.2.1) (R := L.drop (x.2 + 1)) ecut e2
    rw [er] at hst hno
    obtain ⟨m, em⟩ : ∃ m, chk x.1.2.1 r = m := ⟨_, rfl⟩
    rw [em] at cc hch hst hno
    have cd := fn_l01Dec (m : Int) (by omega) (by omega)
    rw [Lib.itoa_nonneg] at cd
    refine ⟨⟨⟨by omega, by omega⟩, cT_sz _⟩, ?_⟩
    conv => whnf
    refine ⟨_, cT_as h el, ?_⟩
    conv => whnf
    rw [decide_eq_false (show ¬ (k : Int) = (⟨l.toArray⟩ : ByteArray).size by rw [bsize]; omega)]
    conv => whnf
    refine ⟨⟨⟨by omega, by omega⟩, cT_sz _⟩, ?_⟩
    conv => whnf
    refine ⟨_, cT_as h el, ?_⟩
    conv => whnf
    refine Wr.i64 (y := ((k + 1 : Nat) : Int)) rfl (by omega) (by omega) ?_
    conv => whnf
    refine ⟨⟨by omega, by rw [bsize]; omega, by rw [bsize]; omega⟩, ?_⟩
    conv => whnf
    rw [bx, show (l.take (((⟨l.toArray⟩ : ByteArray).size : Int).toNat)).drop (((k + 1 : Nat) : Int).toNat) = r by rw [bsize, show ((l.length : Nat) : Int).toNat = l.length from rfl, List.take_length]; exact er]
    conv => whnf
    refine VCall.of_data cc (nd _) ?_
    conv => whnf
    refine VDraw.go hmo hty 9 [] rfl ?_
    conv => whnf
    refine ⟨⟨⟨by omega, by omega⟩, cT_sz _⟩, ?_⟩
    conv => whnf
    refine ⟨_, cT_as h el, ?_⟩
    conv => whnf
    refine ⟨⟨by omega, by omega, by rw [bsize]; omega⟩, ?_⟩
    conv => whnf
    rw [bx, show (l.take ((k : Nat) : Int).toNat).drop (0 : Int).toNat = l.take k from rfl]
    conv => whnf
    refine QCall.of_data cd (nd _) ?_
    conv => whnf
    rw [btl, btl]
    by_cases he : l.take k = Lib.decDigits m
    ·rw [show (!(l.take k == Lib.decDigits m)) = false by rw [he]; simp]
     conv => whnf
     refine Sub.full rfl ?_
     conv => whnf
     refine Sub.full (cT_len _) ?_
     conv => whnf
     refine ⟨by show (x.1.1.length + 1) * 16 ≤ _; omega, ?_⟩
     conv => whnf
     refine ⟨⟨⟨by omega, by omega⟩, cT_sz _⟩, ?_⟩
     conv => whnf
     refine ⟨_, cT_as h el, ?_⟩
     conv => whnf
     refine Wr.i64 (y := ((l.length + 1 : Nat) : Int)) (by rw [bsize]; omega) (by omega) (by omega) ?_
     conv => whnf
     refine Wr.i64 (y := ((x.1.2.2 + (l.length + 1) : Nat) : Int)) (by omega) (by omega) (by omega) ?_
     conv => whnf
     refine Wr.i64 (y := ((x.2 + 1 : Nat) : Int)) rfl (by omega) (by omega) ?_
     conv => whnf
     refine ⟨((x.1.1 ++ [r], m, x.1.2.2 + (l.length + 1)), x.2 + 1), ⟨h, hst he, by show (x.1.1 ++ [r]).length ≤ _; simp; omega, by show x.1.2.2 + (l.length + 1) ≤ (x.2 + 1) * 6001; omega⟩, by show L.length - (x.2 + 1) < L.length - x.2; omega, ⟨rfl, rfl, rfl, ?_, rfl, trivial⟩, ⟨?_, trivial⟩⟩
     ·show AV.ls 75 0 (x.1.1.length + 1) 1 = .ls 75 0 (x.1.1 ++ [r]).length 1
      simp
     ·show Ob.row true 1 (cT x.1.1 ++ _) = _
      rw [cT_append1]
    ·rw [show (!(l.take k == Lib.decDigits m)) = true by simp [he]]
     obtain ⟨f1, f2⟩ := fin (hno he)
     conv => whnf
     exact ⟨⟨rfl, by rw [cT_len]; omega, by rw [List.drop_zero, List.take_of_length_le (by rw [cT_len]; omega), f1]⟩, by rw [f2], rfl, trivial, rfl⟩
   ·rw [decide_eq_false (show ¬ ((b.toNat : Nat) : Int) = 32 from fun e => hb2 (UInt8.toNat_inj.1 (by show b.toNat = 32; omega)))]
    conv => whnf
    refine Wr.i64 (y := ((k + 1 : Nat) : Int)) rfl (by omega) (by omega) ?_
    conv => whnf
    exact ⟨k + 1, ⟨h6, mem_take_succ k2 (by rw [hb]; exact hb2)⟩, by show l.length - (k + 1) < l.length - k; omega, ⟨rfl, rfl, rfl, rfl, rfl, rfl, trivial⟩, ⟨rfl, trivial⟩⟩
  ·have h6 : k = l.length := by simp only [decide_eq_false_iff_not, bsize] at h6; omega
   obtain ⟨f1, f2⟩ := fin (recJ_nocut (cutB_no (by rw [h6, List.take_length] at k2; exact k2)))
   conv => whnf
   refine ⟨⟨⟨by omega, by omega⟩, cT_sz _⟩, ?_⟩
   conv => whnf
   refine ⟨_, cT_as h el, ?_⟩
   conv => whnf
   rw [decide_eq_true (show (k : Int) = (⟨l.toArray⟩ : ByteArray).size by rw [bsize]; omega)]
   conv => whnf
   exact ⟨⟨rfl, by rw [cT_len]; omega, by rw [List.drop_zero, List.take_of_length_le (by rw [cT_len]; omega), f1]⟩, by rw [f2], rfl, trivial, rfl⟩
 ·have h : x.2 = L.length := by simp only [decide_eq_false_iff_not] at h; omega
  obtain ⟨f1, f2⟩ := fin (by rw [h, List.drop_length]; rfl)
  conv => whnf
  exact ⟨⟨rfl, by rw [cT_len]; omega, by rw [List.drop_zero, List.take_of_length_le (by rw [cT_len]; omega), f1]⟩, by rw [f2], rfl, trivial, rfl⟩
end Go.V
namespace Go.V
open Go.Proofs Go.RowKit
set_option maxRecDepth 10000
set_option maxHeartbeats 1000000
theorem fn_IndexByte (s : List UInt8) (c : UInt8) : Fn Tryd.prog 23 [Str s, .d (.s (.int .u8 (c.toNat : Int)))] [] (I (Lib.indexByte s c)) [] :=
 Fn.of_same (vs := [.string ⟨s.toArray⟩, .int .u8 (c.toNat : Int)]) ⟨_, rfl, rfl, rfl⟩ fun w => by
  have h := Tryd.strings_IndexByte ⟨s.toArray⟩ (c.toNat : Int) w
  rw [show ((c.toNat : Int).toNat.toUInt8) = c by simp] at h
  exact h
theorem fn_Recover0 (s : List UInt8) (h : 6000 < s.length) : Fn Tryd.prog 7 [Str s] [] (.tup [lT [], I 0, B false]) [] := by
 refine Fn.intro (ks := [0,2,3,4,5,6,7,8,9,10,12,16,23,60]) hty rfl rfl rfl rfl rfl ?_
 conv => whnf
 rw [decide_eq_true (show (6000 : Int) < (⟨s.toArray⟩ : ByteArray).size by rw [bsize]; omega)]
 conv => whnf
 exact ⟨rfl, rfl, trivial, rfl⟩
theorem cutB_split {c : UInt8} {p : List UInt8} : (cutB c p = (p, [], false)) ∨ ∃ a b, cutB c p = (a, b, true) ∧ a.length + 1 + b.length = p.length := by
 rcases indexByte_spec c p with ⟨h1, _⟩ | ⟨a, b, h1, h2, _⟩
 ·exact .inl (cutB_no h1)
 ·refine .inr ⟨a, b, by rw [h1]; exact cutB_at h2, by rw [h1]; simp; omega⟩
theorem fn_Recover1 (s : List UInt8) (h : s.length ≤ 6000) : Fn Tryd.prog 7 [Str s] [] (.tup [.ls 0 0 (recJ 0 (linesOf s)).1.length 1, I (recJ 0 (linesOf s)).2, B true]) [(0, .row true 1 (cT (recJ 0 (linesOf s)).1))] := by
 refine Fn.intro (ks := [0,2,3,4,5,6,7,8,9,10,12,16,23,60]) hty rfl rfl rfl rfl rfl ?_
 conv => whnf
 rw [decide_eq_false (show ¬ (6000 : Int) < (⟨s.toArray⟩ : ByteArray).size by rw [bsize]; omega)]
 conv => whnf
 refine VLoop.ren 17 64 rfl ?_
 refine VLoop.inv hty (S := List (List UInt8) × Nat × Nat) (fun x => [(7, I x.2.1), (6, I x.2.2), (5, .ls 64 0 x.1.length 1), (0, Str s)]) (fun x => [(64, .row true 1 (cT x.1))])
  (fun x => x.2.2 ≤ s.length ∧ RecI (linesOf s) x (linesOf (s.drop x.2.2)) ∧ x.1.length ≤ x.2.2) (fun x => s.length - x.2.2) ([], 0, 0) ⟨Nat.zero_le _, RecI.init _, Nat.le_refl _⟩ ⟨rfl, rfl, rfl, rfl, trivial⟩ ⟨rfl, trivial⟩ ?_
 intro x hx
 obtain ⟨h1, h2, h3⟩ := hx
 have h5 := h2.c
 have fin : recJ x.2.1 (linesOf (s.drop x.2.2)) = ([], 0) → (recJ 0 (linesOf s)).1 = x.1 ∧ (recJ 0 (linesOf s)).2 = x.2.2 := fun e => h2.fin e
 obtain ⟨q, eq⟩ : ∃ q, s.drop x.2.2 = q := ⟨_, rfl⟩
 have hql : x.2.2 + q.length = s.length := by rw [← eq, List.length_drop]; omega
 have ci := fn_IndexByte q 10
 generalize linesOf s = LS at h2 fin ⊢
 rw [eq] at h2 fin
 conv => whnf
 refine ⟨⟨by omega, by rw [bsize]; omega, by rw [bsize]; omega⟩, ?_⟩
 conv => whnf
 rw [bx, show (s.take (((⟨s.toArray⟩ : ByteArray).size : Int).toNat)).drop (((x.2.2 : Nat) : Int).toNat) = q by rw [bsize, show ((s.length : Nat) : Int).toNat = s.length from rfl, List.take_length]; exact eq]
 conv => whnf
 rcases indexByte_spec 10 q with ⟨i1, i2⟩ | ⟨p, r, i1, i2, i3⟩
 ·obtain ⟨f1, f2⟩ := fin (by rw [linesOf_none i1]; rfl)
  rw [i2] at ci
  refine VCall.of_data ci (nd _) ?_
  conv => whnf
  rw [f1, f2]
  exact ⟨⟨rfl, rfl, rfl, rfl, rfl, rfl⟩, [], rfl, rfl, rfl, trivial, rfl⟩
 ·rw [i3] at ci
  rw [i1, linesOf_cut i2] at h2 fin
  have hpl : p.length + (r.length + 1) = q.length := by rw [i1]; simp
  have er : s.drop (x.2.2 + p.length + 1) = r := by
   rw [show x.2.2 + p.length + 1 = x.2.2 + (p.length + 1) by omega, ← List.drop_drop, eq, i1]; simp
  have ep : (s.take (x.2.2 + p.length)).drop x.2.2 = p := by
   rw [List.drop_take, show x.2.2 + p.length - x.2.2 = p.length by omega, eq, i1]; simp
  refine VCall.of_data ci (nd _) ?_
  conv => whnf
  rw [decide_eq_false (show ¬ ((p.length : Nat) : Int) < 0 by omega)]
  conv => whnf
  refine Wr.i64 (y := ((x.2.2 + p.length : Nat) : Int)) rfl (by omega) (by omega) ?_
  conv => whnf
  refine ⟨⟨by omega, by omega, by rw [bsize]; omega⟩, ?_⟩
  conv => whnf
  rw [bx, show (s.take (((x.2.2 + p.length : Nat) : Int).toNat)).drop (((x.2.2 : Nat) : Int).toNat) = p from ep]
  conv => whnf
  have cc := fn_Cut p 32 (by omega)
  have hcl := cutB_len 32 p
  have hspl := @cutB_split 32 p
  obtain ⟨⟨a, b, ok⟩, ecut⟩ : ∃ z, cutB 32 p = z := ⟨_, rfl⟩
  rw [ecut] at cc hcl hspl
  dsimp only at cc hcl
  have ck := fn_CheckOf x.2.1 b h5 (by omega)
  have hch := chk_lt b x.2.1 h5
  obtain ⟨m, em⟩ : ∃ m, chk x.2.1 b = m := ⟨_, rfl⟩
  rw [em] at ck hch
  have cd := fn_Decimal m (by omega)
  have hdl := dec_len (u := m) (by omega)
  generalize hdd : Lib.decDigits m = dd at cd hdl
  refine VCall.of_data cc (ndT fun _ => rfl) ?_
  conv => whnf
  refine VCall.of_data ck (ndT fun _ => rfl) ?_
  conv => whnf
  refine VCall.of_data cd (nd _) ?_
  conv => whnf
  refine ⟨by rw [bsize]; show dd.length + 1 < 2 ^ 62; omega, ?_⟩
  conv => whnf
  rw [show (⟨dd.toArray⟩ : ByteArray) ++ (⟨#[32]⟩ : ByteArray) = ⟨(dd ++ [32]).toArray⟩ from bapp dd [32]]
  refine ⟨by rw [bsize, bsize]; show (dd ++ [32]).length + b.length < 2 ^ 62; simp; omega, ?_⟩
  conv => whnf
  rw [bapp]
  refine ⟨by rw [bsize]; show a.length + 1 < 2 ^ 62; omega, ?_⟩
  conv => whnf
  rw [show (⟨a.toArray⟩ : ByteArray) ++ (⟨#[32]⟩ : ByteArray) = ⟨(a ++ [32]).toArray⟩ from bapp a [32]]
  refine ⟨by rw [bsize, bsize]; show (a ++ [32]).length + b.length < 2 ^ 62; simp; omega, ?_⟩
  conv => whnf
  rw [bapp, btl, btl]
  have stop : recJ x.2.1 (p :: linesOf r) = ([], 0) → (recJ 0 LS).1 = x.1 ∧ (recJ 0 LS).2 = x.2.2 := fin
  by_cases he : dd = a
  ·subst he
   rw [show (!(dd ++ [32] ++ b == dd ++ [32] ++ b)) = false by simp]
   refine Wr.i64 (y := ((dd.length + 1 : Nat) : Int)) (by rw [bsize]; omega) (by omega) (by omega) ?_
   conv => whnf
   refine Wr.i64 (y := ((dd.length + 1 + b.length : Nat) : Int)) (by rw [bsize]; omega) (by omega) (by omega) ?_
   conv => whnf
   rcases hspl with hs | ⟨a', b', hs, hlen⟩
   ·obtain ⟨rfl, rfl, rfl⟩ : dd = p ∧ b = [] ∧ ok = false := by simpa using hs
    obtain ⟨f1, f2⟩ := stop (recJ_nocut ecut)
    rw [show (!decide (((dd.length + 1 + ([] : List UInt8).length : Nat) : Int) = ((dd.length : Nat) : Int))) = true by simp; omega]
    rw [f1, f2]
    conv => whnf
    exact ⟨⟨rfl, rfl, rfl, rfl, rfl, rfl⟩, [], rfl, rfl, rfl, trivial, rfl⟩
   ·obtain ⟨rfl, rfl, rfl⟩ : dd = a' ∧ b = b' ∧ ok = true := by simpa using hs
    rw [show (!decide (((dd.length + 1 + b.length : Nat) : Int) = ((p.length : Nat) : Int))) = false by simp; omega]
    conv => whnf
    refine Sub.full rfl ?_
    conv => whnf
    refine Sub.full (cT_len _) ?_
    conv => whnf
    refine ⟨by show (x.1.length + 1) * 16 ≤ _; omega, ?_⟩
    conv => whnf
    refine Wr.i64 (y := ((x.2.2 + p.length : Nat) : Int)) rfl (by omega) (by omega) ?_
    conv => whnf
    refine Wr.i64 (y := ((x.2.2 + p.length + 1 : Nat) : Int)) rfl (by omega) (by omega) ?_
    conv => whnf
    have hst := h2.step ecut (by rw [em, hdd])
    rw [em] at hst
    refine ⟨(x.1 ++ [b], m, x.2.2 + (p.length + 1)), ⟨by show x.2.2 + (p.length + 1) ≤ _; omega, by rw [show s.drop (x.2.2 + (p.length + 1)) = r from er]; exact hst, by show (x.1 ++ [b]).length ≤ x.2.2 + (p.length + 1); simp; omega⟩, by show s.length - (x.2.2 + (p.length + 1)) < s.length - x.2.2; omega, ⟨rfl, rfl, ?_, rfl, trivial⟩, ⟨?_, trivial⟩⟩
    ·show AV.ls 64 0 (x.1.length + 1) 1 = .ls 64 0 (x.1 ++ [b]).length 1
     simp
    ·show Ob.row true 1 (cT x.1 ++ _) = _
     rw [cT_append1]
  ·rw [show (!(dd ++ [32] ++ b == a ++ [32] ++ b)) = true by simp [he]]
   obtain ⟨f1, f2⟩ := stop (by
    cases ok with
    | false => exact recJ_no (by rw [ecut]; exact fun h => Bool.noConfusion h.1)
    | true => exact recJ_cut ecut (by rw [em, hdd]; exact fun e => he e.symm))
   rw [f1, f2]
   conv => whnf
   exact ⟨⟨rfl, rfl, rfl, rfl, rfl, rfl⟩, [], rfl, rfl, rfl, trivial, rfl⟩
end Go.V
namespace Go.V
open Go.Proofs Go.RowKit
set_option maxRecDepth 10000
set_option maxHeartbeats 1000000
theorem recJ_len : ∀ (L : List (List UInt8)) (c : Nat), (recJ c L).1.length ≤ L.length
 | [], _ => by simp [recJ]
 | l :: ls, c => by
  have := recJ_len ls (chk c (cutB 32 l).2.1)
  rw [recJ]
  split
  ·simp; omega
  ·simp
theorem law_recover (s : List UInt8) : Fn Tryd.prog 3 [Str s] [] (B true) [] := by
 refine Fn.intro (ks := [0,2,3,4,5,6,7,8,9,10,11,12,13,16,42,50,53,73,78,81]) hty rfl rfl rfl rfl rfl ?_
 conv => whnf
 refine Br.mk (fun h => ?_) (fun h => ?_)
 ·conv => whnf
  exact ⟨rfl, trivial, rfl⟩
 ·have h0 : s.length ≤ 1000000 := by simp only [decide_eq_false_iff_not, bsize] at h; omega
  conv => whnf
  by_cases hl : 6000 < s.length
  ·have cs := fn_sRecover0 s hl
   have ci := fn_Recover0 s hl
   have ch := fn_heldT 0 101 (by omega) (by omega)
   rw [show cT (marksT 101 0) = [] from rfl] at ch
   refine VCall.of_data cs (ndT fun _ => rfl) ?_
   conv => whnf
   refine VCall.of_data ci (ndT fun _ => rfl) ?_
   conv => whnf
   refine VCall.of_data (fn_eqST [] (by simp)) (nd _) ?_
   conv => whnf
   refine VCall.of_data (fn_markT0 101) (nd _) ?_
   conv => whnf
   refine VCall.of_data ch (nd _) ?_
   conv => whnf
   refine VCall.of_data ci (ndT fun _ => rfl) ?_
   conv => whnf
   refine VCall.of_data (fn_eqST [] (by simp)) (nd _) ?_
   conv => whnf
   refine VCall.of_data ch (nd _) ?_
   conv => whnf
   exact ⟨rfl, trivial, rfl⟩
  ·have cs := fn_sRecover1 s (by omega)
   have ci := fn_Recover1 s (by omega)
   have hn : (recJ 0 (linesOf s)).1.length ≤ 1000000 := by
    have h1 := recJ_len (linesOf s) 0
    have h2 := parts_len 10 s
    have h3 : (linesOf s).length ≤ (parts 10 s).length := by rw [linesOf, List.length_dropLast]; omega
    omega
   generalize recJ 0 (linesOf s) = z at cs ci hn
   obtain ⟨ts, m⟩ := z
   dsimp only at cs ci hn
   have et : (List.drop 0 (cT ts)).take ts.length = cT ts := by rw [List.drop_zero, List.take_of_length_le (by rw [cT_len]; omega)]
   have c2 := ci.freezeT (by rw [cT_len]; omega) rfl
   rw [et] at c2
   have c3 := fn_eqST ts (by omega)
   refine VCall.of_data cs (ndT fun _ => rfl) ?_
   conv => whnf
   refine VCall.of_fnT (k := 25) ci rfl rfl ?_
   conv => whnf
   refine VCall.lend c3 ⟨lend_allT rfl rfl, rfl, trivial⟩ rfl ?_
   conv => whnf
   rw [decide_eq_true (show ((m : Nat) : Int) = ((m : Nat) : Int) from rfl)]
   conv => whnf
   refine VCall.par1 25 (fn_markT ts ts.length 101 (Nat.le_refl _) (by omega) (by omega)) ⟨⟨rfl, rfl, rfl, rfl⟩, rfl, trivial⟩ rfl ?_
   conv => whnf
   have hm : ∀ l : LL, lget 25 l = .row true 1 (cT (marksT 101 ts.length ++ List.drop ts.length ts)) → lend1 l (.ls 25 0 ts.length 1) (.d (.sl (cT (marksT 101 ts.length)))) := fun l h => by
    have := lend_wholeT (xs := marksT 101 ts.length) h
    rwa [marksT_len] at this
   have ch := fn_heldT ts.length 101 (by omega) (by omega)
   refine VCall.lend ch ⟨hm _ rfl, rfl, trivial⟩ rfl ?_
   conv => whnf
   refine Br.mk (fun h => by simp at h) (fun _ => ?_)
   conv => whnf
   rw [decide_eq_true (show ((101 + ts.length : Nat) : Int) = ((101 + ts.length : Nat) : Int) from rfl)]
   conv => whnf
   refine VCall.of_data c2 (ndT fun _ => rfl) ?_
   conv => whnf
   refine VCall.of_data c3 (nd _) ?_
   conv => whnf
   rw [decide_eq_true (show ((m : Nat) : Int) = ((m : Nat) : Int) from rfl)]
   conv => whnf
   refine VCall.lend ch ⟨hm _ rfl, rfl, trivial⟩ rfl ?_
   conv => whnf
   refine Br.mk (fun h => by simp at h) (fun _ => ?_)
   conv => whnf
   exact ⟨rfl, trivial, rfl⟩
end Go.V
