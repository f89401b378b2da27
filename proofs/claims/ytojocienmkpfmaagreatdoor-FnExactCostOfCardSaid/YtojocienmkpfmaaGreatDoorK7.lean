/- Part 7: the abstract machine, its soundness, contracts of functions. -/
import Derived.Test.YtojocienmkpfmaaGreatDoorK6
import Derived.Lib.ParseIntB
import Derived.Lib.Bytealg
import Derived.Test.YtojocienmkpfmaaGreatDoorRshelf
import Derived.Test.YtojocienmkpfmaaGreatDoorK4
/- The reference's fractions: comparisons, lists. -/
set_option linter.unusedVariables false
set_option linter.unusedSimpArgs false
namespace Go.V
open Go.Proofs
set_option maxRecDepth 10000
set_option maxHeartbeats 1000000

abbrev pS (s : Bool) (t b : Nat) : AV := .ag [B s, nS t, nS b]

def lessB (s : Bool) (t b : Nat) (s' : Bool) (t' b' : Nat) : Bool := if s ≠ s' then s else if s then decide (0 < cmpZ (t * b') (t' * b)) else decide (cmpZ (t * b') (t' * b) < 0)

theorem cmpZ_pos {a b : Nat} : 0 < cmpZ a b ↔ b < a := by
  have h1 := cmpZ_neg (a := a) (b := b)
  have h2 := cmpZ_zero (a := a) (b := b)
  omega

theorem lessB_lt (p q : Rat) : lessB (ng p) (tp p) p.den (ng q) (tp q) q.den = decide (p < q) := by
  rw [show decide (p < q) = decide (sgn (ng p) (tp p * q.den) < sgn (ng q) (tp q * p.den)) from decide_eq_decide.2 (lt_cross p q)]
  have hX : tp p * q.den = 0 → ng p = false := fun h => ng_zero ((Nat.mul_eq_zero.1 h).elim id fun h => absurd h q.den_nz)
  have hY : tp q * p.den = 0 → ng q = false := fun h => ng_zero ((Nat.mul_eq_zero.1 h).elim id fun h => absurd h p.den_nz)
  have c1 := cmpZ_neg (a := tp p * q.den) (b := tp q * p.den)
  have c2 := cmpZ_pos (a := tp p * q.den) (b := tp q * p.den)
  unfold lessB
  generalize cmpZ (tp p * q.den) (tp q * p.den) = c at *
  generalize tp p * q.den = X at *
  generalize tp q * p.den = Y at *
  cases e1 : ng p <;> cases e2 : ng q <;> simp only [e1, e2, ne_eq, not_true_eq_false, if_false, if_true, reduceCtorEq, not_false_eq_true, Bool.false_eq_true, sgn, Bool.true_eq_false] at hX hY ⊢
  · exact decide_eq_decide.2 (by omega)
  · exact (decide_eq_false (p := (X : Int) < -(Y : Int)) (by omega)).symm
  · have hX' : X ≠ 0 := hX
    exact (decide_eq_true (p := -(X : Int) < (Y : Int)) (by omega)).symm
  · exact decide_eq_decide.2 (by omega)

theorem fn_sLessP (s : Bool) (t b : Nat) (s' : Bool) (t' b' : Nat) (h1 : bl t ≤ 100000000000) (h2 : bl b ≤ 100000000000) (h3 : bl t' ≤ 100000000000) (h4 : bl b' ≤ 100000000000) :
    Fn Tryz.prog 139 [pS s t b, pS s' t' b'] [] (B (lessB s t b s' t' b')) [] := by
  have k1 := bl_mul t b'
  have k2 := bl_mul t' b
  have m1 := fn_sMul t b' (by omega) (by omega)
  have m2 := fn_sMul t' b (by omega) (by omega)
  have cc := fn_sCmp (t * b') (t' * b) (by omega) (by omega)
  unfold lessB
  obtain ⟨c, ec⟩ : ∃ x, cmpZ (t * b') (t' * b) = x := ⟨_, rfl⟩
  rw [ec] at cc
  rw [ec]
  refine Fn.intro (ks := [0,1,2,3,4,5,10]) hty rfl rfl rfl rfl rfl ?_
  conv => whnf
  refine Br.mk (fun h => ?_) (fun h => ?_)
  · have h : s ≠ s' := by simpa using h
    rw [if_pos h]
    conv => whnf
    exact ⟨rfl, trivial, rfl⟩
  · have h : ¬ s ≠ s' := by simpa using h
    rw [if_neg h]
    conv => whnf
    refine VDraw.go hmo hty 12 [] rfl ?_
    conv => whnf
    refine QCall.of_data m1 (nd _) ?_
    conv => whnf
    refine QCall.of_data m2 (nd _) ?_
    conv => whnf
    refine QCall.of_data cc (nd _) ?_
    conv => whnf
    cases s
    · conv => whnf
      refine Br.mk (fun h2 => ?_) (fun h2 => ?_)
      · conv => whnf
        exact ⟨by rw [if_neg (by decide), h2], trivial, rfl⟩
      · conv => whnf
        exact ⟨by rw [if_neg (by decide), h2], trivial, rfl⟩
    · conv => whnf
      exact ⟨rfl, trivial, rfl⟩

theorem fn_sLess2 (p q : Rat) (hp : sz p ≤ 100000000000) (hq : sz q ≤ 100000000000) : Fn Tryz.prog 139 [rS p, rS q] [] (B (decide (p < q))) [] := by
  have b1 := bl_tp p
  have b2 := bl_den p
  have b3 := bl_tp q
  have b4 := bl_den q
  rw [← lessB_lt]
  exact fn_sLessP _ _ _ _ _ _ (by omega) (by omega) (by omega) (by omega)

def c1S (q : Rat) : List C := [.s (.bool (ng q)), .sl (cW .i64 (dg B9 (tp q))), .sl (cW .i64 (dg B9 q.den))]
/-- Fractions as cells, in the reference. -/
def cS (xs : List Rat) : List (List C) := xs.map c1S
theorem cS_len (xs : List Rat) : (cS xs).length = xs.length := by simp [cS]
theorem cS_sz (xs : List Rat) : ∀ r, r ∈ cS xs → r.length = 3 := by
  intro r hr; simp only [cS, List.mem_map] at hr; obtain ⟨n, _, rfl⟩ := hr; rfl
theorem cS_as {xs : List Rat} {i : Nat} {x : Rat} (h : i < xs.length) (e : xs.getD i 0 = x) : (cS xs)[i]? = some (c1S x) := by
  subst e; rw [List.getD_eq_getElem?_getD, List.getElem?_eq_getElem h]; simp [cS, h]
theorem cS_append (xs ys : List Rat) : cS xs ++ cS ys = cS (xs ++ ys) := by simp [cS]
abbrev lS (xs : List Rat) : AV := .d (.sl (cS xs))

theorem fn_sPower (p : Rat) (n : Nat) (hn : n ≤ 1000000000) (hp : n * sz p + sz p + 1 ≤ 100000000000) : Fn Tryz.prog 173 [rS p, I n] [] (rS (p ^ n)) [] := by
  have c := fn_sOne
  rw [show (1 : Rat) = p ^ 0 by rw [Rat.pow_zero]] at c
  refine Fn.intro (ks := [0,1,2,4,5,8]) hty rfl rfl rfl rfl rfl ?_
  conv => whnf
  refine VCall.of_data c (ndA fun k => rfl) ?_
  conv => whnf
  refine VLoop.inv hty (S := Nat) (fun i => [(1, I ((n - i : Nat) : Int)), (5, .lp 5 0), (4, .lp 4 0), (2, .lp 2 0)])
    (fun i => [(5, .box true [B (ng (p ^ i)), nS (tp (p ^ i)), nS (p ^ i).den]), (4, .box true (zeros (ty 93).zero)), (2, .box true [B (ng p), nS (tp p), nS p.den])])
    (fun i => i ≤ n) (fun i => n - i) 0 (Nat.zero_le _) ⟨rfl, rfl, rfl, rfl, trivial⟩ ⟨rfl, rfl, rfl, trivial⟩ ?_
  intro i hi
  conv => whnf
  refine Br.mk (fun h => ?_) (fun h => ?_)
  · have h : i < n := by simp only [decide_eq_true_eq] at h; omega
    have hs := sz_pow p i
    have hs2 : i * sz p ≤ n * sz p := Nat.mul_le_mul_right _ hi
    have cm := fn_sTimes (p ^ i) p (by omega)
    rw [← Rat.pow_succ] at cm
    conv => whnf
    refine VCall.of_data cm (ndA fun k => rfl) ?_
    conv => whnf
    refine Wr.i64 (y := ((n - (i + 1) : Nat) : Int)) (by omega) (by omega) (by omega) ?_
    conv => whnf
    exact ⟨i + 1, h, by show n - (i + 1) < n - i; omega, ⟨rfl, rfl, rfl, rfl, trivial⟩, rfl, rfl, rfl, trivial⟩
  · have h : i = n := by simp only [decide_eq_false_iff_not] at h; omega
    subst h
    conv => whnf
    exact ⟨rfl, rfl, rfl, trivial, rfl⟩

theorem fn_sTotal (xs : List Rat) (m : Nat) (h : ∀ q, q ∈ xs → sz q ≤ m) (h1 : 1 ≤ m) (hn : xs.length ≤ 1000000) (hm : xs.length * (m + 1) + m + 1 ≤ 99999999999) : Fn Tryz.prog 200 [lS xs] [] (rS (rsum xs)) [] := by
  have hl : ((cS xs).length : Int) = xs.length := by rw [cS_len]
  refine Fn.intro (ks := [0,2,3,4,7,8,9]) hty rfl rfl rfl rfl rfl ?_
  conv => whnf
  refine VCall.of_data fn_sNone (ndA fun k => rfl) ?_
  conv => whnf
  refine VLoop.inv hty (S := Nat) (fun i => [(8, I i), (7, I xs.length), (0, lS xs), (3, .lp 3 0), (2, .lp 2 0)])
    (fun i => [(3, .box true [B (ng (psum xs i)), nS (tp (psum xs i)), nS (psum xs i).den]), (2, .box true (zeros (ty 93).zero))])
    (fun i => i ≤ xs.length) (fun i => xs.length - i) 0 (Nat.zero_le _) ⟨rfl, by show AV.d (.s (.int .i64 ((cS xs).length : Int))) = _; rw [cS_len], rfl, rfl, rfl, trivial⟩ ⟨rfl, rfl, trivial⟩ ?_
  intro i hi
  conv => whnf
  refine Br.mk (fun h2 => ?_) (fun h2 => ?_)
  · have h2 : i < xs.length := by simp only [decide_eq_true_eq] at h2; omega
    obtain ⟨x, ex⟩ : ∃ x, xs.getD i 0 = x := ⟨_, rfl⟩
    have sx := getD_sz h i h1
    have sp := sz_psum h h1 i
    have hi2 : i * (m + 1) ≤ xs.length * (m + 1) := Nat.mul_le_mul_right _ hi
    have er : psum xs (i + 1) = psum xs i + x := by rw [← ex]; rfl
    rw [ex] at sx
    have cc := fn_sSum (psum xs i) x (by omega)
    rw [← er] at cc
    conv => whnf
    refine VDraw.go hmo hty 6 [] rfl ?_
    conv => whnf
    refine ⟨⟨⟨by omega, by omega⟩, cS_sz _⟩, ?_⟩
    conv => whnf
    refine ⟨_, cS_as (x := x) h2 ex, ?_⟩
    conv => whnf
    refine QCall.of_data cc (ndA fun k => rfl) ?_
    conv => whnf
    refine Wr.i64 (y := ((i + 1 : Nat) : Int)) (by omega) (by omega) (by omega) ?_
    conv => whnf
    exact ⟨i + 1, h2, by show xs.length - (i + 1) < xs.length - i; omega, ⟨rfl, rfl, rfl, rfl, rfl, trivial⟩, rfl, rfl, trivial⟩
  · have h2 : i = xs.length := by simp only [decide_eq_false_iff_not] at h2; omega
    subst h2
    conv => whnf
    exact ⟨rfl, rfl, rfl, trivial, rfl⟩

theorem fn_sPositive (xs : List Rat) (hn : xs.length ≤ 1000000) : Fn Tryz.prog 137 [lS xs] [] (B (xs.all fun q => !ng q)) [] := by
  have hl : ((cS xs).length : Int) = xs.length := by rw [cS_len]
  refine Fn.intro (ks := [0,2,3,5,6,7,13]) hty rfl rfl rfl rfl rfl ?_
  conv => whnf
  refine VLoop.inv hty (S := Nat) (fun i => [(6, I i), (5, I xs.length), (0, lS xs)]) (fun _ => []) (fun i => i ≤ xs.length ∧ ∀ k, k < i → ng (xs.getD k 0) = false) (fun i => xs.length - i) 0 ⟨Nat.zero_le _, fun k h => absurd h (Nat.not_lt_zero k)⟩
    ⟨rfl, by show AV.d (.s (.int .i64 ((cS xs).length : Int))) = _; rw [cS_len], rfl, trivial⟩ trivial ?_
  rintro i ⟨hi, hk⟩
  conv => whnf
  refine Br.mk (fun h2 => ?_) (fun h2 => ?_)
  · have h2 : i < xs.length := by simp only [decide_eq_true_eq] at h2; omega
    obtain ⟨x, ex⟩ : ∃ x, xs.getD i 0 = x := ⟨_, rfl⟩
    conv => whnf
    refine ⟨⟨⟨by omega, by omega⟩, cS_sz _⟩, ?_⟩
    conv => whnf
    refine ⟨_, cS_as (x := x) h2 ex, ?_⟩
    conv => whnf
    refine Br.mk (fun h3 => ?_) (fun h3 => ?_)
    · have e : (xs.all fun q => !ng q) = false := by
        rw [List.all_eq_false]
        refine ⟨x, ?_, by rw [h3]; decide⟩
        rw [← ex, List.getD_eq_getElem?_getD, List.getElem?_eq_getElem h2]
        exact List.getElem_mem h2
      rw [e]
      conv => whnf
      exact ⟨rfl, trivial, rfl⟩
    · conv => whnf
      refine Wr.i64 (y := ((i + 1 : Nat) : Int)) (by omega) (by omega) (by omega) ?_
      conv => whnf
      refine ⟨i + 1, ⟨h2, fun k hki => ?_⟩, by show xs.length - (i + 1) < xs.length - i; omega, ⟨rfl, rfl, rfl, trivial⟩, trivial⟩
      rcases Nat.lt_or_ge k i with h4 | h4
      · exact hk k h4
      · rw [show k = i by omega, ex]; exact h3
  · have h2 : i = xs.length := by simp only [decide_eq_false_iff_not] at h2; omega
    have e : (xs.all fun q => !ng q) = true := by
      rw [List.all_eq_true]
      intro q hq
      obtain ⟨k, hk1, hk2⟩ := List.mem_iff_getElem.1 hq
      have := hk k (by omega)
      rw [List.getD_eq_getElem?_getD, List.getElem?_eq_getElem hk1] at this
      simp at this
      rw [hk2] at this
      simp [this]
    rw [e]
    conv => whnf
    exact ⟨rfl, trivial, rfl⟩

end Go.V
/- Texts of numbers, cut at marks. -/
namespace Go.V

theorem parseM_ok : ∀ (s : List UInt8) (acc : Nat), (∀ b, b ∈ s → IsD b) → (acc + 1) * 10 ^ s.length ≤ 10 ^ 18 → Lib.parseUintM (2 ^ 64 - 1) acc s = .ok (dvA s acc)
  | [], acc, _, _ => rfl
  | b :: r, acc, h, hb => by
    have h1 := h b (by simp)
    have e : (acc + 1) * 10 ^ (b :: r).length = (acc + 1) * 10 * 10 ^ r.length := by rw [List.length_cons, Nat.pow_succ, Nat.mul_assoc, Nat.mul_comm 10]
    rw [e] at hb
    have h2 : (acc + 1) * 10 * 1 ≤ (acc + 1) * 10 * 10 ^ r.length := Nat.mul_le_mul_left _ (Nat.pow_pos (by decide))
    have h18 : (10 : Nat) ^ 18 = 1000000000000000000 := by decide
    have hd : b.toNat - 48 ≤ 9 := by have := h1.2; omega
    have h64 : (2 : Nat) ^ 64 - 1 = 18446744073709551615 := by decide
    rw [Lib.parseUintM, if_pos (show 48 ≤ b.toNat ∧ b.toNat ≤ 57 from h1), if_neg (by omega), if_neg (by rw [h64]; omega), dvA, Nat.mul_comm 10 acc]
    refine parseM_ok r _ (fun x hx => h x (by simp [hx])) ?_
    have h3 : (acc * 10 + (b.toNat - 48) + 1) * 10 ^ r.length ≤ (acc + 1) * 10 * 10 ^ r.length := Nat.mul_le_mul_right _ (by omega)
    omega

theorem parse_ok {s : List UInt8} (h : ∀ b, b ∈ s → IsD b) (h0 : s ≠ []) (hl : s.length ≤ 18) : Lib.parseUintB 64 s = .ok (dv s) := by
  rw [Lib.parseUintB, if_neg h0]
  refine parseM_ok s 0 h ?_
  rw [Nat.zero_add, Nat.one_mul]
  exact Nat.pow_le_pow_right (by decide) hl

/-- The parts between marks. -/
def splitB (c : UInt8) : List UInt8 → List (List UInt8)
  | [] => [[]]
  | b :: r => if b = c then [] :: splitB c r else match splitB c r with
    | p :: ps => (b :: p) :: ps
    | [] => [[b]]

theorem splitB_ne (c : UInt8) : ∀ s, splitB c s ≠ []
  | [] => by simp [splitB]
  | b :: r => by
    unfold splitB
    split
    · simp
    · split <;> simp

theorem splitB_none {c : UInt8} : ∀ {s : List UInt8}, c ∉ s → splitB c s = [s]
  | [], _ => rfl
  | b :: r, h => by
    have h1 : b ≠ c := fun e => h (by simp [e])
    have h2 := splitB_none (c := c) (s := r) fun hr => h (by simp [hr])
    rw [splitB, if_neg h1, h2]

theorem splitB_at {c : UInt8} : ∀ {p s : List UInt8}, c ∉ p → splitB c (p ++ c :: s) = p :: splitB c s
  | [], s, _ => by rw [List.nil_append, splitB, if_pos rfl]
  | b :: r, s, h => by
    have h1 : b ≠ c := fun e => h (by simp [e])
    have h2 := splitB_at (c := c) (p := r) (s := s) fun hr => h (by simp [hr])
    rw [List.cons_append, splitB, if_neg h1, h2]

theorem indexByte_spec (c : UInt8) : ∀ s : List UInt8, (c ∉ s ∧ Lib.indexByte s c = -1) ∨ ∃ p r, s = p ++ c :: r ∧ c ∉ p ∧ Lib.indexByte s c = p.length
  | [] => .inl ⟨by simp, rfl⟩
  | b :: r => by
    by_cases hb : b = c
    · subst hb
      exact .inr ⟨[], r, rfl, by simp, by simp [Lib.indexByte]⟩
    · rcases indexByte_spec c r with ⟨h1, h2⟩ | ⟨p, q, h1, h2, h3⟩
      · left
        refine ⟨by simp only [List.mem_cons, not_or]; exact ⟨fun e => hb e.symm, h1⟩, ?_⟩
        simp [Lib.indexByte, hb, h2]
      · right
        refine ⟨b :: p, q, by rw [h1]; rfl, by simp only [List.mem_cons, not_or]; exact ⟨fun e => hb e.symm, h2⟩, ?_⟩
        have : ¬ ((p.length : Int) = -1) := by omega
        simp [Lib.indexByte, hb, h3, this]

/-- A text of a number of at least 0: decimal digits, not too many, without zeros in front. -/
def okN (s : List UInt8) : Prop := s ≠ [] ∧ s.length ≤ 200 ∧ (∀ b, b ∈ s → IsD b) ∧ (s.length = 1 ∨ s.head? ≠ some 48)
instance (s : List UInt8) : Decidable (okN s) := by unfold okN IsD; exact inferInstance

end Go.V
/- The library's functions on texts. -/
namespace Go.V
open Go.Proofs Go.RowKit
set_option maxRecDepth 10000
set_option maxHeartbeats 1000000

theorem bx (l : List UInt8) (a h : Nat) : (⟨l.toArray⟩ : ByteArray).extract a h = ⟨((l.take h).drop a).toArray⟩ := by
  apply ByteArray.ext
  rw [ByteArray.data_extract]
  simp [List.drop_take]

theorem bsize (l : List UInt8) : (⟨l.toArray⟩ : ByteArray).size = l.length := rfl

theorem Grew.below {w w' : World} (h : Below w.heap.size w w') : Grew w w' := ⟨h.os, h.tape, h.output, h.size, h.block⟩

theorem Grew.bytes (w : World) (e : TypeId) (s : ByteArray) : Grew w (Lib.bytesWorld w e s) :=
  ⟨rfl, rfl, rfl, by rw [Lib.bytesWorld_size]; omega, fun j hj => Lib.bytesWorld_at_old w e s j hj⟩

theorem avr_tup {κ : Know} {ρ : Place} {vs : List Value} {cs : List AV} (h : vs.length = cs.length) (hv : ∀ (k : Nat) v c, vs[k]? = some v → cs[k]? = some c → AVR κ ρ v c) : AVR κ ρ (.tuple vs.toArray) (.tup cs) :=
  .tup _ _ (by simpa using h) fun k v c h1 h2 => hv k v c (by simpa using h1) h2

theorem fn_ParseUint (s : List UInt8) (h : ∀ b, b ∈ s → IsD b) (h0 : s ≠ []) (hl : s.length ≤ 18) : Fn Tryz.prog 189 [Str s, I 10, I 64] [] (.tup [N64 (dv s), .d (.s .nilIface)]) [] := by
  refine Fn.of_calls (vs := [.string ⟨s.toArray⟩, .int .i64 10, .int .i64 64]) ⟨_, rfl, rfl, rfl⟩ fun w _ => ?_
  refine Calls.mono (Tryz.strconv_ParseUint_10_at64_ok ⟨s.toArray⟩ (by rw [bsize]; omega) (dv s) (parse_ok h h0 hl) w) ?_
  rintro e w' ⟨rfl, hw⟩
  refine ⟨_, rfl, fun κ ρ => ?_, ?_⟩
  · refine avr_tup (vs := [.int .u64 (dv s), .nilIface]) rfl fun k v c h1 h2 => ?_
    match k, h1, h2 with
    | 0, h1, h2 => simp at h1 h2; subst h1; subst h2; exact .d _ _ (.s _)
    | 1, h1, h2 => simp at h1 h2; subst h1; subst h2; exact .d _ _ (.s _)
  · rcases hw with rfl | rfl
    · exact Grew.refl _
    · exact Grew.bytes _ _ _

theorem fn_CutPrefix (s p : List UInt8) : Fn Tryz.prog 142 [Str s, Str p] [] (.tup [Str (Lib.trimPrefix s p), B (Lib.hasPrefix s p)]) [] := by
  refine Fn.of_calls (vs := [.string ⟨s.toArray⟩, .string ⟨p.toArray⟩]) ⟨_, rfl, rfl, rfl⟩ fun w _ => ?_
  refine Calls.mono (Tryz.strings_CutPrefix ⟨s.toArray⟩ ⟨p.toArray⟩ w) ?_
  rintro e w' ⟨rfl, rfl⟩
  refine ⟨_, rfl, fun κ ρ => ?_, Grew.refl _⟩
  refine avr_tup (vs := [.string ⟨(Lib.trimPrefix s p).toArray⟩, .bool (Lib.hasPrefix s p)]) rfl fun k v c h1 h2 => ?_
  match k, h1, h2 with
  | 0, h1, h2 => simp at h1 h2; subst h1; subst h2; exact .d _ _ (.s _)
  | 1, h1, h2 => simp at h1 h2; subst h1; subst h2; exact .d _ _ (.s _)

theorem fn_Index1 (s : List UInt8) (c : UInt8) : Fn Tryz.prog 210 [Str s, Str [c]] [] (I (Lib.indexByte s c)) [] :=
  Fn.of_same (vs := [.string ⟨s.toArray⟩, .string ⟨[c].toArray⟩]) ⟨_, rfl, rfl, rfl⟩ fun w => Tryz.stringslite_Index_one ⟨s.toArray⟩ c w

/-- Cut at the first mark. -/
def cutB (c : UInt8) (s : List UInt8) : List UInt8 × List UInt8 × Bool := match Lib.indexByte s c with
  | .ofNat n => (s.take n, s.drop (n + 1), true)
  | .negSucc _ => (s, [], false)

theorem fn_slCut (s : List UInt8) (c : UInt8) (hs : s.length ≤ 1000000000000) : Fn Tryz.prog 187 [Str s, Str [c]] [] (.tup [Str (cutB c s).1, Str (cutB c s).2.1, B (cutB c s).2.2]) [] := by
  have ci := fn_Index1 s c
  refine Fn.intro (ks := [0,1,4,5,6,7,12]) hty rfl rfl rfl rfl rfl ?_
  rcases indexByte_spec c s with ⟨h1, h2⟩ | ⟨p, r, h1, h2, h3⟩
  · rw [show cutB c s = (s, [], false) by rw [cutB, h2]; rfl]
    rw [h2] at ci
    conv => whnf
    refine VCall.of_data ci (nd _) ?_
    conv => whnf
    exact ⟨rfl, rfl, rfl, trivial, rfl⟩
  · have hl : s.length = p.length + (r.length + 1) := by rw [h1]; simp
    have e : cutB c s = (p, r, true) := by
      rw [cutB, h3]
      show (s.take p.length, s.drop (p.length + 1), true) = _
      rw [h1]; simp
    rw [e]
    rw [h3] at ci
    conv => whnf
    refine VCall.of_data ci (nd _) ?_
    conv => whnf
    refine VDraw.go hmo hty 12 [] rfl ?_
    conv => whnf
    refine ⟨⟨by omega, by omega, by rw [bsize]; omega⟩, ?_⟩
    rw [bx, show s.take ((p.length : Nat) : Int).toNat = p by rw [h1]; simp, show p.drop (0 : Int).toNat = p from rfl]
    conv => whnf
    refine Wr.i64 (y := ((p.length + 1 : Nat) : Int)) rfl (by omega) (by omega) ?_
    conv => whnf
    refine ⟨⟨by omega, by rw [bsize]; omega, by rw [bsize]; omega⟩, ?_⟩
    rw [bx, show (s.take (((⟨s.toArray⟩ : ByteArray).size : Int).toNat)).drop (((p.length + 1 : Nat) : Int).toNat) = r by
      rw [bsize, show ((s.length : Nat) : Int).toNat = s.length from rfl, List.take_length, show ((p.length + 1 : Nat) : Int).toNat = p.length + 1 from rfl, h1]; simp]
    conv => whnf
    exact ⟨rfl, rfl, rfl, trivial, rfl⟩

theorem fn_Cut (s : List UInt8) (c : UInt8) (hs : s.length ≤ 1000000000000) : Fn Tryz.prog 141 [Str s, Str [c]] [] (.tup [Str (cutB c s).1, Str (cutB c s).2.1, B (cutB c s).2.2]) [] := by
  refine Fn.intro (ks := [0,1,4,5,6]) hty rfl rfl rfl rfl rfl ?_
  conv => whnf
  refine VCall.of_data (fn_slCut s c hs) (ndT (fun k => rfl)) ?_
  conv => whnf
  exact ⟨rfl, rfl, rfl, trivial, rfl⟩

end Go.V
/- The program reads naturals and fractions. -/
namespace Go.V
open Go.Proofs Go.RowKit
set_option maxRecDepth 10000
set_option maxHeartbeats 1000000

theorem bloop (l : List UInt8) : ∀ (n i : Nat) (r : List UInt8), l.length - i = n → ByteArray.toList.loop ⟨l.toArray⟩ i r = r.reverse ++ l.drop i := by
  intro n
  induction n with
  | zero =>
    intro i r h
    unfold ByteArray.toList.loop
    rw [if_neg (by show ¬ i < l.length; omega), List.drop_of_length_le (by omega), List.append_nil]
  | succ n ih =>
    intro i r h
    have hi : i < l.length := by omega
    unfold ByteArray.toList.loop
    rw [if_pos (show i < (⟨l.toArray⟩ : ByteArray).size from hi), ih _ _ (by omega), List.drop_eq_getElem_cons hi]
    have : (⟨l.toArray⟩ : ByteArray).get! i = l[i] := by
      show l.toArray[i]! = l[i]
      simp [hi]
    rw [this]
    simp

theorem btl (l : List UInt8) : (⟨l.toArray⟩ : ByteArray).toList = l := by
  unfold ByteArray.toList
  rw [bloop l _ 0 [] rfl]; simp

theorem bnil (l : List UInt8) : ((⟨l.toArray⟩ : ByteArray).toList == (⟨#[]⟩ : ByteArray).toList) = decide (l = []) := by
  rw [btl, show (⟨#[]⟩ : ByteArray).toList = [] from btl []]
  cases l <;> rfl

theorem dv_bl {s : List UInt8} (h : ∀ b, b ∈ s → IsD b) : bl (dv s) ≤ 4 * s.length := by
  refine bl_le (Nat.lt_of_lt_of_le (dv_lt h) ?_)
  rw [Nat.pow_mul]; exact Nat.pow_le_pow_left (by decide) _

theorem okN.dig {s : List UInt8} (h : okN s) : ∀ b, b ∈ s → IsD b := h.2.2.1



theorem fn_readNat (s : List UInt8) (hs : s.length ≤ 1000000000000) : Fn Tryz.prog 143 [Str s] [] (.tup [nI (if okN s then dv s else 0), B (decide (okN s))]) [] := by
  refine Fn.intro (ks := [0,2,3,4,5,6,7,9,26,29,30,31,42,45,50,58,59,60]) hty rfl rfl rfl rfl rfl ?_
  conv => whnf
  refine Br.mk (fun h => ?_) (fun h => ?_)
  · rw [bnil, decide_eq_true_eq] at h
    have hno : ¬ okN s := fun hok => hok.1 h
    conv => whnf
    rw [if_neg hno, decide_eq_false hno]
    conv => whnf
    exact ⟨rfl, trivial, rfl⟩
  · rw [bnil, decide_eq_false_iff_not] at h
    have hpos : 0 < s.length := List.length_pos_iff.2 h
    conv => whnf
    refine Br.mk (fun h2 => ?_) (fun h2 => ?_)
    · have h2 : 200 < s.length := by rw [bsize] at h2; simp only [decide_eq_true_eq] at h2; omega
      have hno : ¬ okN s := fun hok => by have := hok.2.1; omega
      conv => whnf
      rw [if_neg hno, decide_eq_false hno]
      conv => whnf
      exact ⟨rfl, trivial, rfl⟩
    · have h2 : s.length ≤ 200 := by rw [bsize] at h2; simp only [decide_eq_false_iff_not] at h2; omega
      conv => whnf
      refine ⟨⟨by omega, by rw [bsize]; omega⟩, ?_⟩
      conv => whnf
      have hhead : s.head? = some (s.getD 0 0) := by cases s with
        | nil => simp at hpos
        | cons x r => rfl
      refine Br.mk (fun h3 => ?_) (fun h3 => ?_)
      · have h3 : s.getD 0 0 = 48 := by
          have h3' : (((s.getD 0 0).toNat : Nat) : Int) = 48 := by simp only [decide_eq_true_eq] at h3; exact h3
          exact uint8_ext (by show (s.getD 0 0).toNat = 48; omega)
        conv => whnf
        refine Br.mk (fun h4 => ?_) (fun h4 => ?_)
        · have h4 : 1 < s.length := by rw [bsize] at h4; simp only [decide_eq_true_eq] at h4; omega
          have hno : ¬ okN s := fun hok => by
            rcases hok.2.2.2 with h5 | h5
            · omega
            · rw [hhead, h3] at h5; exact h5 rfl
          conv => whnf
          rw [if_neg hno, decide_eq_false hno]
          conv => whnf
          exact ⟨rfl, trivial, rfl⟩
        · have hlz : s.length = 1 ∨ s.head? ≠ some 48 := .inl (by rw [bsize] at h4; simp only [decide_eq_false_iff_not] at h4; omega)
          conv => whnf
          refine VLoop.invX hty (S := Nat) (E := Unit) [] [] 0 (fun i => [(30, I i), (29, I s.length), (4, .ls 27 0 0 1), (0, Str s)]) (fun _ => [(27, .row true 1 [])]) (fun i => i ≤ s.length ∧ ∀ k, k < i → IsD (s.getD k 0)) (fun i => s.length - i)
            (fun _ => [(4, .ls 27 0 0 1), (0, Str s)]) (fun _ => [(27, .row true 1 [])]) (fun _ => ∀ b, b ∈ s → IsD b) 0 ⟨Nat.zero_le _, fun k h => absurd h (Nat.not_lt_zero k)⟩ ⟨rfl, rfl, rfl, rfl, trivial⟩ ⟨rfl, trivial⟩ ?_ ?_
          · rintro i ⟨hi, hk⟩
            obtain ⟨b, eb⟩ : ∃ b, s.getD i 0 = b := ⟨_, rfl⟩
            conv => whnf
            refine Br.mk (fun h5 => ?_) (fun h5 => ?_)
            · have h5 : i < s.length := by simp only [decide_eq_true_eq] at h5; omega
              have hbm : b ∈ s := by rw [← eb, List.getD_eq_getElem?_getD, List.getElem?_eq_getElem h5]; exact List.getElem_mem h5
              conv => whnf
              refine ⟨⟨by omega, by rw [bsize]; omega⟩, ?_⟩
              rw [show (⟨s.toArray⟩ : ByteArray).data.toList.getD ((i : Nat) : Int).toNat 0 = b from eb]
              conv => whnf
              refine Br.mk (fun h6 => ?_) (fun h6 => ?_)
              · have h6 : b.toNat < 48 := by simp only [decide_eq_true_eq] at h6; omega
                have hno : ¬ okN s := fun hok => by have := (hok.dig b hbm).1; omega
                conv => whnf
                rw [if_neg hno, decide_eq_false hno]
                conv => whnf
                exact ⟨rfl, trivial, rfl⟩
              · have h6 : ¬ b.toNat < 48 := by simp only [decide_eq_false_iff_not] at h6; omega
                conv => whnf
                refine ⟨⟨by omega, by rw [bsize]; omega⟩, ?_⟩
                rw [show (⟨s.toArray⟩ : ByteArray).data.toList.getD ((i : Nat) : Int).toNat 0 = b from eb]
                conv => whnf
                refine Br.mk (fun h7 => ?_) (fun h7 => ?_)
                · have h7 : 57 < b.toNat := by simp only [decide_eq_true_eq] at h7; omega
                  have hno : ¬ okN s := fun hok => by have := (hok.dig b hbm).2; omega
                  conv => whnf
                  rw [if_neg hno, decide_eq_false hno]
                  conv => whnf
                  exact ⟨rfl, trivial, rfl⟩
                · have h7 : ¬ 57 < b.toNat := by simp only [decide_eq_false_iff_not] at h7; omega
                  conv => whnf
                  refine Wr.i64 (y := ((i + 1 : Nat) : Int)) (by omega) (by omega) (by omega) ?_
                  conv => whnf
                  refine ⟨i + 1, ⟨h5, fun k hki => ?_⟩, by show s.length - (i + 1) < s.length - i; omega, ⟨rfl, rfl, rfl, rfl, trivial⟩, rfl, trivial⟩
                  rcases Nat.lt_or_ge k i with h8 | h8
                  · exact hk k h8
                  · rw [show k = i by omega, eb]; exact ⟨by omega, by omega⟩
            · have h5 : i = s.length := by simp only [decide_eq_false_iff_not] at h5; omega
              conv => whnf
              refine ⟨rfl, (), fun b hb => ?_, ⟨rfl, rfl, trivial⟩, rfl, trivial⟩
              obtain ⟨k, hk1, hk2⟩ := List.mem_iff_getElem.1 hb
              have := hk k (by omega)
              rw [List.getD_eq_getElem?_getD, List.getElem?_eq_getElem hk1] at this
              simpa [hk2] using this
          · rintro _ hdig
            have hok : okN s := ⟨h, h2, hdig, hlz⟩
            have hbl : ∀ m, m ≤ s.length → bl (dv (s.take m)) ≤ 800 := fun m hm => by
              have h1 := dv_bl (s := s.take m) fun b hb => hdig b (List.mem_of_mem_take hb)
              rw [List.length_take] at h1; omega
            rw [if_pos hok, decide_eq_true hok]
            conv => whnf
            refine VLoop.frz (t' := [(4, nI (dv (s.take 0))), (0, Str (s.drop 0))]) 27 rfl ⟨rfl, .inr ⟨rfl, rfl, Nat.le_refl _, rfl⟩, rfl, .inl rfl, trivial⟩ ?_
            refine VLoop.invX hty (S := Nat) (E := Unit) [] [] 2 (fun m => [(4, nI (dv (s.take m))), (0, Str (s.drop m))]) (fun _ => []) (fun m => m ≤ s.length) (fun m => s.length - m)
              (fun _ => [(4, nI (dv s))]) (fun _ => []) (fun _ => True) 0 (Nat.zero_le _) ⟨rfl, rfl, trivial⟩ trivial ?_ ?_
            · intro m hm
              obtain ⟨r, er⟩ : ∃ r, s.drop m = r := ⟨_, rfl⟩
              have hrl : r.length = s.length - m := by rw [← er, List.length_drop]
              have hrd : ∀ b, b ∈ r → IsD b := fun b hb => hdig b (List.mem_of_mem_drop (by rw [er]; exact hb))
              rw [er]
              conv => whnf
              refine Br.mk (fun h5 => ?_) (fun h5 => ?_)
              · have h5 : r ≠ [] := by rw [bnil] at h5; simpa using h5
                have hL : 0 < r.length := List.length_pos_iff.2 h5
                have emod : Int.tmod (((⟨r.toArray⟩ : ByteArray).size : Nat) : Int) 9 = ((r.length % 9 : Nat) : Int) := by rw [bsize]; exact (Int.ofNat_tmod r.length 9).symm
                conv => whnf
                refine ⟨by decide, ?_⟩
                rw [emod]
                conv => whnf
                refine Br.mk (fun h6 => ?_) (fun h6 => ?_)
                case' refine_1 =>
                  have h6 : r.length % 9 = 0 := by simp only [decide_eq_true_eq] at h6; omega
                  obtain ⟨n, hn1, hn2, hn3, en⟩ : ∃ n : Nat, 1 ≤ n ∧ n ≤ 9 ∧ n ≤ r.length ∧ (9 : Int) = n := ⟨9, by decide, by decide, by omega, rfl⟩
                  rw [en]
                case' refine_2 =>
                  have h6 : ¬ r.length % 9 = 0 := by simp only [decide_eq_false_iff_not] at h6; omega
                  obtain ⟨n, hn1, hn2, hn3, en⟩ : ∃ n : Nat, 1 ≤ n ∧ n ≤ 9 ∧ n ≤ r.length ∧ r.length % 9 = n := ⟨r.length % 9, by omega, by omega, by omega, rfl⟩
                  rw [en]
                all_goals
                  have hpl : (r.take n).length = n := by rw [List.length_take]; omega
                  have cp := fn_ParseUint (r.take n) (fun b hb => hrd b (List.mem_of_mem_take hb)) (by intro e; rw [e] at hpl; simp at hpl; omega) (by omega)
                  have hdn : dv (r.take n) < 10 ^ n := by have h9 := dv_lt (s := r.take n) fun b hb => hrd b (List.mem_of_mem_take hb); rwa [hpl] at h9
                  have h10n : (10 : Nat) ^ n ≤ 10 ^ 9 := Nat.pow_le_pow_right (by decide) hn2
                  have h109 : (10 : Nat) ^ 9 = 1000000000 := by decide
                  have hnew : dv (s.take (m + n)) = dv (s.take m) * 10 ^ n + dv (r.take n) := by
                    have h9 := dv_part (s := s) (lo := m) (hi := m + n) (by omega) (by omega)
                    rw [show m + n - m = n by omega, er] at h9
                    exact h9
                  have hnewd : s.drop (m + n) = r.drop n := by rw [← er, List.drop_drop]
                  have hblN := hbl m hm
                  obtain ⟨v, ev⟩ : ∃ v, dv (r.take n) = v := ⟨_, rfl⟩
                  rw [ev] at cp hdn hnew
                  obtain ⟨N, eN⟩ : ∃ v, dv (s.take m) = v := ⟨_, rfl⟩
                  rw [eN] at hnew hblN
                  rw [eN]
                  obtain ⟨T, eT⟩ : ∃ v, (10 : Nat) ^ n = v := ⟨_, rfl⟩
                  rw [eT] at hnew h10n hdn
                  have hblT : bl T ≤ 64 := bl_le (Nat.lt_of_le_of_lt h10n (by decide))
                  have hblv : bl v ≤ 64 := bl_le (Nat.lt_trans hdn (Nat.lt_of_le_of_lt h10n (by decide)))
                  have hblNT := bl_mul N T
                  have cT := fn_natOf T (by omega)
                  have cV := fn_natOf v (by omega)
                  have cM := fn_mul N T (by omega) (by omega)
                  have cA := fn_add (N * T) v (by omega) (by omega)
                  rw [← hnew] at cA
                  conv => whnf
                  refine ⟨⟨by omega, by omega, by rw [bsize]; omega⟩, ?_⟩
                  rw [bx, show (r.take ((n : Nat) : Int).toNat).drop (0 : Int).toNat = r.take n from rfl]
                  conv => whnf
                  refine VCall.of_data cp (ndT (fun k => rfl)) ?_
                  conv => whnf
                  refine VLoop.invX hty (S := Nat) (E := Unit) [] [] 4 (fun k => [(59, I k), (58, I n), (9, N64 (10 ^ k)), (7, N64 v), (6, I n), (4, nI N), (0, Str r)]) (fun _ => []) (fun k => k ≤ n) (fun k => n - k)
                    (fun _ => [(9, N64 T), (7, N64 v), (6, I n), (4, nI N), (0, Str r)]) (fun _ => []) (fun _ => True) 0 (Nat.zero_le _) ⟨rfl, rfl, rfl, rfl, rfl, rfl, rfl, trivial⟩ trivial ?_ ?_
                  · intro k hk
                    conv => whnf
                    refine Br.mk (fun h7 => ?_) (fun h7 => ?_)
                    · have h7 : k < n := by simp only [decide_eq_true_eq] at h7; omega
                      have h10 : (10 : Nat) ^ (k + 1) ≤ 10 ^ 9 := Nat.pow_le_pow_right (by decide) (by omega)
                      have ep : (10 : Nat) ^ (k + 1) = 10 ^ k * 10 := Nat.pow_succ ..
                      obtain ⟨x, ex⟩ : ∃ v, (10 : Nat) ^ k = v := ⟨_, rfl⟩
                      obtain ⟨y, ey⟩ : ∃ v, (10 : Nat) ^ (k + 1) = v := ⟨_, rfl⟩
                      rw [ex, ey] at ep
                      rw [ey] at h10
                      rw [ex]
                      conv => whnf
                      refine Wr.n64 (n := y) (by rw [ep]; exact (Int.natCast_mul _ _).symm) (by omega) ?_
                      conv => whnf
                      refine Wr.i64 (y := ((k + 1 : Nat) : Int)) rfl (by omega) (by omega) ?_
                      conv => whnf
                      exact ⟨k + 1, h7, by show n - (k + 1) < n - k; omega, ⟨rfl, rfl, by show AV.d (.s (.int .u64 (y : Int))) = N64 (10 ^ (k + 1)); rw [ey], rfl, rfl, rfl, rfl, trivial⟩, trivial⟩
                    · have h7 : k = n := by simp only [decide_eq_false_iff_not] at h7; omega
                      rw [h7, eT]
                      conv => whnf
                      exact ⟨rfl, (), trivial, ⟨rfl, rfl, rfl, rfl, rfl, trivial⟩, trivial⟩
                  · rintro _ _
                    conv => whnf
                    refine VDraw.goS hmo hty [0, 1, 4, 7, 8] rfl ?_
                    have hchk : 0 ≤ (n : Int) ∧ (n : Int) ≤ (((⟨r.toArray⟩ : ByteArray).size : Nat) : Int) ∧ (((⟨r.toArray⟩ : ByteArray).size : Nat) : Int) ≤ (((⟨r.toArray⟩ : ByteArray).size : Nat) : Int) := ⟨by omega, by rw [bsize]; omega, Int.le_refl _⟩
                    have hsl : (⟨r.toArray⟩ : ByteArray).extract ((n : Nat) : Int).toNat ((((⟨r.toArray⟩ : ByteArray).size : Nat) : Int)).toNat = ⟨(r.drop n).toArray⟩ := by
                      rw [bx, bsize]
                      show (⟨((r.take r.length).drop n).toArray⟩ : ByteArray) = _
                      rw [List.take_length]
                    conv => whnf
                    repeat' (first
                      | (refine VCall.of_data cT (nd _) ?_; conv => whnf)
                      | (refine VCall.of_data cM (nd _) ?_; conv => whnf)
                      | (refine VCall.of_data cV (nd _) ?_; conv => whnf)
                      | (refine VCall.of_data cA (nd _) ?_; conv => whnf)
                      | (refine ⟨hchk, ?_⟩; rw [hsl]; conv => whnf)
                      | exact ⟨m + n, by omega, by show s.length - (m + n) < s.length - m; omega, ⟨rfl, congrArg (fun x : List UInt8 => Str x) hnewd.symm, trivial⟩, trivial⟩
                      | (refine ⟨?_, ?_⟩ <;> conv => whnf))
              · have h5 : r = [] := by rw [bnil] at h5; simpa using h5
                have e : s.take m = s := List.take_of_length_le (by have h9 := hrl; rw [h5, List.length_nil] at h9; omega)
                rw [e]
                conv => whnf
                exact ⟨rfl, (), trivial, ⟨rfl, trivial⟩, trivial⟩
            · rintro _ _
              conv => whnf
              exact ⟨rfl, rfl, trivial, rfl⟩
      · have hlz : s.length = 1 ∨ s.head? ≠ some 48 := .inr (by
          rw [hhead]
          intro e
          have e1 : s.getD 0 0 = 48 := Option.some.inj e
          have h3' : ¬ (((s.getD 0 0).toNat : Nat) : Int) = 48 := by simp only [decide_eq_false_iff_not] at h3; exact h3
          rw [e1] at h3'
          exact h3' rfl)
        conv => whnf
        refine VLoop.invX hty (S := Nat) (E := Unit) [] [] 0 (fun i => [(30, I i), (29, I s.length), (4, .ls 27 0 0 1), (0, Str s)]) (fun _ => [(27, .row true 1 [])]) (fun i => i ≤ s.length ∧ ∀ k, k < i → IsD (s.getD k 0)) (fun i => s.length - i)
          (fun _ => [(4, .ls 27 0 0 1), (0, Str s)]) (fun _ => [(27, .row true 1 [])]) (fun _ => ∀ b, b ∈ s → IsD b) 0 ⟨Nat.zero_le _, fun k h => absurd h (Nat.not_lt_zero k)⟩ ⟨rfl, rfl, rfl, rfl, trivial⟩ ⟨rfl, trivial⟩ ?_ ?_
        · rintro i ⟨hi, hk⟩
          obtain ⟨b, eb⟩ : ∃ b, s.getD i 0 = b := ⟨_, rfl⟩
          conv => whnf
          refine Br.mk (fun h5 => ?_) (fun h5 => ?_)
          · have h5 : i < s.length := by simp only [decide_eq_true_eq] at h5; omega
            have hbm : b ∈ s := by rw [← eb, List.getD_eq_getElem?_getD, List.getElem?_eq_getElem h5]; exact List.getElem_mem h5
            conv => whnf
            refine ⟨⟨by omega, by rw [bsize]; omega⟩, ?_⟩
            rw [show (⟨s.toArray⟩ : ByteArray).data.toList.getD ((i : Nat) : Int).toNat 0 = b from eb]
            conv => whnf
            refine Br.mk (fun h6 => ?_) (fun h6 => ?_)
            · have h6 : b.toNat < 48 := by simp only [decide_eq_true_eq] at h6; omega
              have hno : ¬ okN s := fun hok => by have := (hok.dig b hbm).1; omega
              conv => whnf
              rw [if_neg hno, decide_eq_false hno]
              conv => whnf
              exact ⟨rfl, trivial, rfl⟩
            · have h6 : ¬ b.toNat < 48 := by simp only [decide_eq_false_iff_not] at h6; omega
              conv => whnf
              refine ⟨⟨by omega, by rw [bsize]; omega⟩, ?_⟩
              rw [show (⟨s.toArray⟩ : ByteArray).data.toList.getD ((i : Nat) : Int).toNat 0 = b from eb]
              conv => whnf
              refine Br.mk (fun h7 => ?_) (fun h7 => ?_)
              · have h7 : 57 < b.toNat := by simp only [decide_eq_true_eq] at h7; omega
                have hno : ¬ okN s := fun hok => by have := (hok.dig b hbm).2; omega
                conv => whnf
                rw [if_neg hno, decide_eq_false hno]
                conv => whnf
                exact ⟨rfl, trivial, rfl⟩
              · have h7 : ¬ 57 < b.toNat := by simp only [decide_eq_false_iff_not] at h7; omega
                conv => whnf
                refine Wr.i64 (y := ((i + 1 : Nat) : Int)) (by omega) (by omega) (by omega) ?_
                conv => whnf
                refine ⟨i + 1, ⟨h5, fun k hki => ?_⟩, by show s.length - (i + 1) < s.length - i; omega, ⟨rfl, rfl, rfl, rfl, trivial⟩, rfl, trivial⟩
                rcases Nat.lt_or_ge k i with h8 | h8
                · exact hk k h8
                · rw [show k = i by omega, eb]; exact ⟨by omega, by omega⟩
          · have h5 : i = s.length := by simp only [decide_eq_false_iff_not] at h5; omega
            conv => whnf
            refine ⟨rfl, (), fun b hb => ?_, ⟨rfl, rfl, trivial⟩, rfl, trivial⟩
            obtain ⟨k, hk1, hk2⟩ := List.mem_iff_getElem.1 hb
            have := hk k (by omega)
            rw [List.getD_eq_getElem?_getD, List.getElem?_eq_getElem hk1] at this
            simpa [hk2] using this
        · rintro _ hdig
          have hok : okN s := ⟨h, h2, hdig, hlz⟩
          have hbl : ∀ m, m ≤ s.length → bl (dv (s.take m)) ≤ 800 := fun m hm => by
            have h1 := dv_bl (s := s.take m) fun b hb => hdig b (List.mem_of_mem_take hb)
            rw [List.length_take] at h1; omega
          rw [if_pos hok, decide_eq_true hok]
          conv => whnf
          refine VLoop.frz (t' := [(4, nI (dv (s.take 0))), (0, Str (s.drop 0))]) 27 rfl ⟨rfl, .inr ⟨rfl, rfl, Nat.le_refl _, rfl⟩, rfl, .inl rfl, trivial⟩ ?_
          refine VLoop.invX hty (S := Nat) (E := Unit) [] [] 2 (fun m => [(4, nI (dv (s.take m))), (0, Str (s.drop m))]) (fun _ => []) (fun m => m ≤ s.length) (fun m => s.length - m)
            (fun _ => [(4, nI (dv s))]) (fun _ => []) (fun _ => True) 0 (Nat.zero_le _) ⟨rfl, rfl, trivial⟩ trivial ?_ ?_
          · intro m hm
            obtain ⟨r, er⟩ : ∃ r, s.drop m = r := ⟨_, rfl⟩
            have hrl : r.length = s.length - m := by rw [← er, List.length_drop]
            have hrd : ∀ b, b ∈ r → IsD b := fun b hb => hdig b (List.mem_of_mem_drop (by rw [er]; exact hb))
            rw [er]
            conv => whnf
            refine Br.mk (fun h5 => ?_) (fun h5 => ?_)
            · have h5 : r ≠ [] := by rw [bnil] at h5; simpa using h5
              have hL : 0 < r.length := List.length_pos_iff.2 h5
              have emod : Int.tmod (((⟨r.toArray⟩ : ByteArray).size : Nat) : Int) 9 = ((r.length % 9 : Nat) : Int) := by rw [bsize]; exact (Int.ofNat_tmod r.length 9).symm
              conv => whnf
              refine ⟨by decide, ?_⟩
              rw [emod]
              conv => whnf
              refine Br.mk (fun h6 => ?_) (fun h6 => ?_)
              case' refine_1 =>
                have h6 : r.length % 9 = 0 := by simp only [decide_eq_true_eq] at h6; omega
                obtain ⟨n, hn1, hn2, hn3, en⟩ : ∃ n : Nat, 1 ≤ n ∧ n ≤ 9 ∧ n ≤ r.length ∧ (9 : Int) = n := ⟨9, by decide, by decide, by omega, rfl⟩
                rw [en]
              case' refine_2 =>
                have h6 : ¬ r.length % 9 = 0 := by simp only [decide_eq_false_iff_not] at h6; omega
                obtain ⟨n, hn1, hn2, hn3, en⟩ : ∃ n : Nat, 1 ≤ n ∧ n ≤ 9 ∧ n ≤ r.length ∧ r.length % 9 = n := ⟨r.length % 9, by omega, by omega, by omega, rfl⟩
                rw [en]
              all_goals
                have hpl : (r.take n).length = n := by rw [List.length_take]; omega
                have cp := fn_ParseUint (r.take n) (fun b hb => hrd b (List.mem_of_mem_take hb)) (by intro e; rw [e] at hpl; simp at hpl; omega) (by omega)
                have hdn : dv (r.take n) < 10 ^ n := by have h9 := dv_lt (s := r.take n) fun b hb => hrd b (List.mem_of_mem_take hb); rwa [hpl] at h9
                have h10n : (10 : Nat) ^ n ≤ 10 ^ 9 := Nat.pow_le_pow_right (by decide) hn2
                have h109 : (10 : Nat) ^ 9 = 1000000000 := by decide
                have hnew : dv (s.take (m + n)) = dv (s.take m) * 10 ^ n + dv (r.take n) := by
                  have h9 := dv_part (s := s) (lo := m) (hi := m + n) (by omega) (by omega)
                  rw [show m + n - m = n by omega, er] at h9
                  exact h9
                have hnewd : s.drop (m + n) = r.drop n := by rw [← er, List.drop_drop]
                have hblN := hbl m hm
                obtain ⟨v, ev⟩ : ∃ v, dv (r.take n) = v := ⟨_, rfl⟩
                rw [ev] at cp hdn hnew
                obtain ⟨N, eN⟩ : ∃ v, dv (s.take m) = v := ⟨_, rfl⟩
                rw [eN] at hnew hblN
                rw [eN]
                obtain ⟨T, eT⟩ : ∃ v, (10 : Nat) ^ n = v := ⟨_, rfl⟩
                rw [eT] at hnew h10n hdn
                have hblT : bl T ≤ 64 := bl_le (Nat.lt_of_le_of_lt h10n (by decide))
                have hblv : bl v ≤ 64 := bl_le (Nat.lt_trans hdn (Nat.lt_of_le_of_lt h10n (by decide)))
                have hblNT := bl_mul N T
                have cT := fn_natOf T (by omega)
                have cV := fn_natOf v (by omega)
                have cM := fn_mul N T (by omega) (by omega)
                have cA := fn_add (N * T) v (by omega) (by omega)
                rw [← hnew] at cA
                conv => whnf
                refine ⟨⟨by omega, by omega, by rw [bsize]; omega⟩, ?_⟩
                rw [bx, show (r.take ((n : Nat) : Int).toNat).drop (0 : Int).toNat = r.take n from rfl]
                conv => whnf
                refine VCall.of_data cp (ndT (fun k => rfl)) ?_
                conv => whnf
                refine VLoop.invX hty (S := Nat) (E := Unit) [] [] 4 (fun k => [(59, I k), (58, I n), (9, N64 (10 ^ k)), (7, N64 v), (6, I n), (4, nI N), (0, Str r)]) (fun _ => []) (fun k => k ≤ n) (fun k => n - k)
                  (fun _ => [(9, N64 T), (7, N64 v), (6, I n), (4, nI N), (0, Str r)]) (fun _ => []) (fun _ => True) 0 (Nat.zero_le _) ⟨rfl, rfl, rfl, rfl, rfl, rfl, rfl, trivial⟩ trivial ?_ ?_
                · intro k hk
                  conv => whnf
                  refine Br.mk (fun h7 => ?_) (fun h7 => ?_)
                  · have h7 : k < n := by simp only [decide_eq_true_eq] at h7; omega
                    have h10 : (10 : Nat) ^ (k + 1) ≤ 10 ^ 9 := Nat.pow_le_pow_right (by decide) (by omega)
                    have ep : (10 : Nat) ^ (k + 1) = 10 ^ k * 10 := Nat.pow_succ ..
                    obtain ⟨x, ex⟩ : ∃ v, (10 : Nat) ^ k = v := ⟨_, rfl⟩
                    obtain ⟨y, ey⟩ : ∃ v, (10 : Nat) ^ (k + 1) = v := ⟨_, rfl⟩
                    rw [ex, ey] at ep
                    rw [ey] at h10
                    rw [ex]
                    conv => whnf
                    refine Wr.n64 (n := y) (by rw [ep]; exact (Int.natCast_mul _ _).symm) (by omega) ?_
                    conv => whnf
                    refine Wr.i64 (y := ((k + 1 : Nat) : Int)) rfl (by omega) (by omega) ?_
                    conv => whnf
                    exact ⟨k + 1, h7, by show n - (k + 1) < n - k; omega, ⟨rfl, rfl, by show AV.d (.s (.int .u64 (y : Int))) = N64 (10 ^ (k + 1)); rw [ey], rfl, rfl, rfl, rfl, trivial⟩, trivial⟩
                  · have h7 : k = n := by simp only [decide_eq_false_iff_not] at h7; omega
                    rw [h7, eT]
                    conv => whnf
                    exact ⟨rfl, (), trivial, ⟨rfl, rfl, rfl, rfl, rfl, trivial⟩, trivial⟩
                · rintro _ _
                  conv => whnf
                  refine VDraw.goS hmo hty [0, 1, 4, 7, 8] rfl ?_
                  have hchk : 0 ≤ (n : Int) ∧ (n : Int) ≤ (((⟨r.toArray⟩ : ByteArray).size : Nat) : Int) ∧ (((⟨r.toArray⟩ : ByteArray).size : Nat) : Int) ≤ (((⟨r.toArray⟩ : ByteArray).size : Nat) : Int) := ⟨by omega, by rw [bsize]; omega, Int.le_refl _⟩
                  have hsl : (⟨r.toArray⟩ : ByteArray).extract ((n : Nat) : Int).toNat ((((⟨r.toArray⟩ : ByteArray).size : Nat) : Int)).toNat = ⟨(r.drop n).toArray⟩ := by
                    rw [bx, bsize]
                    show (⟨((r.take r.length).drop n).toArray⟩ : ByteArray) = _
                    rw [List.take_length]
                  conv => whnf
                  repeat' (first
                    | (refine VCall.of_data cT (nd _) ?_; conv => whnf)
                    | (refine VCall.of_data cM (nd _) ?_; conv => whnf)
                    | (refine VCall.of_data cV (nd _) ?_; conv => whnf)
                    | (refine VCall.of_data cA (nd _) ?_; conv => whnf)
                    | (refine ⟨hchk, ?_⟩; rw [hsl]; conv => whnf)
                    | exact ⟨m + n, by omega, by show s.length - (m + n) < s.length - m; omega, ⟨rfl, congrArg (fun x : List UInt8 => Str x) hnewd.symm, trivial⟩, trivial⟩
                    | (refine ⟨?_, ?_⟩ <;> conv => whnf))
            · have h5 : r = [] := by rw [bnil] at h5; simpa using h5
              have e : s.take m = s := List.take_of_length_le (by have h9 := hrl; rw [h5, List.length_nil] at h9; omega)
              rw [e]
              conv => whnf
              exact ⟨rfl, (), trivial, ⟨rfl, trivial⟩, trivial⟩
          · rintro _ _
            conv => whnf
            exact ⟨rfl, rfl, trivial, rfl⟩

theorem okN.bl {s : List UInt8} (h : okN s) : bl (dv s) ≤ 800 := by
  have h1 := dv_bl h.dig
  have := h.2.1
  omega

/-- The fraction with a text. -/
def rdRat (s : List UInt8) : Option Rat :=
  if ¬ okN (Lib.trimPrefix (cutB 47 s).1 [45]) ∨ (Lib.hasPrefix (cutB 47 s).1 [45] = true ∧ dv (Lib.trimPrefix (cutB 47 s).1 [45]) = 0) then none
  else if (cutB 47 s).2.2 = false then some (mkRat (sgn (Lib.hasPrefix (cutB 47 s).1 [45]) (dv (Lib.trimPrefix (cutB 47 s).1 [45]))) 1)
  else if ¬ okN (cutB 47 s).2.1 ∨ dv (cutB 47 s).2.1 ≤ 1 ∨ (dv (Lib.trimPrefix (cutB 47 s).1 [45])).gcd (dv (cutB 47 s).2.1) ≠ 1 then none
  else some (mkRat (sgn (Lib.hasPrefix (cutB 47 s).1 [45]) (dv (Lib.trimPrefix (cutB 47 s).1 [45]))) (dv (cutB 47 s).2.1))

/-- A fraction or none, as data. -/
def rO : Option Rat → AV
  | some q => rI q
  | none => .ag [B false, nI 0, nI 0]

theorem cutB_len (c : UInt8) (s : List UInt8) : (cutB c s).1.length ≤ s.length ∧ (cutB c s).2.1.length ≤ s.length := by
  unfold cutB
  split
  · simp only [List.length_take, List.length_drop]; omega
  · simp

theorem trim_len (s p : List UInt8) : (Lib.trimPrefix s p).length ≤ s.length := by
  unfold Lib.trimPrefix
  split
  · rw [List.length_drop]; omega
  · exact Nat.le_refl _

theorem cmpZ_pos' {a b : Nat} : 0 < cmpZ a b ↔ b < a := by
  have h1 := cmpZ_neg (a := a) (b := b)
  have h2 := cmpZ_zero (a := a) (b := b)
  omega

theorem fn_readRat (s : List UInt8) (hs : s.length ≤ 1000000000000) : Fn Tryz.prog 73 [Str s] [] (.tup [rO (rdRat s), B (rdRat s).isSome]) [] := by
  have c1 := fn_Cut s 47 hs
  have hcl := cutB_len 47 s
  unfold rdRat
  obtain ⟨f, ef⟩ : ∃ x, (cutB 47 s).1 = x := ⟨_, rfl⟩
  obtain ⟨g, eg⟩ : ∃ x, (cutB 47 s).2.1 = x := ⟨_, rfl⟩
  obtain ⟨is, eis⟩ : ∃ x, (cutB 47 s).2.2 = x := ⟨_, rfl⟩
  rw [ef, eg, eis] at c1
  rw [ef, eg] at hcl
  rw [ef, eg, eis]
  have c2 := fn_CutPrefix f [45]
  have htl := trim_len f [45]
  obtain ⟨d, ed⟩ : ∃ x, Lib.trimPrefix f [45] = x := ⟨_, rfl⟩
  obtain ⟨neg, en⟩ : ∃ x, Lib.hasPrefix f [45] = x := ⟨_, rfl⟩
  rw [ed, en] at c2
  rw [ed] at htl
  rw [ed, en]
  have c3 := fn_readNat d (by omega)
  have c4 := fn_readNat g (by omega)
  refine Fn.intro (ks := [0,2,3,4,5,6,7,8,9,10,11,12,13,14,40,47,61,69]) hty rfl rfl rfl rfl rfl ?_
  by_cases hd : okN d
  · rw [if_pos hd, decide_eq_true hd] at c3
    conv => whnf
    refine VCall.of_data c1 (ndT (fun k => rfl)) ?_
    conv => whnf
    refine VCall.of_data c2 (ndT (fun k => rfl)) ?_
    conv => whnf
    refine VCall.of_data c3 (ndT (fun k => rfl)) ?_
    conv => whnf
    have hbd := hd.bl
    have hld : ((cW .u32 (dg B32 (dv d))).length : Int) = (dg B32 (dv d)).length := by rw [cW_len]
    have hzd := dg_len_zero b32 (n := dv d)
    have hnd : ¬ ¬ okN d := fun h => h hd
    cases neg
    · have hs0 : dv d = 0 → false = false := fun _ => rfl
      have hno : ¬ (¬ okN d ∨ false = true ∧ dv d = 0) := by rintro (h | ⟨h, _⟩); exact h hd; cases h
      rw [if_neg hno]
      conv => whnf
      refine VCall.of_data (fn_natOf 1 (by omega)) (nd _) ?_
      cases is
      · rw [if_pos rfl]
        obtain ⟨p1, p2, p3⟩ := parts_of (s := false) (t := dv d) (b := 1) (by decide) (Nat.gcd_one_right _) hs0
        rw [show rO (some (mkRat (sgn false (dv d)) 1)) = .ag [B false, nI (dv d), nI 1] by rw [rO, rI, p1, p2, p3]]
        conv => whnf
        exact ⟨rfl, rfl, rfl, rfl, trivial, rfl⟩
      · rw [if_neg (by decide)]
        conv => whnf
        by_cases hg : okN g
        · have hbg := hg.bl
          rw [if_pos hg, decide_eq_true hg] at c4
          refine VCall.of_data c4 (ndT (fun k => rfl)) ?_
          conv => whnf
          refine VCall.of_data (fn_natOf 1 (by omega)) (nd _) ?_
          conv => whnf
          refine VCall.of_data (fn_cmp (dv g) 1 (by omega) (by decide)) (nd _) ?_
          conv => whnf
          refine Br.mk (fun h7 => ?_) (fun h7 => ?_)
          · have h7 : dv g ≤ 1 := by
              simp only [decide_eq_true_eq] at h7
              have := cmpZ_pos' (a := dv g) (b := 1)
              omega
            rw [if_pos (.inr (.inl h7))]
            conv => whnf
            exact ⟨rfl, rfl, trivial, rfl⟩
          · have h7 : ¬ dv g ≤ 1 := by
              simp only [decide_eq_false_iff_not] at h7
              have := cmpZ_pos' (a := dv g) (b := 1)
              omega
            have cg := fn_gcd (dv d) (dv g) (by omega) (by omega)
            have hbgc : bl ((dv d).gcd (dv g)) ≤ 800 := Nat.le_trans (bl_mono (Nat.gcd_le_right _ (by omega))) hbg
            conv => whnf
            refine VCall.of_data cg (nd _) ?_
            conv => whnf
            refine VCall.of_data (fn_natOf 1 (by omega)) (nd _) ?_
            conv => whnf
            refine VCall.of_data (fn_cmp ((dv d).gcd (dv g)) 1 (by omega) (by decide)) (nd _) ?_
            conv => whnf
            refine Br.mk (fun h8 => ?_) (fun h8 => ?_)
            · have h8 : (dv d).gcd (dv g) ≠ 1 := fun e => by rw [cmpZ_zero.2 e] at h8; exact absurd h8 (by decide)
              rw [if_pos (.inr (.inr h8))]
              conv => whnf
              exact ⟨rfl, rfl, trivial, rfl⟩
            · have h8 : (dv d).gcd (dv g) = 1 := cmpZ_zero.1 (by simpa using h8)
              rw [if_neg (by rintro (h9 | h9 | h9); exact h9 hg; exact h7 h9; exact h9 h8)]
              obtain ⟨p1, p2, p3⟩ := parts_of (s := false) (t := dv d) (b := dv g) (by omega) h8 hs0
              rw [show rO (some (mkRat (sgn false (dv d)) (dv g))) = .ag [B false, nI (dv d), nI (dv g)] by rw [rO, rI, p1, p2, p3]]
              conv => whnf
              exact ⟨rfl, rfl, rfl, rfl, trivial, rfl⟩
        · rw [if_neg hg, decide_eq_false hg] at c4
          rw [if_pos (.inl hg)]
          refine VCall.of_data c4 (ndT (fun k => rfl)) ?_
          conv => whnf
          conv => whnf
          exact ⟨rfl, rfl, trivial, rfl⟩
    · conv => whnf
      refine Br.mk (fun h => ?_) (fun h => ?_)
      · have h0 : dv d = 0 := by simp only [decide_eq_true_eq] at h; exact hzd.1 (by omega)
        rw [if_pos (.inr ⟨rfl, h0⟩)]
        conv => whnf
        exact ⟨rfl, rfl, trivial, rfl⟩
      · have h0 : dv d ≠ 0 := fun e => by simp only [decide_eq_false_iff_not] at h; have := hzd.2 e; omega
        have hs0 : dv d = 0 → true = false := fun e => absurd e h0
        have hno : ¬ (¬ okN d ∨ true = true ∧ dv d = 0) := by rintro (h | ⟨_, h⟩); exact hnd h; exact h0 h
        rw [if_neg hno]
        conv => whnf
        refine VCall.of_data (fn_natOf 1 (by omega)) (nd _) ?_
        cases is
        · rw [if_pos rfl]
          obtain ⟨p1, p2, p3⟩ := parts_of (s := true) (t := dv d) (b := 1) (by decide) (Nat.gcd_one_right _) hs0
          rw [show rO (some (mkRat (sgn true (dv d)) 1)) = .ag [B true, nI (dv d), nI 1] by rw [rO, rI, p1, p2, p3]]
          conv => whnf
          exact ⟨rfl, rfl, rfl, rfl, trivial, rfl⟩
        · rw [if_neg (by decide)]
          conv => whnf
          by_cases hg : okN g
          · have hbg := hg.bl
            rw [if_pos hg, decide_eq_true hg] at c4
            refine VCall.of_data c4 (ndT (fun k => rfl)) ?_
            conv => whnf
            refine VCall.of_data (fn_natOf 1 (by omega)) (nd _) ?_
            conv => whnf
            refine VCall.of_data (fn_cmp (dv g) 1 (by omega) (by decide)) (nd _) ?_
            conv => whnf
            refine Br.mk (fun h7 => ?_) (fun h7 => ?_)
            · have h7 : dv g ≤ 1 := by
                simp only [decide_eq_true_eq] at h7
                have := cmpZ_pos' (a := dv g) (b := 1)
                omega
              rw [if_pos (.inr (.inl h7))]
              conv => whnf
              exact ⟨rfl, rfl, trivial, rfl⟩
            · have h7 : ¬ dv g ≤ 1 := by
                simp only [decide_eq_false_iff_not] at h7
                have := cmpZ_pos' (a := dv g) (b := 1)
                omega
              have cg := fn_gcd (dv d) (dv g) (by omega) (by omega)
              have hbgc : bl ((dv d).gcd (dv g)) ≤ 800 := Nat.le_trans (bl_mono (Nat.gcd_le_right _ (by omega))) hbg
              conv => whnf
              refine VCall.of_data cg (nd _) ?_
              conv => whnf
              refine VCall.of_data (fn_natOf 1 (by omega)) (nd _) ?_
              conv => whnf
              refine VCall.of_data (fn_cmp ((dv d).gcd (dv g)) 1 (by omega) (by decide)) (nd _) ?_
              conv => whnf
              refine Br.mk (fun h8 => ?_) (fun h8 => ?_)
              · have h8 : (dv d).gcd (dv g) ≠ 1 := fun e => by rw [cmpZ_zero.2 e] at h8; exact absurd h8 (by decide)
                rw [if_pos (.inr (.inr h8))]
                conv => whnf
                exact ⟨rfl, rfl, trivial, rfl⟩
              · have h8 : (dv d).gcd (dv g) = 1 := cmpZ_zero.1 (by simpa using h8)
                rw [if_neg (by rintro (h9 | h9 | h9); exact h9 hg; exact h7 h9; exact h9 h8)]
                obtain ⟨p1, p2, p3⟩ := parts_of (s := true) (t := dv d) (b := dv g) (by omega) h8 hs0
                rw [show rO (some (mkRat (sgn true (dv d)) (dv g))) = .ag [B true, nI (dv d), nI (dv g)] by rw [rO, rI, p1, p2, p3]]
                conv => whnf
                exact ⟨rfl, rfl, rfl, rfl, trivial, rfl⟩
          · rw [if_neg hg, decide_eq_false hg] at c4
            rw [if_pos (.inl hg)]
            refine VCall.of_data c4 (ndT (fun k => rfl)) ?_
            conv => whnf
            conv => whnf
            exact ⟨rfl, rfl, trivial, rfl⟩
  · rw [if_neg hd, decide_eq_false hd] at c3
    rw [if_pos (.inl hd)]
    conv => whnf
    refine VCall.of_data c1 (ndT (fun k => rfl)) ?_
    conv => whnf
    refine VCall.of_data c2 (ndT (fun k => rfl)) ?_
    conv => whnf
    refine VCall.of_data c3 (ndT (fun k => rfl)) ?_
    conv => whnf
    exact ⟨rfl, rfl, trivial, rfl⟩

end Go.V
/- Lists of fractions or none. -/
namespace Go.V

/-- All or none. -/
def allO {α β : Type} (f : α → Option β) : List α → Option (List β)
  | [] => some []
  | x :: r => match f x, allO f r with
    | some y, some ys => some (y :: ys)
    | _, _ => none

theorem allO_none {α β : Type} {f : α → Option β} : ∀ {xs : List α} {x : α}, x ∈ xs → f x = none → allO f xs = none
  | y :: r, x, hx, h => by
    unfold allO
    rcases List.mem_cons.1 hx with rfl | hx
    · rw [h]
    · rw [allO_none hx h]; cases f y <;> rfl

theorem allO_snoc {α β : Type} {f : α → Option β} : ∀ {xs : List α} {ys : List β} {x : α} {y : β}, allO f xs = some ys → f x = some y → allO f (xs ++ [x]) = some (ys ++ [y])
  | [], ys, x, y, h, hx => by
    have : ys = [] := by simpa [allO] using h.symm
    subst this
    simp [allO, hx]
  | z :: r, ys, x, y, h, hx => by
    unfold allO at h
    split at h
    · rename_i w ws hw hws
      cases h
      simp only [List.cons_append, allO, hw, allO_snoc hws hx]
    · cases h

theorem allO_len {α β : Type} {f : α → Option β} : ∀ {xs : List α} {ys : List β}, allO f xs = some ys → ys.length = xs.length
  | [], ys, h => by
    have : ys = [] := by simpa [allO] using h.symm
    subst this; rfl
  | z :: r, ys, h => by
    unfold allO at h
    split at h
    · rename_i w ws hw hws
      cases h
      simp [allO_len hws]
    · cases h

theorem allO_mem {α β : Type} {f : α → Option β} : ∀ {xs : List α} {ys : List β} {y : β}, allO f xs = some ys → y ∈ ys → ∃ x, x ∈ xs ∧ f x = some y
  | [], ys, y, h, hy => by
    have : ys = [] := by simpa [allO] using h.symm
    subst this; simp at hy
  | z :: r, ys, y, h, hy => by
    unfold allO at h
    split at h
    · rename_i w ws hw hws
      cases h
      rcases List.mem_cons.1 hy with rfl | hy
      · exact ⟨z, by simp, hw⟩
      · obtain ⟨x, h1, h2⟩ := allO_mem hws hy
        exact ⟨x, by simp [h1], h2⟩
    · cases h

end Go.V
/- The program reads lists of fractions, and looks through them. -/
namespace Go.V
open Go.Proofs Go.RowKit
set_option maxRecDepth 10000
set_option maxHeartbeats 1000000

theorem fn_in (n a b : Int) : Fn Tryz.prog 74 [I n, I a, I b] [] (B (decide (a ≤ n) && decide (n ≤ b))) [] := by
  refine Fn.intro (ks := [0,1,2,6]) hty rfl rfl rfl rfl rfl ?_
  conv => whnf
  refine Br.mk (fun h => ?_) (fun h => ?_)
  · rw [h]
    conv => whnf
    exact ⟨rfl, trivial, rfl⟩
  · rw [h]
    conv => whnf
    exact ⟨rfl, trivial, rfl⟩

theorem fn_indexQ (g : Nat) (p : Rat → Bool) (xs : List Rat) (hl : xs.length ≤ 1000000) (hg : ∀ x, x ∈ xs → Fn Tryz.prog g [rI x] [] (B (p x)) []) :
    Fn Tryz.prog 146 [lQ xs, .d (.fn g [])] [] (I (if xs.any p then xs.findIdx p else -1)) [] := by
  have hl2 : ((cQ xs).length : Int) = xs.length := by rw [cQ_len]
  refine Fn.intro (ks := [0,1,4,5,7,8,9,16]) hty rfl rfl rfl rfl rfl ?_
  conv => whnf
  refine VLoop.inv hty (S := Nat) (fun k => [(8, I k), (7, I xs.length), (0, lQ xs), (1, .d (.fn g []))]) (fun _ => []) (fun k => k ≤ xs.length ∧ ∀ j (h : j < xs.length), j < k → p xs[j] = false) (fun k => xs.length - k) 0 ⟨Nat.zero_le _, fun j _ h => by omega⟩ ⟨rfl, by show AV.d (.s (.int .i64 ((cQ xs).length : Int))) = _; rw [cQ_len], rfl, rfl, trivial⟩ trivial ?_
  rintro k ⟨hk, hp⟩
  conv => whnf
  refine Br.mk (fun h => ?_) (fun h => ?_)
  · have hk' : k < xs.length := by simp only [decide_eq_true_eq] at h; omega
    conv => whnf
    refine ⟨⟨⟨by omega, by omega⟩, cQ_sz xs⟩, ?_⟩
    conv => whnf
    refine ⟨_, cQ_get hk', ?_⟩
    conv => whnf
    refine VCall.of_data (hg xs[k] (by simp)) (fun j h => by cases h) ?_
    conv => whnf
    refine Br.mk (fun h2 => ?_) (fun h2 => ?_)
    · conv => whnf
      refine ⟨?_, trivial, rfl⟩
      have h3 : xs.any p = true := List.any_eq_true.2 ⟨xs[k], by simp, h2⟩
      have h4 : xs.findIdx p = k := (List.findIdx_eq hk').2 ⟨h2, fun j hj => hp j (by omega) hj⟩
      simp [h3, h4]
    · conv => whnf
      refine Wr.i64 (y := ((k + 1 : Nat) : Int)) rfl (by omega) (by omega) ?_
      conv => whnf
      exact ⟨k + 1, ⟨hk', fun j hj hjk => by
        rcases Nat.lt_or_ge j k with h5 | h5
        · exact hp j hj h5
        · have : j = k := by omega
          subst this; exact h2⟩, by show xs.length - (k + 1) < xs.length - k; omega, ⟨rfl, rfl, rfl, rfl, trivial⟩, trivial⟩
  · have hk' : k = xs.length := by simp only [decide_eq_false_iff_not] at h; omega
    conv => whnf
    refine ⟨?_, trivial, rfl⟩
    have h3 : xs.any p = false := List.any_eq_false.2 fun x hx => by
      obtain ⟨j, hj, rfl⟩ := List.mem_iff_getElem.1 hx
      simp [hp j hj (by omega)]
    simp [h3]

theorem fn_containsQ (g : Nat) (p : Rat → Bool) (xs : List Rat) (hl : xs.length ≤ 1000000) (hg : ∀ x, x ∈ xs → Fn Tryz.prog g [rI x] [] (B (p x)) []) :
    Fn Tryz.prog 75 [lQ xs, .d (.fn g [])] [] (B (xs.any p)) [] := by
  refine Fn.intro (ks := [0,1,4]) hty rfl rfl rfl rfl rfl ?_
  conv => whnf
  refine VCall.of_data (fn_indexQ g p xs hl hg) (fun j h => by cases h) ?_
  conv => whnf
  refine ⟨?_, trivial, rfl⟩
  cases xs.any p <;> simp

/-- Texts as cells. -/
def cT (xs : List (List UInt8)) : List (List C) := xs.map fun s => [.s (.string ⟨s.toArray⟩)]
theorem cT_len (xs : List (List UInt8)) : (cT xs).length = xs.length := by simp [cT]
theorem cT_sz (xs : List (List UInt8)) : ∀ r, r ∈ cT xs → r.length = 1 := by
  intro r hr; simp only [cT, List.mem_map] at hr; obtain ⟨n, _, rfl⟩ := hr; rfl
theorem cT_as {xs : List (List UInt8)} {i : Nat} {x : List UInt8} (h : i < xs.length) (e : xs.getD i [] = x) : (cT xs)[i]? = some [.s (.string ⟨x.toArray⟩)] := by
  subst e; rw [List.getD_eq_getElem?_getD, List.getElem?_eq_getElem h]; simp [cT, h]
theorem cT_append (xs ys : List (List UInt8)) : cT xs ++ cT ys = cT (xs ++ ys) := by simp [cT]
abbrev lT (xs : List (List UInt8)) : AV := .d (.sl (cT xs))

theorem rdRat_sz {s : List UInt8} {q : Rat} (h : rdRat s = some q) : sz q ≤ 800 := by
  unfold rdRat at h
  split at h
  · cases h
  · rename_i h1
    simp only [not_or, Classical.not_not] at h1
    have b1 := h1.1.bl
    split at h
    · cases h
      exact Nat.le_trans (sz_mkRat (by decide)) (by have := bl_one; omega)
    · split at h
      · cases h
      · rename_i h2
        simp only [not_or, Classical.not_not] at h2
        have b2 := h2.1.bl
        cases h
        exact Nat.le_trans (sz_mkRat (by omega)) (by omega)

/-- The fractions with texts, if there are not too many. -/
def rdRats (xs : List (List UInt8)) : Option (List Rat) := if 300 < xs.length then none else allO rdRat xs

theorem rdRats_sz {xs : List (List UInt8)} {ys : List Rat} (h : rdRats xs = some ys) : ys.length ≤ 300 ∧ ys.length = xs.length ∧ ∀ q, q ∈ ys → sz q ≤ 800 := by
  unfold rdRats at h
  split at h
  · cases h
  · have := allO_len h
    exact ⟨by omega, this, fun q hq => by obtain ⟨x, _, hx⟩ := allO_mem h hq; exact rdRat_sz hx⟩

theorem fn_rats (xs : List (List UInt8)) (hl : xs.length ≤ 1000000000000) (hs : ∀ x, x ∈ xs → x.length ≤ 1000000000000) : Fn Tryz.prog 72 [lT xs] [] (.tup [lQ ((rdRats xs).getD []), B (rdRats xs).isSome]) [] := by
  have hl2 : ((cT xs).length : Int) = xs.length := by rw [cT_len]
  refine Fn.intro (ks := [0,2,3,4,6,7,8,11,13,14,15,16,25]) hty rfl rfl rfl rfl rfl ?_
  conv => whnf
  refine Br.mk (fun h => ?_) (fun h => ?_)
  · have h : 300 < xs.length := by simp only [decide_eq_true_eq] at h; omega
    rw [rdRats, if_pos h]
    conv => whnf
    exact ⟨rfl, trivial, rfl⟩
  · have h : ¬ 300 < xs.length := by simp only [decide_eq_false_iff_not] at h; omega
    rw [rdRats, if_neg h]
    conv => whnf
    refine VLoop.ren 12 29 rfl ?_
    refine VLoop.inv hty (S := List Rat) (fun s => [(15, I s.length), (14, I xs.length), (13, lT xs), (4, .ls 29 0 s.length 3)]) (fun s => [(29, .row true 3 (cQ s))]) (fun s => s.length ≤ xs.length ∧ allO rdRat (xs.take s.length) = some s) (fun s => xs.length - s.length) [] ⟨Nat.zero_le _, rfl⟩
      ⟨rfl, by show AV.d (.s (.int .i64 ((cT xs).length : Int))) = _; rw [cT_len], rfl, rfl, trivial⟩ ⟨rfl, trivial⟩ ?_
    rintro s ⟨hi, hq⟩
    obtain ⟨i, ei⟩ : ∃ i, s.length = i := ⟨_, rfl⟩
    rw [ei] at hi hq
    rw [ei]
    conv => whnf
    refine Br.mk (fun h2 => ?_) (fun h2 => ?_)
    · have h2 : i < xs.length := by simp only [decide_eq_true_eq] at h2; omega
      obtain ⟨x, ex⟩ : ∃ x, xs.getD i [] = x := ⟨_, rfl⟩
      have hxm : x ∈ xs := by rw [← ex, List.getD_eq_getElem?_getD, List.getElem?_eq_getElem h2]; exact List.getElem_mem h2
      have et : xs.take (i + 1) = xs.take i ++ [x] := by rw [List.take_succ_eq_append_getElem h2]; subst ex; rw [List.getD_eq_getElem?_getD, List.getElem?_eq_getElem h2]; rfl
      have cr := fn_readRat x (hs x hxm)
      conv => whnf
      refine ⟨⟨⟨by omega, by omega⟩, cT_sz _⟩, ?_⟩
      conv => whnf
      refine ⟨_, cT_as (x := x) h2 ex, ?_⟩
      cases hr : rdRat x with
      | none =>
        rw [hr] at cr
        rw [allO_none hxm hr]
        conv => whnf
        refine VCall.of_data cr (ndT (fun k => rfl)) ?_
        conv => whnf
        exact ⟨rfl, trivial, rfl⟩
      | some q =>
        rw [hr] at cr
        conv => whnf
        refine VCall.of_data cr (ndT (fun k => rfl)) ?_
        conv => whnf
        refine Sub.full rfl ?_
        conv => whnf
        refine Sub.full (by rw [cQ_len]; exact ei) ?_
        conv => whnf
        refine ⟨by show (i + 1) * 56 ≤ _; omega, ?_⟩
        conv => whnf
        refine Wr.i64 (y := ((i + 1 : Nat) : Int)) rfl (by omega) (by omega) ?_
        conv => whnf
        refine ⟨s ++ [q], ⟨by rw [List.length_append, List.length_singleton]; omega, ?_⟩, by show xs.length - (s ++ [q]).length < xs.length - i; rw [List.length_append, List.length_singleton]; omega, ⟨?_, rfl, rfl, ?_, trivial⟩, ?_, trivial⟩
        · rw [List.length_append, List.length_singleton, ei, et]
          exact allO_snoc hq hr
        · show AV.d (.s (.int .i64 ((i + 1 : Nat) : Int))) = I ((s ++ [q]).length : Nat)
          rw [List.length_append, List.length_singleton, ei]
        · show AV.ls 29 0 (i + 1) 3 = AV.ls 29 0 (s ++ [q]).length 3
          rw [List.length_append, List.length_singleton, ei]
        · show Ob.row true 3 (cQ s ++ cQ [q]) = _
          rw [cQ_append]
    · have h2 : i = xs.length := by simp only [decide_eq_false_iff_not] at h2; omega
      rw [h2, List.take_length] at hq
      rw [hq]
      conv => whnf
      refine ⟨⟨rfl, by rw [cQ_len]; omega, ?_⟩, rfl, trivial, rfl⟩
      rw [List.drop_zero, List.take_of_length_le (by rw [cQ_len]; omega)]; rfl

/-- The chance of a loss, server by server. -/
def lossQ (load : Rat) : Nat → Rat
  | 0 => 1
  | n + 1 => load * lossQ load n / (load * lossQ load n + ((n + 1 : Nat) : Int))

def lossL (load : Rat) (n : Nat) : List Rat := (List.range n).map (lossQ load)

theorem lossL_len (load : Rat) (n : Nat) : (lossL load n).length = n := by simp [lossL]
theorem lossL_succ (load : Rat) (n : Nat) : lossL load (n + 1) = lossL load n ++ [lossQ load n] := by simp [lossL, List.range_succ]
theorem lossL_get (load : Rat) {n k : Nat} (h : k < n) : (lossL load n).getD k 0 = lossQ load k := by
  simp [lossL, List.getD_eq_getElem?_getD, h]

theorem q_div_pos {a b : Rat} (ha : 0 < a) (hb : 0 < b) : 0 < a / b := by
  rw [Rat.div_def]; exact Rat.mul_pos ha (Rat.inv_pos.2 hb)

theorem q_cast_pos {n : Nat} (h : 0 < n) : (0 : Rat) < ((n : Int) : Rat) := by
  have : (0 : Int) < (n : Int) := by omega
  exact_mod_cast this

theorem lossQ_pos {load : Rat} (h : 0 < load) : ∀ n, 0 < lossQ load n
  | 0 => by show (0 : Rat) < 1; decide
  | n + 1 => by
    have h1 := Rat.mul_pos h (lossQ_pos h n)
    have h2 := q_cast_pos (n := n + 1) (by omega)
    show 0 < load * lossQ load n / (load * lossQ load n + ((n + 1 : Nat) : Int))
    refine q_div_pos h1 ?_
    grind

theorem lossQ_den {load : Rat} (h : 0 < load) (n : Nat) : load * lossQ load n + ((n + 1 : Nat) : Int) ≠ 0 := by
  have h1 := Rat.mul_pos h (lossQ_pos h n)
  have h2 := q_cast_pos (n := n + 1) (by omega)
  intro e
  have : 0 < load * lossQ load n + (((n + 1 : Nat) : Int) : Rat) := by grind
  rw [e] at this
  exact Rat.lt_irrefl this

theorem sz_nat {n : Nat} (h : n < 1000000) : sz ((n : Int) : Rat) ≤ 20 := sz_small (by simp; omega) (by decide)

theorem lossQ_sz {load : Rat} (h : 0 < load) : ∀ n, n < 1000000 → sz (lossQ load n) + (2 * sz load + 21) ≤ 2 ^ n * (2 * sz load + 22)
  | 0, _ => by show sz (1 : Rat) + _ ≤ _; rw [sz_one]; omega
  | n + 1, hn => by
    have ih := lossQ_sz h n (by omega)
    have h1 := sz_mul load (lossQ load n)
    have h2 := sz_add (load * lossQ load n) ((n + 1 : Nat) : Int)
    have h3 := sz_nat hn
    have h4 := sz_div (load * lossQ load n) (lossQ_den h n)
    have h5 : sz (lossQ load (n + 1)) = sz (load * lossQ load n / (load * lossQ load n + ((n + 1 : Nat) : Int))) := rfl
    rw [h5, Nat.pow_succ]
    have h6 : 2 ^ n * 2 * (2 * sz load + 22) = 2 * (2 ^ n * (2 * sz load + 22)) := by grind
    rw [h6]
    omega

theorem lossQ_big {load : Rat} (h : 0 < load) (hm : sz load ≤ 1000) {n : Nat} (hn : n ≤ 20) : sz (lossQ load n) ≤ 4000000000 := by
  have h1 := lossQ_sz h n (by omega)
  have h2 : 2 ^ n ≤ 2 ^ 20 := Nat.pow_le_pow_right (by decide) hn
  have h3 : 2 ^ n * (2 * sz load + 22) ≤ 2 ^ 20 * (2 * 1000 + 22) := Nat.mul_le_mul h2 (by omega)
  have h4 : 2 ^ 20 * (2 * 1000 + 22) ≤ 4000000000 := by decide
  omega

theorem fn_losses (load : Rat) (most : Nat) (h : 0 < load) (hm : sz load ≤ 1000) (hn : most ≤ 20) : Fn Tryz.prog 123 [rI load, I most] [] (lQ (lossL load (most + 1))) [] := by
  have c1 := fn_whole 1 (by decide) (by decide)
  refine Fn.intro (ks := [0,1,2,4,5,6,7,12]) hty rfl rfl rfl rfl rfl ?_
  conv => whnf
  refine VCall.of_data c1 (ndA fun k => rfl) ?_
  conv => whnf
  refine VLoop.ren 9 30 rfl ?_
  refine VLoop.inv hty (S := Nat) (fun n => [(6, I (n : Nat)), (5, .ls 30 0 n 3), (2, .lp 2 0), (1, I (most : Nat))]) (fun n => [(30, .row true 3 (cQ (lossL load n))), (2, .box true [B (ng load), nI (tp load), nI load.den])]) (fun n => 1 ≤ n ∧ n ≤ most + 1) (fun n => most + 1 - n) 1 ⟨Nat.le_refl _, by omega⟩
    ⟨rfl, rfl, rfl, rfl, trivial⟩ ⟨rfl, rfl, trivial⟩ ?_
  rintro n ⟨hn1, hn2⟩
  obtain ⟨k, rfl⟩ : ∃ k, n = k + 1 := ⟨n - 1, by omega⟩
  have hll := lossL_len load (k + 1)
  conv => whnf
  refine Br.mk (fun h2 => ?_) (fun h2 => ?_)
  · have h2 : k + 1 ≤ most := by simp only [decide_eq_true_eq] at h2; omega
    have hg := lossL_get load (n := k + 1) (k := k) (by omega)
    have hz := lossQ_big h hm (n := k) (by omega)
    have hden := lossQ_den h k
    have hlc := lossL_succ load (k + 1)
    have enext : lossQ load (k + 1) = load * lossQ load k / (load * lossQ load k + ((k + 1 : Nat) : Int)) := rfl
    obtain ⟨l, el⟩ : ∃ l, lossQ load k = l := ⟨_, rfl⟩
    rw [el] at hg hz hden enext
    have cm := fn_rmul load l (by omega) (by omega)
    have hzm := sz_mul load l
    obtain ⟨x, ex⟩ : ∃ x, load * l = x := ⟨_, rfl⟩
    rw [ex] at cm hzm hden enext
    have cw := fn_whole ((k + 1 : Nat) : Int) (by omega) (by omega)
    have hzw := sz_nat (n := k + 1) (by omega)
    have ca := fn_radd x (((k + 1 : Nat) : Int) : Rat) (by omega)
    have hza := sz_add x (((k + 1 : Nat) : Int) : Rat)
    obtain ⟨y, ey⟩ : ∃ y, x + (((k + 1 : Nat) : Int) : Rat) = y := ⟨_, rfl⟩
    rw [ey] at ca hza hden enext
    have co := fn_rover x y (by omega) (by omega) hden
    rw [← enext] at co
    conv => whnf
    refine VDraw.go hmo hty 8 [[7], [7], [7], [7], [7], [7], [7], []] rfl ?_
    conv => whnf
    refine Wr.i64 (y := ((k : Nat) : Int)) (by omega) (by omega) (by omega) ?_
    conv => whnf
    refine ⟨by omega, ?_⟩
    conv => whnf
    refine ⟨_, cQ_as (x := l) (by omega) hg, ?_⟩
    conv => whnf
    refine QCall.of_data cm (ndA fun k => rfl) ?_
    conv => whnf
    refine VDraw.go hmo hty 8 [[29], [29], [29], [29], [29], [29], [29], []] rfl ?_
    conv => whnf
    refine QCall.of_data cw (ndA fun k => rfl) ?_
    conv => whnf
    refine QCall.of_data ca (ndA fun k => rfl) ?_
    conv => whnf
    refine QCall.of_data co (ndA fun k => rfl) ?_
    conv => whnf
    refine Sub.full rfl ?_
    conv => whnf
    refine Sub.full (by rw [cQ_len, hll]) ?_
    conv => whnf
    refine ⟨by show (k + 1 + 1) * 56 ≤ _; omega, ?_⟩
    conv => whnf
    refine Wr.i64 (y := ((k + 1 + 1 : Nat) : Int)) rfl (by omega) (by omega) ?_
    conv => whnf
    refine ⟨k + 1 + 1, ⟨by omega, by omega⟩, by omega, ⟨rfl, rfl, rfl, rfl, trivial⟩, ?_, rfl, trivial⟩
    show Ob.row true 3 (cQ _ ++ cQ [lossQ load (k + 1)]) = _
    rw [cQ_append, hlc]
  · have h2 : k = most := by simp only [decide_eq_false_iff_not] at h2; omega
    subst h2
    conv => whnf
    refine ⟨⟨rfl, by rw [cQ_len]; omega, ?_⟩, trivial, rfl⟩
    rw [List.drop_zero, List.take_of_length_le (by rw [cQ_len]; omega)]

end Go.V
/- The program: the least servers, for a list of loads. -/
namespace Go.V
open Go.Proofs Go.RowKit
set_option maxRecDepth 10000
set_option maxHeartbeats 1000000

theorem rcI_le {p q : Rat} : rcI p q ≤ 0 ↔ p ≤ q := by
  have h1 := rcI_neg (p := p) (q := q)
  have h2 := rcI_zero (p := p) (q := q)
  constructor
  · intro h
    rcases Int.lt_or_eq_of_le h with h3 | h3
    · exact Rat.le_of_lt (h1.1 h3)
    · rw [h2.1 h3]; exact Rat.le_refl
  · intro h
    rcases Int.lt_or_le 0 (rcI p q) with h3 | h3
    · exfalso
      have h4 : ¬ p < q := fun e => by have := h1.2 e; omega
      have h5 : ¬ p = q := fun e => by have := h2.2 e; omega
      exact h5 (Rat.le_antisymm h (Rat.not_lt.1 h4))
    · exact h3

/-- The least number of servers for which no more is lost. -/
def leastQ (load most : Rat) : Option Nat := (List.range 21).find? fun n => decide (lossQ load n ≤ most)

theorem leastQ_some {load most : Rat} {i : Nat} (hi : i < 21) (h : lossQ load i ≤ most) (hk : ∀ k, k < i → ¬ lossQ load k ≤ most) : leastQ load most = some i := by
  unfold leastQ
  rw [List.find?_range_eq_some]
  exact ⟨by simpa using h, by simpa using hi, fun j hj => by simpa using hk j hj⟩

theorem leastQ_none {load most : Rat} (hk : ∀ k, k < 21 → ¬ lossQ load k ≤ most) : leastQ load most = none := by
  unfold leastQ
  rw [List.find?_eq_none]
  intro x hx
  simpa using hk x (by simpa using hx)

theorem fn_leastServers (load most : Rat) (h : 0 < load) (hm : sz load ≤ 1000) (hm2 : sz most ≤ 1000) : Fn Tryz.prog 78 [rI load, rI most] [] (.tup [I ((leastQ load most).getD 0 : Nat), B (leastQ load most).isSome]) [] := by
  have cl := fn_losses load 20 h hm (by omega)
  have hll := lossL_len load 21
  have hlc : ((cQ (lossL load 21)).length : Int) = 21 := by rw [cQ_len, hll]; rfl
  refine Fn.intro (ks := [0,1,2,3,4,5,6,7,9,10,11,12,19]) hty rfl rfl rfl rfl rfl ?_
  conv => whnf
  refine VCall.of_data cl (nd _) ?_
  conv => whnf
  refine VLoop.inv hty (S := Nat) (fun i => [(11, I (i : Nat)), (10, I 21), (9, lQ (lossL load 21)), (3, .lp 3 0)]) (fun _ => [(3, .box true [B (ng most), nI (tp most), nI most.den])]) (fun i => i ≤ 21 ∧ ∀ k, k < i → ¬ lossQ load k ≤ most) (fun i => 21 - i) 0 ⟨by omega, fun k h => absurd h (Nat.not_lt_zero k)⟩
    ⟨rfl, by show AV.d (.s (.int .i64 ((cQ (lossL load 21)).length : Int))) = _; rw [hlc], rfl, rfl, trivial⟩ ⟨rfl, trivial⟩ ?_
  rintro i ⟨hi, hk⟩
  conv => whnf
  refine Br.mk (fun h2 => ?_) (fun h2 => ?_)
  · have h2 : i < 21 := by simp only [decide_eq_true_eq] at h2; omega
    have hg := lossL_get load (n := 21) (k := i) h2
    have hz := lossQ_big h hm (n := i) (by omega)
    have cc := fn_rcmp (lossQ load i) most (by omega) (by omega)
    have hcl := rcI_le (p := lossQ load i) (q := most)
    obtain ⟨l, el⟩ : ∃ l, lossQ load i = l := ⟨_, rfl⟩
    rw [el] at hg cc hcl
    conv => whnf
    refine ⟨⟨⟨by omega, by omega⟩, cQ_sz _⟩, ?_⟩
    conv => whnf
    refine ⟨_, cQ_as (x := l) (by omega) hg, ?_⟩
    conv => whnf
    refine VCall.of_data cc (nd _) ?_
    conv => whnf
    refine Br.mk (fun h3 => ?_) (fun h3 => ?_)
    · have h3 : rcI l most ≤ 0 := by simpa only [decide_eq_true_eq] using h3
      rw [leastQ_some h2 (by rw [el]; exact hcl.1 h3) hk]
      conv => whnf
      first | exact ⟨rfl, trivial, rfl⟩ | exact ⟨rfl, rfl, trivial, rfl⟩
    · have h3 : ¬ rcI l most ≤ 0 := by simpa only [decide_eq_false_iff_not] using h3
      conv => whnf
      refine Wr.i64 (y := ((i + 1 : Nat) : Int)) rfl (by omega) (by omega) ?_
      conv => whnf
      refine ⟨i + 1, ⟨h2, fun k hki => ?_⟩, by show 21 - (i + 1) < 21 - i; omega, ⟨rfl, rfl, rfl, rfl, trivial⟩, rfl, trivial⟩
      rcases Nat.lt_or_ge k i with h4 | h4
      · exact hk k h4
      · rw [show k = i by omega, el]; exact fun e => h3 (hcl.2 e)
  · have h2 : i = 21 := by simp only [decide_eq_false_iff_not] at h2; omega
    subst h2
    rw [leastQ_none hk]
    conv => whnf
    first | exact ⟨rfl, trivial, rfl⟩ | exact ⟨rfl, rfl, trivial, rfl⟩

/-- The servers for a load. -/
def srvQ (most load : Rat) : Option Nat := if load ≤ 0 then some 0 else leastQ load most

theorem sgI_pos {q : Rat} : 0 < sgI q ↔ 0 < q := by
  have h1 := sgI_zero (q := q)
  have h2 : sgI q < 0 ↔ q < 0 := by
    rw [lt_cross]
    unfold sgI sgn
    have hz := ng_zero (q := q)
    have e0 : tp (0 : Rat) = 0 := rfl
    have e1 : ng (0 : Rat) = false := rfl
    have e2 : (0 : Rat).den = 1 := rfl
    rw [e0, e1, e2]
    by_cases h : tp q = 0
    · simp [h, hz h]
    · cases e : ng q <;> simp [h] <;> omega
  constructor
  · intro h
    have h3 : ¬ q < 0 := fun e => by have := h2.2 e; omega
    have h4 : ¬ q = 0 := fun e => by have := h1.2 e; omega
    grind
  · intro h
    have h3 : ¬ sgI q < 0 := fun e => by
      have := h2.1 e
      grind
    have h4 : ¬ sgI q = 0 := fun e => by
      rw [h1.1 e] at h; exact Rat.lt_irrefl h
    omega

theorem sgI_neg {q : Rat} : sgI q < 0 ↔ q < 0 := by
  have h1 := sgI_zero (q := q)
  have h2 := sgI_pos (q := q)
  constructor
  · intro h
    have h3 : ¬ 0 < q := fun e => by have := h2.2 e; omega
    have h4 : ¬ q = 0 := fun e => by have := h1.2 e; omega
    grind
  · intro h
    have h3 : ¬ 0 < sgI q := fun e => by
      have := h2.1 e
      grind
    have h4 : ¬ sgI q = 0 := fun e => by
      rw [h1.1 e] at h; exact Rat.lt_irrefl h
    omega

/-- The servers for loads with texts. -/
def okLoads (x : List Rat) : Prop := 1 ≤ x.length ∧ x.length ≤ 48 ∧ x.any (fun q => decide (sgI q < 0)) = false
instance (x : List Rat) : Decidable (okLoads x) := by unfold okLoads; exact inferInstance

def serversQ (loads : List (List UInt8)) (most : List UInt8) : Option (List Nat) := match rdRats loads, rdRat most with
  | some x, some y => if okLoads x then allO (srvQ y) x else none
  | _, _ => none


/-- What ServersFor hands back, and the row that it lies in. -/
def ansN : Option (List Nat) → AV × LL
  | some ns => (.tup [.ls 0 0 ns.length 1, B true], [(0, .row true 1 (cW .i64 ns))])
  | none => (.tup [.d (.sl []), B false], [])

theorem fn_ServersFor (loads : List (List UInt8)) (most : List UInt8) (hl : loads.length ≤ 1000000000000) (hs : ∀ x, x ∈ loads → x.length ≤ 1000000000000) (hm : most.length ≤ 1000000000000) :
    Fn Tryz.prog 18 [lT loads, Str most] [] (ansN (serversQ loads most)).1 (ansN (serversQ loads most)).2 := by
  have c1 := fn_rats loads hl hs
  have c2 := fn_readRat most hm
  unfold serversQ
  cases e2 : rdRat most with
  | none =>
    rw [e2] at c2
    cases e1 : rdRats loads with
    | none =>
      rw [e1] at c1
      show Fn _ _ _ _ (.tup [.d (.sl []), B false]) []
      refine Fn.intro (ks := [0,1,4,5,6,7,8,9,10,12,13,14,40,42,43,44,45,50,58]) hty rfl rfl rfl rfl rfl ?_
      conv => whnf
      refine VCall.of_data c1 (ndT (fun k => rfl)) ?_
      conv => whnf
      refine VCall.of_data c2 (ndT (fun k => rfl)) ?_
      conv => whnf
      first | exact ⟨rfl, trivial, rfl⟩ | exact ⟨rfl, rfl, trivial, rfl⟩
    | some x =>
      rw [e1] at c1
      show Fn _ _ _ _ (.tup [.d (.sl []), B false]) []
      refine Fn.intro (ks := [0,1,4,5,6,7,8,9,10,12,13,14,40,42,43,44,45,50,58]) hty rfl rfl rfl rfl rfl ?_
      conv => whnf
      refine VCall.of_data c1 (ndT (fun k => rfl)) ?_
      conv => whnf
      refine VCall.of_data c2 (ndT (fun k => rfl)) ?_
      conv => whnf
      first | exact ⟨rfl, trivial, rfl⟩ | exact ⟨rfl, rfl, trivial, rfl⟩
  | some y =>
    rw [e2] at c2
    have sy := rdRat_sz e2
    cases e1 : rdRats loads with
    | none =>
      rw [e1] at c1
      show Fn _ _ _ _ (.tup [.d (.sl []), B false]) []
      refine Fn.intro (ks := [0,1,4,5,6,7,8,9,10,12,13,14,40,42,43,44,45,50,58]) hty rfl rfl rfl rfl rfl ?_
      conv => whnf
      refine VCall.of_data c1 (ndT (fun k => rfl)) ?_
      conv => whnf
      refine VCall.of_data c2 (ndT (fun k => rfl)) ?_
      conv => whnf
      first | exact ⟨rfl, trivial, rfl⟩ | exact ⟨rfl, rfl, trivial, rfl⟩
    | some x =>
      rw [e1, Option.getD_some, Option.isSome_some] at c1
      obtain ⟨x1, x2, x3⟩ := rdRats_sz e1
      have hxl : ((cQ x).length : Int) = x.length := by rw [cQ_len]
      have ci := fn_in (x.length : Nat) 1 48
      have cc := fn_containsQ 76 (fun q => decide (sgI q < 0)) x (by omega) fun q hq => fn_isMinus q (by have := x3 q hq; omega)
      show Fn _ _ _ _ (ansN (if okLoads x then allO (srvQ y) x else none)).1 (ansN (if okLoads x then allO (srvQ y) x else none)).2
      by_cases hin : 1 ≤ x.length ∧ x.length ≤ 48
      · rw [decide_eq_true (by omega : (1 : Int) ≤ (x.length : Nat)), decide_eq_true (by omega : ((x.length : Nat) : Int) ≤ 48)] at ci
        cases ea : x.any (fun q => decide (sgI q < 0)) with
        | true =>
          rw [ea] at cc
          rw [if_neg (fun h : okLoads x => by rw [h.2.2] at ea; cases ea)]
          show Fn _ _ _ _ (.tup [.d (.sl []), B false]) []
          refine Fn.intro (ks := [0,1,4,5,6,7,8,9,10,12,13,14,40,42,43,44,45,50,58]) hty rfl rfl rfl rfl rfl ?_
          conv => whnf
          refine VCall.of_data c1 (ndT (fun k => rfl)) ?_
          conv => whnf
          refine VCall.of_data c2 (ndT (fun k => rfl)) ?_
          conv => whnf
          refine VCall.of_data (by rw [hxl]; exact ci) (nd _) ?_
          conv => whnf
          refine VCall.of_data cc (nd _) ?_
          conv => whnf
          first | exact ⟨rfl, trivial, rfl⟩ | exact ⟨rfl, rfl, trivial, rfl⟩
        | false =>
          rw [ea] at cc
          rw [if_pos (show okLoads x from ⟨hin.1, hin.2, ea⟩)]
          refine Fn.intro (ks := [0,1,4,5,6,7,8,9,10,12,13,14,40,42,43,44,45,50,58]) hty rfl rfl rfl rfl rfl ?_
          conv => whnf
          refine VCall.of_data c1 (ndT (fun k => rfl)) ?_
          conv => whnf
          refine VCall.of_data c2 (ndT (fun k => rfl)) ?_
          conv => whnf
          refine VCall.of_data (by rw [hxl]; exact ci) (nd _) ?_
          conv => whnf
          refine VCall.of_data cc (nd _) ?_
          conv => whnf
          refine VLoop.ren 41 62 rfl ?_
          refine VLoop.inv hty (S := List Nat) (fun ns => [(44, I (ns.length : Nat)), (43, I (x.length : Nat)), (42, lQ x), (10, .ls 62 0 ns.length 1), (8, .lp 8 0)])
            (fun ns => [(62, .row true 1 (cW .i64 ns)), (8, .box true [B (ng y), nI (tp y), nI y.den])]) (fun ns => ns.length ≤ x.length ∧ allO (srvQ y) (x.take ns.length) = some ns) (fun ns => x.length - ns.length) [] ⟨Nat.zero_le _, rfl⟩
            ⟨rfl, by show AV.d (.s (.int .i64 ((cQ x).length : Int))) = _; rw [hxl], rfl, rfl, rfl, trivial⟩ ⟨rfl, rfl, trivial⟩ ?_
          rintro ns ⟨hi, hq⟩
          obtain ⟨i, ei⟩ : ∃ i, ns.length = i := ⟨_, rfl⟩
          rw [ei] at hi hq
          rw [ei]
          conv => whnf
          refine Br.mk (fun h2 => ?_) (fun h2 => ?_)
          · have h2 : i < x.length := by simp only [decide_eq_true_eq] at h2; omega
            obtain ⟨q, eq⟩ : ∃ q, x.getD i 0 = q := ⟨_, rfl⟩
            have hqm : q ∈ x := by rw [← eq, List.getD_eq_getElem?_getD, List.getElem?_eq_getElem h2]; exact List.getElem_mem h2
            have sq := x3 q hqm
            have et : x.take (i + 1) = x.take i ++ [q] := by rw [List.take_succ_eq_append_getElem h2]; subst eq; rw [List.getD_eq_getElem?_getD, List.getElem?_eq_getElem h2]; rfl
            have csg := fn_sign q (by omega)
            conv => whnf
            refine ⟨⟨⟨by omega, by omega⟩, cQ_sz _⟩, ?_⟩
            conv => whnf
            refine ⟨_, cQ_as (x := q) h2 eq, ?_⟩
            conv => whnf
            refine VCall.of_data csg (nd _) ?_
            conv => whnf
            refine Br.mk (fun h3 => ?_) (fun h3 => ?_)
            · have h3 : 0 < q := sgI_pos.1 (by simpa only [decide_eq_true_eq] using h3)
              have hle : ¬ q ≤ 0 := by grind
              have cls := fn_leastServers q y h3 (by omega) (by omega)
              have hsrv : srvQ y q = leastQ q y := by rw [srvQ, if_neg hle]
              cases el : leastQ q y with
              | none =>
                rw [el] at cls hsrv
                rw [allO_none hqm hsrv]
                conv => whnf
                refine VCall.of_data cls (ndT (fun k => rfl)) ?_
                conv => whnf
                first | exact ⟨rfl, trivial, rfl⟩ | exact ⟨rfl, rfl, trivial, rfl⟩
              | some d =>
                rw [el, Option.getD_some, Option.isSome_some] at cls
                rw [el] at hsrv
                conv => whnf
                refine VCall.of_data cls (ndT (fun k => rfl)) ?_
                conv => whnf
                refine Sub.full rfl ?_
                conv => whnf
                refine Sub.full (by rw [cW_len]; exact ei) ?_
                conv => whnf
                refine ⟨by show (i + 1) * 8 ≤ _; omega, ?_⟩
                conv => whnf
                refine Wr.i64 (y := ((i + 1 : Nat) : Int)) rfl (by omega) (by omega) ?_
                conv => whnf
                refine ⟨ns ++ [d], ⟨by rw [List.length_append, List.length_singleton]; omega, ?_⟩, by show x.length - (ns ++ [d]).length < x.length - i; rw [List.length_append, List.length_singleton]; omega, ⟨?_, rfl, rfl, ?_, rfl, trivial⟩, ?_, rfl, trivial⟩
                · rw [List.length_append, List.length_singleton, ei, et]
                  exact allO_snoc hq hsrv
                · show AV.d (.s (.int .i64 ((i + 1 : Nat) : Int))) = I ((ns ++ [d]).length : Nat)
                  rw [List.length_append, List.length_singleton, ei]
                · show AV.ls 62 0 (i + 1) 1 = AV.ls 62 0 (ns ++ [d]).length 1
                  rw [List.length_append, List.length_singleton, ei]
                · show Ob.row true 1 (cW .i64 ns ++ cW .i64 [d]) = _
                  rw [cW_append]
            · have h3 : ¬ 0 < q := fun e => by simp only [decide_eq_false_iff_not] at h3; exact h3 (sgI_pos.2 e)
              obtain ⟨d, ed⟩ : ∃ d : Nat, 0 = d := ⟨0, rfl⟩
              have hsrv : srvQ y q = some d := by rw [srvQ, if_pos (by grind), ← ed]
              have ed' : (0 : Int) = (d : Int) := by omega
              conv => whnf
              rw [show (Value.int IntKind.i64 0) = Value.int IntKind.i64 (d : Int) by rw [← ed']]
              conv => whnf
              refine Sub.full rfl ?_
              conv => whnf
              refine Sub.full (by rw [cW_len]; exact ei) ?_
              conv => whnf
              refine ⟨by show (i + 1) * 8 ≤ _; omega, ?_⟩
              conv => whnf
              refine Wr.i64 (y := ((i + 1 : Nat) : Int)) rfl (by omega) (by omega) ?_
              conv => whnf
              refine ⟨ns ++ [d], ⟨by rw [List.length_append, List.length_singleton]; omega, ?_⟩, by show x.length - (ns ++ [d]).length < x.length - i; rw [List.length_append, List.length_singleton]; omega, ⟨?_, rfl, rfl, ?_, rfl, trivial⟩, ?_, rfl, trivial⟩
              · rw [List.length_append, List.length_singleton, ei, et]
                exact allO_snoc hq hsrv
              · show AV.d (.s (.int .i64 ((i + 1 : Nat) : Int))) = I ((ns ++ [d]).length : Nat)
                rw [List.length_append, List.length_singleton, ei]
              · show AV.ls 62 0 (i + 1) 1 = AV.ls 62 0 (ns ++ [d]).length 1
                rw [List.length_append, List.length_singleton, ei]
              · show Ob.row true 1 (cW .i64 ns ++ cW .i64 [d]) = _
                rw [cW_append]
          · have h2 : i = x.length := by simp only [decide_eq_false_iff_not] at h2; omega
            rw [h2, List.take_length] at hq
            rw [hq]
            conv => whnf
            exact ⟨⟨rfl, rfl, rfl, rfl, ei, rfl⟩, [], rfl, rfl, trivial, rfl⟩
      · have hf : (decide ((1 : Int) ≤ (x.length : Nat)) && decide (((x.length : Nat) : Int) ≤ 48)) = false := by
          rw [Bool.and_eq_false_iff, decide_eq_false_iff_not, decide_eq_false_iff_not]; omega
        rw [hf] at ci
        rw [if_neg (fun h : okLoads x => hin ⟨h.1, h.2.1⟩)]
        show Fn _ _ _ _ (.tup [.d (.sl []), B false]) []
        refine Fn.intro (ks := [0,1,4,5,6,7,8,9,10,12,13,14,40,42,43,44,45,50,58]) hty rfl rfl rfl rfl rfl ?_
        conv => whnf
        refine VCall.of_data c1 (ndT (fun k => rfl)) ?_
        conv => whnf
        refine VCall.of_data c2 (ndT (fun k => rfl)) ?_
        conv => whnf
        refine VCall.of_data (by rw [hxl]; exact ci) (nd _) ?_
        conv => whnf
        first | exact ⟨rfl, trivial, rfl⟩ | exact ⟨rfl, rfl, trivial, rfl⟩

end Go.V
/- The reference reads naturals. -/
namespace Go.V
open Go.Proofs Go.RowKit
set_option maxRecDepth 10000
set_option maxHeartbeats 1000000

abbrev U8 (c : UInt8) : AV := .d (.s (.int .u8 (c.toNat : Nat)))

/-- Cut so far: the parts, where the next one begins, how far it has been looked. -/
def CutI (c : UInt8) (s : List UInt8) (q : List (List UInt8) × Nat × Nat) : Prop :=
  q.2.1 ≤ q.2.2 ∧ ((q.2.2 ≤ s.length ∧ splitB c s = q.1 ++ splitB c (s.drop q.2.1) ∧ c ∉ (s.drop q.2.1).take (q.2.2 - q.2.1)) ∨ (q.2.2 = s.length + 1 ∧ splitB c s = q.1)) ∧ q.1.length ≤ q.2.2

theorem fn_sCut (s : List UInt8) (c : UInt8) (hs : s.length ≤ 1000000000) : Fn Tryz.prog 182 [Str s, U8 c] [] (lT (splitB c s)) [] := by
  refine Fn.intro (ks := [0,1,4,5,6,7,12,25]) hty rfl rfl rfl rfl rfl ?_
  conv => whnf
  refine VLoop.ren 8 32 rfl ?_
  refine VLoop.inv hty (S := List (List UInt8) × Nat × Nat) (fun q => [(7, I (q.2.2 : Nat)), (6, I (q.2.1 : Nat)), (5, .ls 32 0 q.1.length 1), (1, U8 c), (0, Str s)]) (fun q => [(32, .row true 1 (cT q.1))]) (CutI c s) (fun q => s.length + 1 - q.2.2) ([], 0, 0)
    ⟨Nat.le_refl _, .inl ⟨Nat.zero_le _, by simp, by simp⟩, Nat.le_refl _⟩ ⟨rfl, rfl, rfl, rfl, rfl, trivial⟩ ⟨rfl, trivial⟩ ?_
  intro q hI
  obtain ⟨out, eo⟩ : ∃ x, q.1 = x := ⟨_, rfl⟩
  obtain ⟨f, ef⟩ : ∃ x, q.2.1 = x := ⟨_, rfl⟩
  obtain ⟨i, ei⟩ : ∃ x, q.2.2 = x := ⟨_, rfl⟩
  unfold CutI at hI
  rw [eo, ef, ei] at hI
  rw [eo, ef, ei]
  obtain ⟨hfi, hor, hol⟩ := hI
  conv => whnf
  refine Br.mk (fun h => ?_) (fun h => ?_)
  · have h : i ≤ s.length := by rw [bsize] at h; simp only [decide_eq_true_eq] at h; omega
    obtain ⟨h1, h2, h3⟩ : i ≤ s.length ∧ splitB c s = out ++ splitB c (s.drop f) ∧ c ∉ (s.drop f).take (i - f) := by
      rcases hor with h4 | h4
      · exact h4
      · omega
    obtain ⟨p, ep⟩ : ∃ p, (s.drop f).take (i - f) = p := ⟨_, rfl⟩
    rw [ep] at h3
    have hex : (⟨s.toArray⟩ : ByteArray).extract ((f : Nat) : Int).toNat ((i : Nat) : Int).toNat = ⟨p.toArray⟩ := by
      rw [bx]
      show (⟨((s.take i).drop f).toArray⟩ : ByteArray) = _
      rw [List.drop_take, ep]
    conv => whnf
    refine Br.mk (fun h5 => ?_) (fun h5 => ?_)
    · have h5 : i = s.length := by rw [bsize] at h5; simp only [decide_eq_true_eq] at h5; omega
      have hp : p = s.drop f := by rw [← ep, List.take_of_length_le (by rw [List.length_drop]; omega)]
      have hnew : CutI c s (out ++ [p], i + 1, i + 1) := ⟨Nat.le_refl _, .inr ⟨by show i + 1 = _; omega, by show splitB c s = out ++ [p]; rw [h2, ← hp, splitB_none h3]⟩, by show (out ++ [p]).length ≤ i + 1; rw [List.length_append, List.length_singleton]; omega⟩
      conv => whnf
      refine ⟨⟨by omega, by omega, by rw [bsize]; omega⟩, ?_⟩
      rw [hex]
      conv => whnf
      refine Sub.full rfl ?_
      conv => whnf
      refine Sub.full (by rw [cT_len]) ?_
      conv => whnf
      refine ⟨by show (out.length + 1) * 16 ≤ _; omega, ?_⟩
      conv => whnf
      refine Wr.i64 (y := ((i + 1 : Nat) : Int)) (by omega) (by omega) (by omega) ?_
      conv => whnf
      refine Wr.i64 (y := ((i + 1 : Nat) : Int)) (by omega) (by omega) (by omega) ?_
      conv => whnf
      refine ⟨(out ++ [p], i + 1, i + 1), hnew, by show s.length + 1 - (i + 1) < s.length + 1 - i; omega, ⟨rfl, rfl, ?_, rfl, rfl, trivial⟩, ?_, trivial⟩
      · show AV.ls 32 0 (out.length + 1) 1 = AV.ls 32 0 (out ++ [p]).length 1
        rw [List.length_append]; rfl
      · show Ob.row true 1 (cT out ++ cT [p]) = _
        rw [cT_append]
    · have h5 : i < s.length := by rw [bsize] at h5; simp only [decide_eq_false_iff_not] at h5; omega
      obtain ⟨b, eb⟩ : ∃ b, s.getD i 0 = b := ⟨_, rfl⟩
      have hgi : s[i] = b := by rw [← eb, List.getD_eq_getElem?_getD, List.getElem?_eq_getElem h5]; rfl
      have hdf : s.drop f = p ++ b :: s.drop (i + 1) := by
        rw [← ep]
        have h6 := List.take_append_drop (i - f) (s.drop f)
        rw [List.drop_drop, show f + (i - f) = i by omega, List.drop_eq_getElem_cons h5, hgi] at h6
        exact h6.symm
      conv => whnf
      refine ⟨⟨by omega, by rw [bsize]; omega⟩, ?_⟩
      rw [show (⟨s.toArray⟩ : ByteArray).data.toList.getD ((i : Nat) : Int).toNat 0 = b from eb]
      conv => whnf
      refine Br.mk (fun h6 => ?_) (fun h6 => ?_)
      · have h6 : b = c := by
          simp only [decide_eq_true_eq] at h6
          exact uint8_ext (by omega)
        have hnew : CutI c s (out ++ [p], i + 1, i + 1) := ⟨Nat.le_refl _, .inl ⟨by show i + 1 ≤ _; omega, by
          show splitB c s = (out ++ [p]) ++ splitB c (s.drop (i + 1))
          rw [h2, hdf, h6, splitB_at h3, List.append_assoc]; rfl, by simp⟩, by show (out ++ [p]).length ≤ i + 1; rw [List.length_append, List.length_singleton]; omega⟩
        conv => whnf
        refine ⟨⟨by omega, by omega, by rw [bsize]; omega⟩, ?_⟩
        rw [hex]
        conv => whnf
        refine Sub.full rfl ?_
        conv => whnf
        refine Sub.full (by rw [cT_len]) ?_
        conv => whnf
        refine ⟨by show (out.length + 1) * 16 ≤ _; omega, ?_⟩
        conv => whnf
        refine Wr.i64 (y := ((i + 1 : Nat) : Int)) (by omega) (by omega) (by omega) ?_
        conv => whnf
        refine Wr.i64 (y := ((i + 1 : Nat) : Int)) (by omega) (by omega) (by omega) ?_
        conv => whnf
        refine ⟨(out ++ [p], i + 1, i + 1), hnew, by show s.length + 1 - (i + 1) < s.length + 1 - i; omega, ⟨rfl, rfl, ?_, rfl, rfl, trivial⟩, ?_, trivial⟩
        · show AV.ls 32 0 (out.length + 1) 1 = AV.ls 32 0 (out ++ [p]).length 1
          rw [List.length_append]; rfl
        · show Ob.row true 1 (cT out ++ cT [p]) = _
          rw [cT_append]
      · have h6 : b ≠ c := by
          simp only [decide_eq_false_iff_not] at h6
          intro e; rw [e] at h6; exact h6 rfl
        conv => whnf
        refine Wr.i64 (y := ((i + 1 : Nat) : Int)) (by omega) (by omega) (by omega) ?_
        conv => whnf
        refine ⟨(out, f, i + 1), ⟨by show f ≤ i + 1; omega, .inl ⟨by show i + 1 ≤ _; omega, h2, ?_⟩, by show out.length ≤ i + 1; omega⟩, by show s.length + 1 - (i + 1) < s.length + 1 - i; omega, ⟨rfl, rfl, rfl, rfl, rfl, trivial⟩, rfl, trivial⟩
        show c ∉ (s.drop f).take (i + 1 - f)
        have hpl : p.length = i - f := by rw [← ep, List.length_take, List.length_drop]; omega
        rw [hdf, show i + 1 - f = p.length + 1 by omega, List.take_append, List.take_of_length_le (by omega), show p.length + 1 - p.length = 1 by omega]
        simp only [List.take_succ_cons, List.take_zero, List.mem_append, List.mem_singleton, not_or]
        exact ⟨h3, fun e => h6 e.symm⟩
  · have h : ¬ i ≤ s.length := by rw [bsize] at h; simp only [decide_eq_false_iff_not] at h; omega
    have e : splitB c s = out := by
      rcases hor with h4 | h4
      · omega
      · exact h4.2
    rw [e]
    conv => whnf
    refine ⟨⟨rfl, by rw [cT_len]; omega, ?_⟩, trivial, rfl⟩
    rw [List.drop_zero, List.take_of_length_le (by rw [cT_len]; omega)]

theorem head_getD {s : List UInt8} (h : 0 < s.length) : s.head? = some (s.getD 0 0) := by
  cases s with
  | nil => simp at h
  | cons x r => rfl

theorem fn_sDigits (s : List UInt8) (hs : s.length ≤ 1000000000) : Fn Tryz.prog 183 [Str s] [] (B (decide (okN s))) [] := by
  refine Fn.intro (ks := [0,2,3,7,19]) hty rfl rfl rfl rfl rfl ?_
  conv => whnf
  refine VLoop.invX hty (S := Nat) (E := Unit) [] [] 0 (fun i => [(3, I (i : Nat)), (0, Str s)]) (fun _ => []) (fun i => i ≤ s.length ∧ ∀ k, k < i → IsD (s.getD k 0)) (fun i => s.length - i)
    (fun _ => [(0, Str s)]) (fun _ => []) (fun _ => ∀ b, b ∈ s → IsD b) 0 ⟨Nat.zero_le _, fun k h => absurd h (Nat.not_lt_zero k)⟩ ⟨rfl, rfl, trivial⟩ trivial ?_ ?_
  · rintro i ⟨hi, hk⟩
    obtain ⟨b, eb⟩ : ∃ b, s.getD i 0 = b := ⟨_, rfl⟩
    conv => whnf
    refine Br.mk (fun h5 => ?_) (fun h5 => ?_)
    · have h5 : i < s.length := by rw [bsize] at h5; simp only [decide_eq_true_eq] at h5; omega
      have hbm : b ∈ s := by rw [← eb, List.getD_eq_getElem?_getD, List.getElem?_eq_getElem h5]; exact List.getElem_mem h5
      conv => whnf
      refine ⟨⟨by omega, by rw [bsize]; omega⟩, ?_⟩
      rw [show (⟨s.toArray⟩ : ByteArray).data.toList.getD ((i : Nat) : Int).toNat 0 = b from eb]
      conv => whnf
      refine Br.mk (fun h6 => ?_) (fun h6 => ?_)
      · have h6 : b.toNat < 48 := by simp only [decide_eq_true_eq] at h6; omega
        have hno : ¬ okN s := fun hok => by have := (hok.dig b hbm).1; omega
        rw [decide_eq_false hno]
        conv => whnf
        exact ⟨rfl, trivial, rfl⟩
      · have h6 : ¬ b.toNat < 48 := by simp only [decide_eq_false_iff_not] at h6; omega
        conv => whnf
        refine ⟨⟨by omega, by rw [bsize]; omega⟩, ?_⟩
        rw [show (⟨s.toArray⟩ : ByteArray).data.toList.getD ((i : Nat) : Int).toNat 0 = b from eb]
        conv => whnf
        refine Br.mk (fun h7 => ?_) (fun h7 => ?_)
        · have h7 : 57 < b.toNat := by simp only [decide_eq_true_eq] at h7; omega
          have hno : ¬ okN s := fun hok => by have := (hok.dig b hbm).2; omega
          rw [decide_eq_false hno]
          conv => whnf
          exact ⟨rfl, trivial, rfl⟩
        · have h7 : ¬ 57 < b.toNat := by simp only [decide_eq_false_iff_not] at h7; omega
          conv => whnf
          refine Wr.i64 (y := ((i + 1 : Nat) : Int)) (by omega) (by omega) (by omega) ?_
          conv => whnf
          refine ⟨i + 1, ⟨h5, fun k hki => ?_⟩, by show s.length - (i + 1) < s.length - i; omega, ⟨rfl, rfl, trivial⟩, trivial⟩
          rcases Nat.lt_or_ge k i with h8 | h8
          · exact hk k h8
          · rw [show k = i by omega, eb]; exact ⟨by omega, by omega⟩
    · have h5 : i = s.length := by rw [bsize] at h5; simp only [decide_eq_false_iff_not] at h5; omega
      conv => whnf
      refine ⟨rfl, (), fun b hb => ?_, ⟨rfl, trivial⟩, trivial⟩
      obtain ⟨k, hk1, hk2⟩ := List.mem_iff_getElem.1 hb
      have := hk k (by omega)
      rw [List.getD_eq_getElem?_getD, List.getElem?_eq_getElem hk1] at this
      simpa [hk2] using this
  · rintro _ hdig
    conv => whnf
    refine Br.mk (fun h1 => ?_) (fun h1 => ?_)
    · have h1 : 1 ≤ s.length := by rw [bsize] at h1; simp only [decide_eq_true_eq] at h1; omega
      have hhead := head_getD (s := s) (by omega)
      have hne : s ≠ [] := fun e => by rw [e] at h1; simp at h1
      conv => whnf
      refine Br.mk (fun h2 => ?_) (fun h2 => ?_)
      · have h2 : s.length ≤ 200 := by rw [bsize] at h2; simp only [decide_eq_true_eq] at h2; omega
        conv => whnf
        refine Br.mk (fun h3 => ?_) (fun h3 => ?_)
        · have h3 : s.length = 1 := by rw [bsize] at h3; simp only [decide_eq_true_eq] at h3; omega
          rw [decide_eq_true (show okN s from ⟨hne, h2, hdig, .inl h3⟩)]
          conv => whnf
          exact ⟨rfl, trivial, rfl⟩
        · have h3 : ¬ s.length = 1 := by rw [bsize] at h3; simp only [decide_eq_false_iff_not] at h3; omega
          conv => whnf
          refine ⟨⟨by omega, by rw [bsize]; omega⟩, ?_⟩
          conv => whnf
          refine ⟨?_, trivial, rfl⟩
          congr 3
          show (!decide ((((s.getD 0 0).toNat : Nat) : Int) = 48)) = decide (okN s)
          by_cases h48 : s.getD 0 0 = 48
          · rw [h48]
            have hno : ¬ okN s := fun hok => by
              rcases hok.2.2.2 with h5 | h5
              · exact h3 h5
              · rw [hhead, h48] at h5; exact h5 rfl
            rw [decide_eq_false hno]; rfl
          · have hyes : okN s := ⟨hne, h2, hdig, .inr (by rw [hhead]; intro e; exact h48 (Option.some.inj e))⟩
            rw [decide_eq_true hyes, decide_eq_false (fun e => h48 (uint8_ext (by show (s.getD 0 0).toNat = 48; omega)))]; rfl
      · have h2 : ¬ s.length ≤ 200 := by rw [bsize] at h2; simp only [decide_eq_false_iff_not] at h2; omega
        rw [decide_eq_false (fun hok : okN s => h2 hok.2.1)]
        conv => whnf
        exact ⟨rfl, trivial, rfl⟩
    · have h1 : ¬ 1 ≤ s.length := by rw [bsize] at h1; simp only [decide_eq_false_iff_not] at h1; omega
      rw [decide_eq_false (fun hok : okN s => h1 (List.length_pos_iff.2 hok.1))]
      conv => whnf
      exact ⟨rfl, trivial, rfl⟩

/-- Read so far, from the end. -/
def RdI (s : List UInt8) (out : List Nat) : Prop := (∀ x, x ∈ out → x < B9) ∧ dv s = vl B9 out + B9 ^ out.length * dv (s.take (s.length - 9 * out.length)) ∧ 9 * out.length ≤ s.length + 8

theorem RdI.step {s : List UInt8} {out : List Nat} (hd : ∀ b, b ∈ s → IsD b) (h : RdI s out) {f tx : Nat} (ht : tx = s.length - 9 * out.length) (h0 : 0 < tx) (hf : f = tx - 9) :
    RdI s (out ++ [dv ((s.drop f).take (tx - f))]) ∧ dv ((s.drop f).take (tx - f)) < B9 := by
  obtain ⟨h1, h2, h3⟩ := h
  have hlt : dv ((s.drop f).take (tx - f)) < B9 := by
    have h4 := dv_lt (s := (s.drop f).take (tx - f)) fun b hb => hd b (List.mem_of_mem_drop (List.mem_of_mem_take hb))
    have h5 : ((s.drop f).take (tx - f)).length ≤ 9 := by rw [List.length_take]; omega
    have h6 : (10 : Nat) ^ ((s.drop f).take (tx - f)).length ≤ 10 ^ 9 := Nat.pow_le_pow_right (by decide) h5
    exact Nat.lt_of_lt_of_le h4 h6
  refine ⟨⟨snoc_lt h1 hlt, ?_, by rw [List.length_append, List.length_singleton]; omega⟩, hlt⟩
  rw [List.length_append, List.length_singleton, vl_snoc, Nat.pow_succ, h2, ← ht]
  have h4 := dv_part (s := s) (lo := f) (hi := tx) (by omega) (by omega)
  have h5 : s.length - 9 * (out.length + 1) = f := by omega
  rw [h5, h4]
  generalize dv ((s.drop f).take (tx - f)) = d
  generalize vl B9 out = vv
  generalize B9 ^ out.length = P
  rcases Nat.lt_or_ge tx 9 with h6 | h6
  · have : dv (s.take f) = 0 := by rw [show f = 0 by omega]; rfl
    rw [this, Nat.zero_mul, Nat.zero_add, Nat.mul_zero, Nat.add_zero]
  · have h7 : (10 : Nat) ^ (tx - f) = B9 := by rw [show tx - f = 9 by omega]
    rw [h7]
    generalize B9 = B
    have : P * (dv (s.take f) * B) = P * B * dv (s.take f) := by rw [Nat.mul_comm (dv _) B, Nat.mul_assoc]
    rw [Nat.mul_add, this]
    omega

theorem fn_sNatRead (s : List UInt8) (hs : s.length ≤ 1000000000) (hd : ∀ b, b ∈ s → IsD b) : Fn Tryz.prog 184 [Str s] [] (nS (dv s)) [] := by
  refine Fn.intro (ks := [0,2,3,4,5,6,7,12,16,22]) hty rfl rfl rfl rfl rfl ?_
  conv => whnf
  refine VLoop.ren 8 36 rfl ?_
  refine VLoop.inv hty (S := List Nat) (fun out => [(4, I ((s.length : Int) - 9 * out.length)), (3, .ls 36 0 out.length 1), (0, Str s)]) (fun out => [(36, .row true 1 (cW .i64 out))]) (RdI s) (fun out => s.length + 9 - 9 * out.length) []
    ⟨by simp, by simp [vl], by simp⟩ ⟨by show AV.d (.s (.int .i64 ((s.length : Nat) : Int))) = AV.d (.s (.int .i64 ((s.length : Int) - 9 * ((0 : Nat) : Int)))); congr 3, rfl, rfl, trivial⟩ ⟨rfl, trivial⟩ ?_
  intro out hI
  have hI3 := hI.2.2
  obtain ⟨tx', eto⟩ : ∃ x, (s.length : Int) - 9 * out.length = x := ⟨_, rfl⟩
  rw [eto]
  conv => whnf
  refine Br.mk (fun h => ?_) (fun h => ?_)
  · obtain ⟨tx, eto2⟩ : ∃ tx : Nat, tx' = tx := ⟨tx'.toNat, by simp only [decide_eq_true_eq] at h; omega⟩
    subst eto2
    have h : 0 < tx := by simp only [decide_eq_true_eq] at h; omega
    have ht : tx = s.length - 9 * out.length := by omega
    obtain ⟨f, ef⟩ : ∃ f, tx - 9 = f := ⟨_, rfl⟩
    obtain ⟨hst, hlt⟩ := hI.step hd ht h ef.symm
    conv => whnf
    refine Br.mk (fun h2 => ?_) (fun h2 => ?_)
    · have h2 : 9 < tx := by simp only [decide_eq_true_eq] at h2; omega
      conv => whnf
      refine Wr.i64 (y := ((f : Nat) : Int)) (by omega) (by omega) (by omega) ?_
      have hcnt : ∀ k, k ≤ tx - f → dv ((s.drop f).take k) < 1000000000 := fun k hk => by
        have h4 := dv_lt (s := (s.drop f).take k) fun b hb => hd b (List.mem_of_mem_drop (List.mem_of_mem_take hb))
        have h5 : ((s.drop f).take k).length ≤ 9 := by rw [List.length_take]; omega
        exact Nat.lt_of_lt_of_le h4 (Nat.pow_le_pow_right (by decide) h5)
      conv => whnf
      refine VLoop.invX hty (S := Nat) (E := Unit) [] [] 2 (fun k => [(7, I ((f + k : Nat) : Int)), (6, I (dv ((s.drop f).take k) : Nat)), (4, I (tx : Nat)), (3, .ls 36 0 out.length 1), (0, Str s)]) (fun _ => [(36, .row true 1 (cW .i64 out))]) (fun k => k ≤ tx - f) (fun k => tx - f - k)
        (fun _ => [(6, I (dv ((s.drop f).take (tx - f)) : Nat)), (4, I (tx : Nat)), (3, .ls 36 0 out.length 1), (0, Str s)]) (fun _ => [(36, .row true 1 (cW .i64 out))]) (fun _ => True) 0 (Nat.zero_le _) ⟨rfl, rfl, rfl, rfl, rfl, trivial⟩ ⟨rfl, trivial⟩ ?_ ?_
      · intro k hk
        have hdk := hcnt k hk
        conv => whnf
        refine Br.mk (fun h3 => ?_) (fun h3 => ?_)
        · have h3 : f + k < tx := by simp only [decide_eq_true_eq] at h3; omega
          obtain ⟨b, eb⟩ : ∃ b, s.getD (f + k) 0 = b := ⟨_, rfl⟩
          have hi : f + k < s.length := by omega
          have hbd : IsD b := by
            refine hd b ?_
            rw [← eb, List.getD_eq_getElem?_getD, List.getElem?_eq_getElem hi]; exact List.getElem_mem hi
          have hb1 := hbd.1
          have hb2 := hbd.2
          have hkl : k < (s.drop f).length := by rw [List.length_drop]; omega
          have hnext : dv ((s.drop f).take (k + 1)) = 10 * dv ((s.drop f).take k) + (b.toNat - 48) := by
            rw [dv_take hkl]
            have : (s.drop f)[k] = b := by
              rw [List.getElem_drop, ← eb, List.getD_eq_getElem?_getD, List.getElem?_eq_getElem hi]; rfl
            rw [this]
          have hdk2 := hcnt (k + 1) (by omega)
          obtain ⟨x, ex⟩ : ∃ x, dv ((s.drop f).take k) = x := ⟨_, rfl⟩
          obtain ⟨y, ey⟩ : ∃ x, dv ((s.drop f).take (k + 1)) = x := ⟨_, rfl⟩
          rw [ex, ey] at hnext
          rw [ex] at hdk
          rw [ey] at hdk2
          rw [ex]
          conv => whnf
          refine Wr.i64 (y := (10 : Int) * (x : Nat)) rfl (by omega) (by omega) ?_
          conv => whnf
          refine ⟨⟨by omega, by rw [bsize]; omega⟩, ?_⟩
          rw [show (⟨s.toArray⟩ : ByteArray).data.toList.getD ((f + k : Nat) : Int).toNat 0 = b from eb]
          conv => whnf
          refine Wr.is (y := ((b.toNat - 48 : Nat) : Int)) (by rw [wrap_u8]; omega) ?_
          conv => whnf
          refine Wr.i64 (y := ((b.toNat - 48 : Nat) : Int)) rfl (by omega) (by omega) ?_
          conv => whnf
          refine Wr.i64 (y := (y : Int)) (by omega) (by omega) (by omega) ?_
          conv => whnf
          refine Wr.i64 (y := ((f + (k + 1) : Nat) : Int)) (by omega) (by omega) (by omega) ?_
          conv => whnf
          exact ⟨k + 1, by omega, by show tx - f - (k + 1) < tx - f - k; omega, ⟨rfl, by show AV.d (.s (.int .i64 (y : Int))) = I _; rw [ey], rfl, rfl, rfl, trivial⟩, rfl, trivial⟩
        · have h3 : k = tx - f := by simp only [decide_eq_false_iff_not] at h3; omega
          rw [h3]
          conv => whnf
          exact ⟨rfl, (), trivial, ⟨rfl, rfl, rfl, rfl, trivial⟩, rfl, trivial⟩
      · rintro _ _
        obtain ⟨d, ed⟩ : ∃ d, dv ((s.drop f).take (tx - f)) = d := ⟨_, rfl⟩
        rw [ed] at hst hlt
        rw [ed]
        conv => whnf
        refine Sub.full rfl ?_
        conv => whnf
        refine Sub.full (by rw [cW_len]) ?_
        conv => whnf
        refine ⟨by show (out.length + 1) * 8 ≤ _; omega, ?_⟩
        conv => whnf
        refine Wr.i64 (y := (s.length : Int) - 9 * ((out.length + 1 : Nat) : Int)) (by omega) (by omega) (by omega) ?_
        conv => whnf
        refine ⟨out ++ [d], hst, by show s.length + 9 - 9 * (out ++ [d]).length < _; rw [List.length_append, List.length_singleton]; omega, ⟨?_, ?_, rfl, trivial⟩, ?_, trivial⟩
        · show AV.d (.s (.int .i64 ((s.length : Int) - 9 * ((out.length + 1 : Nat) : Int)))) = I ((s.length : Int) - 9 * ((out ++ [d]).length : Nat))
          rw [List.length_append, List.length_singleton]
        · show AV.ls 36 0 (out.length + 1) 1 = AV.ls 36 0 (out ++ [d]).length 1
          rw [List.length_append]; rfl
        · show Ob.row true 1 (cW .i64 out ++ cW .i64 [d]) = _
          rw [cW_append]
    · have h2 : ¬ 9 < tx := by simp only [decide_eq_false_iff_not] at h2; omega
      have hf0 : f = 0 := by omega
      subst hf0
      have hcnt : ∀ k, k ≤ tx - 0 → dv ((s.drop 0).take k) < 1000000000 := fun k hk => by
        have h4 := dv_lt (s := (s.drop 0).take k) fun b hb => hd b (List.mem_of_mem_drop (List.mem_of_mem_take hb))
        have h5 : ((s.drop 0).take k).length ≤ 9 := by rw [List.length_take]; omega
        exact Nat.lt_of_lt_of_le h4 (Nat.pow_le_pow_right (by decide) h5)
      conv => whnf
      refine VLoop.invX hty (S := Nat) (E := Unit) [] [] 2 (fun k => [(7, I ((0 + k : Nat) : Int)), (6, I (dv ((s.drop 0).take k) : Nat)), (4, I (tx : Nat)), (3, .ls 36 0 out.length 1), (0, Str s)]) (fun _ => [(36, .row true 1 (cW .i64 out))]) (fun k => k ≤ tx - 0) (fun k => tx - 0 - k)
        (fun _ => [(6, I (dv ((s.drop 0).take (tx - 0)) : Nat)), (4, I (tx : Nat)), (3, .ls 36 0 out.length 1), (0, Str s)]) (fun _ => [(36, .row true 1 (cW .i64 out))]) (fun _ => True) 0 (Nat.zero_le _) ⟨rfl, rfl, rfl, rfl, rfl, trivial⟩ ⟨rfl, trivial⟩ ?_ ?_
      · intro k hk
        have hdk := hcnt k hk
        conv => whnf
        refine Br.mk (fun h3 => ?_) (fun h3 => ?_)
        · have h3 : 0 + k < tx := by simp only [decide_eq_true_eq] at h3; omega
          obtain ⟨b, eb⟩ : ∃ b, s.getD (0 + k) 0 = b := ⟨_, rfl⟩
          have hi : 0 + k < s.length := by omega
          have hbd : IsD b := by
            refine hd b ?_
            rw [← eb, List.getD_eq_getElem?_getD, List.getElem?_eq_getElem hi]; exact List.getElem_mem hi
          have hb1 := hbd.1
          have hb2 := hbd.2
          have hkl : k < (s.drop 0).length := by rw [List.length_drop]; omega
          have hnext : dv ((s.drop 0).take (k + 1)) = 10 * dv ((s.drop 0).take k) + (b.toNat - 48) := by
            rw [dv_take hkl]
            have : (s.drop 0)[k] = b := by
              rw [List.getElem_drop, ← eb, List.getD_eq_getElem?_getD, List.getElem?_eq_getElem hi]; rfl
            rw [this]
          have hdk2 := hcnt (k + 1) (by omega)
          obtain ⟨x, ex⟩ : ∃ x, dv ((s.drop 0).take k) = x := ⟨_, rfl⟩
          obtain ⟨y, ey⟩ : ∃ x, dv ((s.drop 0).take (k + 1)) = x := ⟨_, rfl⟩
          rw [ex, ey] at hnext
          rw [ex] at hdk
          rw [ey] at hdk2
          rw [ex]
          conv => whnf
          refine Wr.i64 (y := (10 : Int) * (x : Nat)) rfl (by omega) (by omega) ?_
          conv => whnf
          refine ⟨⟨by omega, by rw [bsize]; omega⟩, ?_⟩
          rw [show (⟨s.toArray⟩ : ByteArray).data.toList.getD ((0 + k : Nat) : Int).toNat 0 = b from eb]
          conv => whnf
          refine Wr.is (y := ((b.toNat - 48 : Nat) : Int)) (by rw [wrap_u8]; omega) ?_
          conv => whnf
          refine Wr.i64 (y := ((b.toNat - 48 : Nat) : Int)) rfl (by omega) (by omega) ?_
          conv => whnf
          refine Wr.i64 (y := (y : Int)) (by omega) (by omega) (by omega) ?_
          conv => whnf
          refine Wr.i64 (y := ((0 + (k + 1) : Nat) : Int)) (by omega) (by omega) (by omega) ?_
          conv => whnf
          exact ⟨k + 1, by omega, by show tx - 0 - (k + 1) < tx - 0 - k; omega, ⟨rfl, by show AV.d (.s (.int .i64 (y : Int))) = I _; rw [ey], rfl, rfl, rfl, trivial⟩, rfl, trivial⟩
        · have h3 : k = tx - 0 := by simp only [decide_eq_false_iff_not] at h3; omega
          rw [h3]
          conv => whnf
          exact ⟨rfl, (), trivial, ⟨rfl, rfl, rfl, rfl, trivial⟩, rfl, trivial⟩
      · rintro _ _
        obtain ⟨d, ed⟩ : ∃ d, dv ((s.drop 0).take (tx - 0)) = d := ⟨_, rfl⟩
        rw [ed] at hst hlt
        rw [ed]
        conv => whnf
        refine Sub.full rfl ?_
        conv => whnf
        refine Sub.full (by rw [cW_len]) ?_
        conv => whnf
        refine ⟨by show (out.length + 1) * 8 ≤ _; omega, ?_⟩
        conv => whnf
        refine Wr.i64 (y := (s.length : Int) - 9 * ((out.length + 1 : Nat) : Int)) (by omega) (by omega) (by omega) ?_
        conv => whnf
        refine ⟨out ++ [d], hst, by show s.length + 9 - 9 * (out ++ [d]).length < _; rw [List.length_append, List.length_singleton]; omega, ⟨?_, ?_, rfl, trivial⟩, ?_, trivial⟩
        · show AV.d (.s (.int .i64 ((s.length : Int) - 9 * ((out.length + 1 : Nat) : Int)))) = I ((s.length : Int) - 9 * ((out ++ [d]).length : Nat))
          rw [List.length_append, List.length_singleton]
        · show AV.ls 36 0 (out.length + 1) 1 = AV.ls 36 0 (out ++ [d]).length 1
          rw [List.length_append]; rfl
        · show Ob.row true 1 (cW .i64 out ++ cW .i64 [d]) = _
          rw [cW_append]
  · have h : tx' ≤ 0 := by simp only [decide_eq_false_iff_not] at h; omega
    have hv : vl B9 out = dv s := by
      have h2 := hI.2.1
      rw [show s.length - 9 * out.length = 0 by omega] at h2
      have : dv (s.take 0) = 0 := rfl
      rw [this] at h2; omega
    have ct := fn_sTrim out hI.1 (by omega)
    rw [hv] at ct
    conv => whnf
    refine VCall.frz 36 ct rfl ⟨⟨rfl, rfl, by rw [cW_len]; omega, by rw [List.drop_zero, List.take_of_length_le (by rw [cW_len]; omega)]⟩, trivial⟩ (nd _) ?_
    conv => whnf
    exact ⟨rfl, trivial, rfl⟩

end Go.V
/- The reference reads fractions. -/
namespace Go.V
open Go.Proofs Go.RowKit
set_option maxRecDepth 10000
set_option maxHeartbeats 1000000

def one2 (neg : Bool) (d : List UInt8) : Option Rat := if ¬ okN d ∨ (neg = true ∧ dv d = 0) then none else some (mkRat (sgn neg (dv d)) 1)
def two2 (neg : Bool) (d g : List UInt8) : Option Rat := if ¬ okN d ∨ (neg = true ∧ dv d = 0) then none else if ¬ okN g ∨ dv g ≤ 1 ∨ (dv d).gcd (dv g) ≠ 1 then none else some (mkRat (sgn neg (dv d)) (dv g))

/-- A fraction from its parts. -/
def parseS (neg : Bool) (ps : List (List UInt8)) : Option Rat := match ps with
  | [d] => one2 neg d
  | [d, g] => two2 neg d g
  | _ => none

theorem pre_nil : Lib.hasPrefix [] [45] = false := rfl
theorem pre_cons (b : UInt8) (r : List UInt8) : Lib.hasPrefix (b :: r) [45] = decide (b = 45) := by
  show (([45] : List UInt8).isPrefixOf (b :: r)) = _
  simp only [List.isPrefixOf, Bool.and_true]
  by_cases h : b = 45
  · subst h; rfl
  · rw [decide_eq_false h]; simpa using fun e : 45 = b => h e.symm

theorem splitB_len {c : UInt8} : ∀ {s : List UInt8}, c ∈ s → 2 ≤ (splitB c s).length
  | b :: r, h => by
    by_cases hb : b = c
    · subst hb
      rw [splitB, if_pos rfl]
      have := List.length_pos_iff.2 (splitB_ne b r)
      rw [List.length_cons]; omega
    · have hr : c ∈ r := by
        rcases List.mem_cons.1 h with e | h
        · exact absurd e.symm hb
        · exact h
      have ih := splitB_len hr
      unfold splitB
      rw [if_neg hb]
      split
      · rename_i p ps e; rw [e] at ih; rw [List.length_cons] at ih ⊢; exact ih
      · rename_i e; rw [e] at ih; simp at ih

theorem rdRat_parse (s : List UInt8) : rdRat s = parseS (Lib.hasPrefix s [45]) (splitB 47 (Lib.trimPrefix s [45])) := by
  rcases indexByte_spec 47 s with ⟨h1, h2⟩ | ⟨p, r, h1, h2, h3⟩
  · have hc : cutB 47 s = (s, [], false) := by rw [cutB, h2]; rfl
    have hd : 47 ∉ Lib.trimPrefix s [45] := by
      unfold Lib.trimPrefix
      split
      · exact fun h => h1 (List.mem_of_mem_drop h)
      · exact h1
    unfold rdRat
    rw [hc, splitB_none hd]
    simp only [parseS, one2, if_true]
  · have hc : cutB 47 s = (p, r, true) := by
      rw [cutB, h3]
      show (s.take p.length, s.drop (p.length + 1), true) = _
      rw [h1]; simp
    have hpre : Lib.hasPrefix s [45] = Lib.hasPrefix p [45] := by
      rw [h1]
      cases p with
      | nil => rw [List.nil_append, pre_cons, pre_nil]; rfl
      | cons b q => rw [List.cons_append, pre_cons, pre_cons]
    have htr : Lib.trimPrefix s [45] = Lib.trimPrefix p [45] ++ 47 :: r := by
      unfold Lib.trimPrefix
      rw [hpre, h1]
      split
      · rename_i hp
        cases p with
        | nil => cases hp
        | cons b q => rfl
      · rfl
    have hd : 47 ∉ Lib.trimPrefix p [45] := by
      unfold Lib.trimPrefix
      split
      · exact fun h => h2 (List.mem_of_mem_drop h)
      · exact h2
    unfold rdRat
    rw [hc, htr, splitB_at hd, hpre]
    simp only [Bool.true_eq_false, if_false, reduceCtorEq]
    by_cases hr : 47 ∈ r
    · have hno : ¬ okN r := fun h => by
        have := (h.dig 47 hr).1
        exact absurd this (by decide)
      have hl := splitB_len hr
      rw [if_pos (.inl hno : ¬ okN r ∨ _)]
      cases hs : splitB 47 r with
      | nil => rw [hs] at hl; simp at hl
      | cons x xs =>
        cases xs with
        | nil => rw [hs] at hl; simp at hl
        | cons y ys => simp [parseS]
    · rw [splitB_none hr]
      simp only [parseS, two2]

/-- A fraction or none, as data, in the reference. -/
def rOS : Option Rat → AV
  | some q => rS q
  | none => .ag [B false, nS 0, nS 0]

theorem splitB_sum (c : UInt8) : ∀ (s : List UInt8) (x : List UInt8), x ∈ splitB c s → x.length ≤ s.length
  | [], x, h => by simp [splitB] at h; simp [h]
  | b :: r, x, h => by
    unfold splitB at h
    split at h
    · rcases List.mem_cons.1 h with rfl | h
      · simp
      · have := splitB_sum c r x h; rw [List.length_cons]; omega
    · split at h
      · rename_i p ps e
        rcases List.mem_cons.1 h with rfl | h
        · have := splitB_sum c r p (by rw [e]; simp)
          rw [List.length_cons, List.length_cons]; omega
        · have := splitB_sum c r x (by rw [e]; simp [h])
          rw [List.length_cons]; omega
      · simp at h; subst h; simp

theorem fn_sParse (s : List UInt8) (hs : s.length ≤ 1000000000) : Fn Tryz.prog 136 [Str s] [] (.tup [rOS (rdRat s), B (rdRat s).isSome]) [] := by
  rw [rdRat_parse]
  cases s with
  | nil =>
    rw [show Lib.trimPrefix [] [45] = [] from rfl, pre_nil]
    have hl' : ([] : List UInt8).length ≤ 1000000000 := by simp
    refine Fn.intro (ks := [0,2,3,4,5,6,7,15,16,30,41,45,54,71]) hty rfl rfl rfl rfl rfl ?_
    conv => whnf
    have csp := fn_sCut [] 47 hl'
    have hsum := splitB_sum 47 []
    have hne := splitB_ne 47 []
    refine VCall.of_data csp (nd _) ?_
    generalize splitB 47 [] = ps at hsum hne
    rcases ps with _ | ⟨d, _ | ⟨g, _ | ⟨e, q⟩⟩⟩
    · exact absurd rfl hne
    · have hdl := hsum d (by simp)
      have hln : ((cT [d]).length : Int) = 1 := rfl
      have cd1 := fn_sDigits d (by omega)
      by_cases hd : okN d
      · rw [decide_eq_true hd] at cd1
        have cd2 := fn_sNatRead d (by omega) hd.dig
        have hbd := hd.bl
        have hld : ((cW .i64 (dg B9 (dv d))).length : Int) = (dg B9 (dv d)).length := by rw [cW_len]
        have hzd := dg_len_zero b9 (n := dv d)
        conv => whnf
        refine ⟨⟨⟨by omega, by omega⟩, cT_sz _⟩, ?_⟩
        conv => whnf
        refine ⟨[.s (.string ⟨d.toArray⟩)], rfl, ?_⟩
        conv => whnf
        refine VCall.of_data cd1 (nd _) ?_
        conv => whnf
        refine ⟨⟨⟨by omega, by omega⟩, cT_sz _⟩, ?_⟩
        conv => whnf
        refine ⟨[.s (.string ⟨d.toArray⟩)], rfl, ?_⟩
        conv => whnf
        refine VCall.of_data cd2 (nd _) ?_
        conv => whnf
        have hs0 : dv d = 0 → false = false := fun _ => rfl
        have hno : ¬ (¬ okN d ∨ false = true ∧ dv d = 0) := by rintro (h | ⟨h, _⟩); exact h hd; cases h
        obtain ⟨p1, p2, p3⟩ := parts_of (s := false) (t := dv d) (b := 1) (by decide) (Nat.gcd_one_right _) hs0
        rw [show parseS false [d] = some (mkRat (sgn false (dv d)) 1) by show one2 _ _ = _; rw [one2, if_neg hno]]
        rw [show rOS (some (mkRat (sgn false (dv d)) 1)) = .ag [B false, nS (dv d), nS 1] by rw [rOS, rS, p1, p2, p3]]
        conv => whnf
        exact ⟨rfl, rfl, ⟨rfl, Nat.le_refl _, rfl⟩, rfl, trivial, rfl⟩
      · rw [decide_eq_false hd] at cd1
        rw [show parseS false [d] = none by show one2 _ _ = _; rw [one2, if_pos (.inl hd)]]
        conv => whnf
        refine ⟨⟨⟨by omega, by omega⟩, cT_sz _⟩, ?_⟩
        conv => whnf
        refine ⟨[.s (.string ⟨d.toArray⟩)], rfl, ?_⟩
        conv => whnf
        refine VCall.of_data cd1 (nd _) ?_
        conv => whnf
        exact ⟨rfl, rfl, trivial, rfl⟩
    · have hdl := hsum d (by simp)
      have hln : ((cT [d, g]).length : Int) = 2 := rfl
      have cd1 := fn_sDigits d (by omega)
      by_cases hd : okN d
      · rw [decide_eq_true hd] at cd1
        have cd2 := fn_sNatRead d (by omega) hd.dig
        have hbd := hd.bl
        have hld : ((cW .i64 (dg B9 (dv d))).length : Int) = (dg B9 (dv d)).length := by rw [cW_len]
        have hzd := dg_len_zero b9 (n := dv d)
        conv => whnf
        refine ⟨⟨⟨by omega, by omega⟩, cT_sz _⟩, ?_⟩
        conv => whnf
        refine ⟨[.s (.string ⟨d.toArray⟩)], rfl, ?_⟩
        conv => whnf
        refine VCall.of_data cd1 (nd _) ?_
        conv => whnf
        refine ⟨⟨⟨by omega, by omega⟩, cT_sz _⟩, ?_⟩
        conv => whnf
        refine ⟨[.s (.string ⟨d.toArray⟩)], rfl, ?_⟩
        conv => whnf
        refine VCall.of_data cd2 (nd _) ?_
        conv => whnf
        have hs0 : dv d = 0 → false = false := fun _ => rfl
        have hno : ¬ (¬ okN d ∨ false = true ∧ dv d = 0) := by rintro (h | ⟨h, _⟩); exact h hd; cases h
        have hgl := hsum g (by simp)
        have cg1 := fn_sDigits g (by omega)
        conv => whnf
        refine ⟨⟨⟨by omega, by omega⟩, cT_sz _⟩, ?_⟩
        conv => whnf
        refine ⟨[.s (.string ⟨g.toArray⟩)], rfl, ?_⟩
        by_cases hg : okN g
        · have hbg := hg.bl
          rw [decide_eq_true hg] at cg1
          have cg2 := fn_sNatRead g (by omega) hg.dig
          have cc := fn_sCmp (dv g) 1 (by omega) (by decide)
          conv => whnf
          refine VCall.of_data cg1 (nd _) ?_
          conv => whnf
          refine ⟨⟨⟨by omega, by omega⟩, cT_sz _⟩, ?_⟩
          conv => whnf
          refine ⟨[.s (.string ⟨g.toArray⟩)], rfl, ?_⟩
          conv => whnf
          refine VCall.of_data cg2 (nd _) ?_
          conv => whnf
          refine VCall.frz 61 cc rfl ⟨rfl, ⟨rfl, rfl, Nat.le_refl _, rfl⟩, trivial⟩ (nd _) ?_
          conv => whnf
          refine Br.mk (fun h7 => ?_) (fun h7 => ?_)
          · have h7 : dv g ≤ 1 := by
              simp only [decide_eq_true_eq] at h7
              have := cmpZ_pos' (a := dv g) (b := 1)
              omega
            rw [show parseS false [d, g] = none by show two2 _ _ _ = _; rw [two2, if_neg hno, if_pos (.inr (.inl h7))]]
            conv => whnf
            exact ⟨rfl, rfl, trivial, rfl⟩
          · have h7 : ¬ dv g ≤ 1 := by
              simp only [decide_eq_false_iff_not] at h7
              have := cmpZ_pos' (a := dv g) (b := 1)
              omega
            have cgc := fn_sGcd (dv d) (dv g) (by omega) (by omega)
            have hbgc : bl ((dv d).gcd (dv g)) ≤ 800 := Nat.le_trans (bl_mono (Nat.gcd_le_right _ (by omega))) hbg
            have cc2 := fn_sCmp ((dv d).gcd (dv g)) 1 (by omega) (by decide)
            conv => whnf
            refine VCall.of_data cgc (nd _) ?_
            conv => whnf
            refine VCall.frz 68 cc2 rfl ⟨rfl, ⟨rfl, rfl, Nat.le_refl _, rfl⟩, trivial⟩ (nd _) ?_
            conv => whnf
            refine Br.mk (fun h8 => ?_) (fun h8 => ?_)
            · have h8 : (dv d).gcd (dv g) ≠ 1 := fun e => by rw [cmpZ_zero.2 e] at h8; exact absurd h8 (by decide)
              rw [show parseS false [d, g] = none by show two2 _ _ _ = _; rw [two2, if_neg hno, if_pos (.inr (.inr h8))]]
              conv => whnf
              exact ⟨rfl, rfl, trivial, rfl⟩
            · have h8 : (dv d).gcd (dv g) = 1 := cmpZ_zero.1 (by simpa using h8)
              obtain ⟨p1, p2, p3⟩ := parts_of (s := false) (t := dv d) (b := dv g) (by omega) h8 hs0
              rw [show parseS false [d, g] = some (mkRat (sgn false (dv d)) (dv g)) by
                show two2 _ _ _ = _
                rw [two2, if_neg hno, if_neg (by rintro (h9 | h9 | h9); exact h9 hg; exact h7 h9; exact h9 h8)]]
              rw [show rOS (some (mkRat (sgn false (dv d)) (dv g))) = .ag [B false, nS (dv d), nS (dv g)] by rw [rOS, rS, p1, p2, p3]]
              conv => whnf
              exact ⟨rfl, rfl, rfl, rfl, trivial, rfl⟩
        · rw [decide_eq_false hg] at cg1
          rw [show parseS false [d, g] = none by show two2 _ _ _ = _; rw [two2, if_neg hno, if_pos (.inl hg)]]
          conv => whnf
          refine VCall.of_data cg1 (nd _) ?_
          conv => whnf
          exact ⟨rfl, rfl, trivial, rfl⟩
      · rw [decide_eq_false hd] at cd1
        rw [show parseS false [d, g] = none by show two2 _ _ _ = _; rw [two2, if_pos (.inl hd)]]
        conv => whnf
        refine ⟨⟨⟨by omega, by omega⟩, cT_sz _⟩, ?_⟩
        conv => whnf
        refine ⟨[.s (.string ⟨d.toArray⟩)], rfl, ?_⟩
        conv => whnf
        refine VCall.of_data cd1 (nd _) ?_
        conv => whnf
        exact ⟨rfl, rfl, trivial, rfl⟩
    · have hln : ((cT (d :: g :: e :: q)).length : Int) = q.length + 3 := by rw [cT_len, List.length_cons, List.length_cons, List.length_cons]; omega
      rw [show parseS false (d :: g :: e :: q) = none from rfl]
      conv => whnf
      refine Br.mk (fun h9 => ?_) (fun h9 => ?_)
      · conv => whnf
        exact ⟨rfl, rfl, trivial, rfl⟩
      · simp only [decide_eq_false_iff_not] at h9; omega
  | cons b r =>
    have hbz : (⟨(b :: r).toArray⟩ : ByteArray).size = r.length + 1 := by rw [bsize]; rfl
    refine Fn.intro (ks := [0,2,3,4,5,6,7,15,16,30,41,45,54,71]) hty rfl rfl rfl rfl rfl ?_
    conv => whnf
    refine Br.mk (fun h => ?_) (fun h => ?_)
    · conv => whnf
      refine ⟨⟨by omega, by rw [hbz]; omega⟩, ?_⟩
      conv => whnf
      refine Br.mk (fun h2 => ?_) (fun h2 => ?_)
      · have hB := h2
        have h2 : b = 45 := by
          have h3 : ((b.toNat : Nat) : Int) = 45 := by simp only [decide_eq_true_eq] at h2; exact h2
          exact uint8_ext (by show b.toNat = 45; omega)
        rw [show Lib.trimPrefix (b :: r) [45] = r by rw [h2]; rfl, pre_cons, decide_eq_true h2]
        have hl' : r.length ≤ 1000000000 := by rw [List.length_cons] at hs; omega
        conv => whnf
        refine ⟨⟨by omega, by rw [hbz]; omega, by omega⟩, ?_⟩
        rw [hB, bx, show ((b :: r).take (((⟨(b :: r).toArray⟩ : ByteArray).size : Int).toNat)).drop (1 : Int).toNat = r by
          rw [hbz, show (((r.length + 1 : Nat) : Int)).toNat = r.length + 1 from rfl]
          show (b :: r.take r.length).drop 1 = r
          rw [List.take_length]; rfl]
        conv => whnf
        have csp := fn_sCut r 47 hl'
        have hsum := splitB_sum 47 r
        have hne := splitB_ne 47 r
        refine VCall.of_data csp (nd _) ?_
        generalize splitB 47 r = ps at hsum hne
        rcases ps with _ | ⟨d, _ | ⟨g, _ | ⟨e, q⟩⟩⟩
        · exact absurd rfl hne
        · have hdl := hsum d (by simp)
          have hln : ((cT [d]).length : Int) = 1 := rfl
          have cd1 := fn_sDigits d (by omega)
          by_cases hd : okN d
          · rw [decide_eq_true hd] at cd1
            have cd2 := fn_sNatRead d (by omega) hd.dig
            have hbd := hd.bl
            have hld : ((cW .i64 (dg B9 (dv d))).length : Int) = (dg B9 (dv d)).length := by rw [cW_len]
            have hzd := dg_len_zero b9 (n := dv d)
            conv => whnf
            refine ⟨⟨⟨by omega, by omega⟩, cT_sz _⟩, ?_⟩
            conv => whnf
            refine ⟨[.s (.string ⟨d.toArray⟩)], rfl, ?_⟩
            conv => whnf
            refine VCall.of_data cd1 (nd _) ?_
            conv => whnf
            refine ⟨⟨⟨by omega, by omega⟩, cT_sz _⟩, ?_⟩
            conv => whnf
            refine ⟨[.s (.string ⟨d.toArray⟩)], rfl, ?_⟩
            conv => whnf
            refine VCall.of_data cd2 (nd _) ?_
            conv => whnf
            refine Br.mk (fun h => ?_) (fun h => ?_)
            · have h0 : dv d = 0 := by simp only [decide_eq_true_eq] at h; exact hzd.1 (by omega)
              rw [show parseS true [d] = none by first | (show one2 _ _ = _; rw [one2, if_pos (.inr ⟨rfl, h0⟩)]) | (show two2 _ _ _ = _; rw [two2, if_pos (.inr ⟨rfl, h0⟩)])]
              conv => whnf
              exact ⟨rfl, rfl, trivial, rfl⟩
            · have h0 : dv d ≠ 0 := fun e => by simp only [decide_eq_false_iff_not] at h; have := hzd.2 e; omega
              have hs0 : dv d = 0 → true = false := fun e => absurd e h0
              have hno : ¬ (¬ okN d ∨ true = true ∧ dv d = 0) := by rintro (h | ⟨_, h⟩); exact h hd; exact h0 h
              obtain ⟨p1, p2, p3⟩ := parts_of (s := true) (t := dv d) (b := 1) (by decide) (Nat.gcd_one_right _) hs0
              rw [show parseS true [d] = some (mkRat (sgn true (dv d)) 1) by show one2 _ _ = _; rw [one2, if_neg hno]]
              rw [show rOS (some (mkRat (sgn true (dv d)) 1)) = .ag [B true, nS (dv d), nS 1] by rw [rOS, rS, p1, p2, p3]]
              conv => whnf
              exact ⟨rfl, rfl, ⟨rfl, Nat.le_refl _, rfl⟩, rfl, trivial, rfl⟩
          · rw [decide_eq_false hd] at cd1
            rw [show parseS true [d] = none by show one2 _ _ = _; rw [one2, if_pos (.inl hd)]]
            conv => whnf
            refine ⟨⟨⟨by omega, by omega⟩, cT_sz _⟩, ?_⟩
            conv => whnf
            refine ⟨[.s (.string ⟨d.toArray⟩)], rfl, ?_⟩
            conv => whnf
            refine VCall.of_data cd1 (nd _) ?_
            conv => whnf
            exact ⟨rfl, rfl, trivial, rfl⟩
        · have hdl := hsum d (by simp)
          have hln : ((cT [d, g]).length : Int) = 2 := rfl
          have cd1 := fn_sDigits d (by omega)
          by_cases hd : okN d
          · rw [decide_eq_true hd] at cd1
            have cd2 := fn_sNatRead d (by omega) hd.dig
            have hbd := hd.bl
            have hld : ((cW .i64 (dg B9 (dv d))).length : Int) = (dg B9 (dv d)).length := by rw [cW_len]
            have hzd := dg_len_zero b9 (n := dv d)
            conv => whnf
            refine ⟨⟨⟨by omega, by omega⟩, cT_sz _⟩, ?_⟩
            conv => whnf
            refine ⟨[.s (.string ⟨d.toArray⟩)], rfl, ?_⟩
            conv => whnf
            refine VCall.of_data cd1 (nd _) ?_
            conv => whnf
            refine ⟨⟨⟨by omega, by omega⟩, cT_sz _⟩, ?_⟩
            conv => whnf
            refine ⟨[.s (.string ⟨d.toArray⟩)], rfl, ?_⟩
            conv => whnf
            refine VCall.of_data cd2 (nd _) ?_
            conv => whnf
            refine Br.mk (fun h => ?_) (fun h => ?_)
            · have h0 : dv d = 0 := by simp only [decide_eq_true_eq] at h; exact hzd.1 (by omega)
              rw [show parseS true [d, g] = none by first | (show one2 _ _ = _; rw [one2, if_pos (.inr ⟨rfl, h0⟩)]) | (show two2 _ _ _ = _; rw [two2, if_pos (.inr ⟨rfl, h0⟩)])]
              conv => whnf
              exact ⟨rfl, rfl, trivial, rfl⟩
            · have h0 : dv d ≠ 0 := fun e => by simp only [decide_eq_false_iff_not] at h; have := hzd.2 e; omega
              have hs0 : dv d = 0 → true = false := fun e => absurd e h0
              have hno : ¬ (¬ okN d ∨ true = true ∧ dv d = 0) := by rintro (h | ⟨_, h⟩); exact h hd; exact h0 h
              have hgl := hsum g (by simp)
              have cg1 := fn_sDigits g (by omega)
              conv => whnf
              refine ⟨⟨⟨by omega, by omega⟩, cT_sz _⟩, ?_⟩
              conv => whnf
              refine ⟨[.s (.string ⟨g.toArray⟩)], rfl, ?_⟩
              by_cases hg : okN g
              · have hbg := hg.bl
                rw [decide_eq_true hg] at cg1
                have cg2 := fn_sNatRead g (by omega) hg.dig
                have cc := fn_sCmp (dv g) 1 (by omega) (by decide)
                conv => whnf
                refine VCall.of_data cg1 (nd _) ?_
                conv => whnf
                refine ⟨⟨⟨by omega, by omega⟩, cT_sz _⟩, ?_⟩
                conv => whnf
                refine ⟨[.s (.string ⟨g.toArray⟩)], rfl, ?_⟩
                conv => whnf
                refine VCall.of_data cg2 (nd _) ?_
                conv => whnf
                refine VCall.frz 61 cc rfl ⟨rfl, ⟨rfl, rfl, Nat.le_refl _, rfl⟩, trivial⟩ (nd _) ?_
                conv => whnf
                refine Br.mk (fun h7 => ?_) (fun h7 => ?_)
                · have h7 : dv g ≤ 1 := by
                    simp only [decide_eq_true_eq] at h7
                    have := cmpZ_pos' (a := dv g) (b := 1)
                    omega
                  rw [show parseS true [d, g] = none by show two2 _ _ _ = _; rw [two2, if_neg hno, if_pos (.inr (.inl h7))]]
                  conv => whnf
                  exact ⟨rfl, rfl, trivial, rfl⟩
                · have h7 : ¬ dv g ≤ 1 := by
                    simp only [decide_eq_false_iff_not] at h7
                    have := cmpZ_pos' (a := dv g) (b := 1)
                    omega
                  have cgc := fn_sGcd (dv d) (dv g) (by omega) (by omega)
                  have hbgc : bl ((dv d).gcd (dv g)) ≤ 800 := Nat.le_trans (bl_mono (Nat.gcd_le_right _ (by omega))) hbg
                  have cc2 := fn_sCmp ((dv d).gcd (dv g)) 1 (by omega) (by decide)
                  conv => whnf
                  refine VCall.of_data cgc (nd _) ?_
                  conv => whnf
                  refine VCall.frz 68 cc2 rfl ⟨rfl, ⟨rfl, rfl, Nat.le_refl _, rfl⟩, trivial⟩ (nd _) ?_
                  conv => whnf
                  refine Br.mk (fun h8 => ?_) (fun h8 => ?_)
                  · have h8 : (dv d).gcd (dv g) ≠ 1 := fun e => by rw [cmpZ_zero.2 e] at h8; exact absurd h8 (by decide)
                    rw [show parseS true [d, g] = none by show two2 _ _ _ = _; rw [two2, if_neg hno, if_pos (.inr (.inr h8))]]
                    conv => whnf
                    exact ⟨rfl, rfl, trivial, rfl⟩
                  · have h8 : (dv d).gcd (dv g) = 1 := cmpZ_zero.1 (by simpa using h8)
                    obtain ⟨p1, p2, p3⟩ := parts_of (s := true) (t := dv d) (b := dv g) (by omega) h8 hs0
                    rw [show parseS true [d, g] = some (mkRat (sgn true (dv d)) (dv g)) by
                      show two2 _ _ _ = _
                      rw [two2, if_neg hno, if_neg (by rintro (h9 | h9 | h9); exact h9 hg; exact h7 h9; exact h9 h8)]]
                    rw [show rOS (some (mkRat (sgn true (dv d)) (dv g))) = .ag [B true, nS (dv d), nS (dv g)] by rw [rOS, rS, p1, p2, p3]]
                    conv => whnf
                    exact ⟨rfl, rfl, rfl, rfl, trivial, rfl⟩
              · rw [decide_eq_false hg] at cg1
                rw [show parseS true [d, g] = none by show two2 _ _ _ = _; rw [two2, if_neg hno, if_pos (.inl hg)]]
                conv => whnf
                refine VCall.of_data cg1 (nd _) ?_
                conv => whnf
                exact ⟨rfl, rfl, trivial, rfl⟩
          · rw [decide_eq_false hd] at cd1
            rw [show parseS true [d, g] = none by show two2 _ _ _ = _; rw [two2, if_pos (.inl hd)]]
            conv => whnf
            refine ⟨⟨⟨by omega, by omega⟩, cT_sz _⟩, ?_⟩
            conv => whnf
            refine ⟨[.s (.string ⟨d.toArray⟩)], rfl, ?_⟩
            conv => whnf
            refine VCall.of_data cd1 (nd _) ?_
            conv => whnf
            exact ⟨rfl, rfl, trivial, rfl⟩
        · have hln : ((cT (d :: g :: e :: q)).length : Int) = q.length + 3 := by rw [cT_len, List.length_cons, List.length_cons, List.length_cons]; omega
          rw [show parseS true (d :: g :: e :: q) = none from rfl]
          conv => whnf
          refine Br.mk (fun h9 => ?_) (fun h9 => ?_)
          · conv => whnf
            exact ⟨rfl, rfl, trivial, rfl⟩
          · simp only [decide_eq_false_iff_not] at h9; omega
      · have hB := h2
        have h2 : b ≠ 45 := fun e => by
          have h3 : ¬ ((b.toNat : Nat) : Int) = 45 := by simp only [decide_eq_false_iff_not] at h2; exact h2
          rw [e] at h3; exact h3 rfl
        rw [show Lib.trimPrefix (b :: r) [45] = b :: r by unfold Lib.trimPrefix; rw [pre_cons, decide_eq_false h2]; rfl, pre_cons, decide_eq_false h2]
        have hl' : (b :: r).length ≤ 1000000000 := hs
        conv => whnf
        rw [hB]
        have csp := fn_sCut (b :: r) 47 hl'
        have hsum := splitB_sum 47 (b :: r)
        have hne := splitB_ne 47 (b :: r)
        refine VCall.of_data csp (nd _) ?_
        generalize splitB 47 (b :: r) = ps at hsum hne
        rcases ps with _ | ⟨d, _ | ⟨g, _ | ⟨e, q⟩⟩⟩
        · exact absurd rfl hne
        · have hdl := hsum d (by simp)
          have hln : ((cT [d]).length : Int) = 1 := rfl
          have cd1 := fn_sDigits d (by omega)
          by_cases hd : okN d
          · rw [decide_eq_true hd] at cd1
            have cd2 := fn_sNatRead d (by omega) hd.dig
            have hbd := hd.bl
            have hld : ((cW .i64 (dg B9 (dv d))).length : Int) = (dg B9 (dv d)).length := by rw [cW_len]
            have hzd := dg_len_zero b9 (n := dv d)
            conv => whnf
            refine ⟨⟨⟨by omega, by omega⟩, cT_sz _⟩, ?_⟩
            conv => whnf
            refine ⟨[.s (.string ⟨d.toArray⟩)], rfl, ?_⟩
            conv => whnf
            refine VCall.of_data cd1 (nd _) ?_
            conv => whnf
            refine ⟨⟨⟨by omega, by omega⟩, cT_sz _⟩, ?_⟩
            conv => whnf
            refine ⟨[.s (.string ⟨d.toArray⟩)], rfl, ?_⟩
            conv => whnf
            refine VCall.of_data cd2 (nd _) ?_
            conv => whnf
            have hs0 : dv d = 0 → false = false := fun _ => rfl
            have hno : ¬ (¬ okN d ∨ false = true ∧ dv d = 0) := by rintro (h | ⟨h, _⟩); exact h hd; cases h
            obtain ⟨p1, p2, p3⟩ := parts_of (s := false) (t := dv d) (b := 1) (by decide) (Nat.gcd_one_right _) hs0
            rw [show parseS false [d] = some (mkRat (sgn false (dv d)) 1) by show one2 _ _ = _; rw [one2, if_neg hno]]
            rw [show rOS (some (mkRat (sgn false (dv d)) 1)) = .ag [B false, nS (dv d), nS 1] by rw [rOS, rS, p1, p2, p3]]
            conv => whnf
            exact ⟨rfl, rfl, ⟨rfl, Nat.le_refl _, rfl⟩, rfl, trivial, rfl⟩
          · rw [decide_eq_false hd] at cd1
            rw [show parseS false [d] = none by show one2 _ _ = _; rw [one2, if_pos (.inl hd)]]
            conv => whnf
            refine ⟨⟨⟨by omega, by omega⟩, cT_sz _⟩, ?_⟩
            conv => whnf
            refine ⟨[.s (.string ⟨d.toArray⟩)], rfl, ?_⟩
            conv => whnf
            refine VCall.of_data cd1 (nd _) ?_
            conv => whnf
            exact ⟨rfl, rfl, trivial, rfl⟩
        · have hdl := hsum d (by simp)
          have hln : ((cT [d, g]).length : Int) = 2 := rfl
          have cd1 := fn_sDigits d (by omega)
          by_cases hd : okN d
          · rw [decide_eq_true hd] at cd1
            have cd2 := fn_sNatRead d (by omega) hd.dig
            have hbd := hd.bl
            have hld : ((cW .i64 (dg B9 (dv d))).length : Int) = (dg B9 (dv d)).length := by rw [cW_len]
            have hzd := dg_len_zero b9 (n := dv d)
            conv => whnf
            refine ⟨⟨⟨by omega, by omega⟩, cT_sz _⟩, ?_⟩
            conv => whnf
            refine ⟨[.s (.string ⟨d.toArray⟩)], rfl, ?_⟩
            conv => whnf
            refine VCall.of_data cd1 (nd _) ?_
            conv => whnf
            refine ⟨⟨⟨by omega, by omega⟩, cT_sz _⟩, ?_⟩
            conv => whnf
            refine ⟨[.s (.string ⟨d.toArray⟩)], rfl, ?_⟩
            conv => whnf
            refine VCall.of_data cd2 (nd _) ?_
            conv => whnf
            have hs0 : dv d = 0 → false = false := fun _ => rfl
            have hno : ¬ (¬ okN d ∨ false = true ∧ dv d = 0) := by rintro (h | ⟨h, _⟩); exact h hd; cases h
            have hgl := hsum g (by simp)
            have cg1 := fn_sDigits g (by omega)
            conv => whnf
            refine ⟨⟨⟨by omega, by omega⟩, cT_sz _⟩, ?_⟩
            conv => whnf
            refine ⟨[.s (.string ⟨g.toArray⟩)], rfl, ?_⟩
            by_cases hg : okN g
            · have hbg := hg.bl
              rw [decide_eq_true hg] at cg1
              have cg2 := fn_sNatRead g (by omega) hg.dig
              have cc := fn_sCmp (dv g) 1 (by omega) (by decide)
              conv => whnf
              refine VCall.of_data cg1 (nd _) ?_
              conv => whnf
              refine ⟨⟨⟨by omega, by omega⟩, cT_sz _⟩, ?_⟩
              conv => whnf
              refine ⟨[.s (.string ⟨g.toArray⟩)], rfl, ?_⟩
              conv => whnf
              refine VCall.of_data cg2 (nd _) ?_
              conv => whnf
              refine VCall.frz 61 cc rfl ⟨rfl, ⟨rfl, rfl, Nat.le_refl _, rfl⟩, trivial⟩ (nd _) ?_
              conv => whnf
              refine Br.mk (fun h7 => ?_) (fun h7 => ?_)
              · have h7 : dv g ≤ 1 := by
                  simp only [decide_eq_true_eq] at h7
                  have := cmpZ_pos' (a := dv g) (b := 1)
                  omega
                rw [show parseS false [d, g] = none by show two2 _ _ _ = _; rw [two2, if_neg hno, if_pos (.inr (.inl h7))]]
                conv => whnf
                exact ⟨rfl, rfl, trivial, rfl⟩
              · have h7 : ¬ dv g ≤ 1 := by
                  simp only [decide_eq_false_iff_not] at h7
                  have := cmpZ_pos' (a := dv g) (b := 1)
                  omega
                have cgc := fn_sGcd (dv d) (dv g) (by omega) (by omega)
                have hbgc : bl ((dv d).gcd (dv g)) ≤ 800 := Nat.le_trans (bl_mono (Nat.gcd_le_right _ (by omega))) hbg
                have cc2 := fn_sCmp ((dv d).gcd (dv g)) 1 (by omega) (by decide)
                conv => whnf
                refine VCall.of_data cgc (nd _) ?_
                conv => whnf
                refine VCall.frz 68 cc2 rfl ⟨rfl, ⟨rfl, rfl, Nat.le_refl _, rfl⟩, trivial⟩ (nd _) ?_
                conv => whnf
                refine Br.mk (fun h8 => ?_) (fun h8 => ?_)
                · have h8 : (dv d).gcd (dv g) ≠ 1 := fun e => by rw [cmpZ_zero.2 e] at h8; exact absurd h8 (by decide)
                  rw [show parseS false [d, g] = none by show two2 _ _ _ = _; rw [two2, if_neg hno, if_pos (.inr (.inr h8))]]
                  conv => whnf
                  exact ⟨rfl, rfl, trivial, rfl⟩
                · have h8 : (dv d).gcd (dv g) = 1 := cmpZ_zero.1 (by simpa using h8)
                  obtain ⟨p1, p2, p3⟩ := parts_of (s := false) (t := dv d) (b := dv g) (by omega) h8 hs0
                  rw [show parseS false [d, g] = some (mkRat (sgn false (dv d)) (dv g)) by
                    show two2 _ _ _ = _
                    rw [two2, if_neg hno, if_neg (by rintro (h9 | h9 | h9); exact h9 hg; exact h7 h9; exact h9 h8)]]
                  rw [show rOS (some (mkRat (sgn false (dv d)) (dv g))) = .ag [B false, nS (dv d), nS (dv g)] by rw [rOS, rS, p1, p2, p3]]
                  conv => whnf
                  exact ⟨rfl, rfl, rfl, rfl, trivial, rfl⟩
            · rw [decide_eq_false hg] at cg1
              rw [show parseS false [d, g] = none by show two2 _ _ _ = _; rw [two2, if_neg hno, if_pos (.inl hg)]]
              conv => whnf
              refine VCall.of_data cg1 (nd _) ?_
              conv => whnf
              exact ⟨rfl, rfl, trivial, rfl⟩
          · rw [decide_eq_false hd] at cd1
            rw [show parseS false [d, g] = none by show two2 _ _ _ = _; rw [two2, if_pos (.inl hd)]]
            conv => whnf
            refine ⟨⟨⟨by omega, by omega⟩, cT_sz _⟩, ?_⟩
            conv => whnf
            refine ⟨[.s (.string ⟨d.toArray⟩)], rfl, ?_⟩
            conv => whnf
            refine VCall.of_data cd1 (nd _) ?_
            conv => whnf
            exact ⟨rfl, rfl, trivial, rfl⟩
        · have hln : ((cT (d :: g :: e :: q)).length : Int) = q.length + 3 := by rw [cT_len, List.length_cons, List.length_cons, List.length_cons]; omega
          rw [show parseS false (d :: g :: e :: q) = none from rfl]
          conv => whnf
          refine Br.mk (fun h9 => ?_) (fun h9 => ?_)
          · conv => whnf
            exact ⟨rfl, rfl, trivial, rfl⟩
          · simp only [decide_eq_false_iff_not] at h9; omega
    · rw [hbz] at h; simp only [decide_eq_false_iff_not] at h; omega

end Go.V
/- The reference: lists of fractions, losses, servers. -/
namespace Go.V
open Go.Proofs Go.RowKit
set_option maxRecDepth 10000
set_option maxHeartbeats 1000000

theorem fn_sList (xs : List (List UInt8)) (hl : xs.length ≤ 1000000000000) (hs : ∀ x, x ∈ xs → x.length ≤ 1000000000) : Fn Tryz.prog 82 [lT xs] [] (.tup [lS ((rdRats xs).getD []), B (rdRats xs).isSome]) [] := by
  have hl2 : ((cT xs).length : Int) = xs.length := by rw [cT_len]
  refine Fn.intro (ks := [0,2,3,4,5,6,7,10,13,14,15,26]) hty rfl rfl rfl rfl rfl ?_
  conv => whnf
  refine Br.mk (fun h => ?_) (fun h => ?_)
  · have h : 300 < xs.length := by simp only [decide_eq_true_eq] at h; omega
    rw [rdRats, if_pos h]
    conv => whnf
    exact ⟨rfl, trivial, rfl⟩
  · have h : ¬ 300 < xs.length := by simp only [decide_eq_false_iff_not] at h; omega
    rw [rdRats, if_neg h]
    conv => whnf
    refine VLoop.ren 11 30 rfl ?_
    refine VLoop.inv hty (S := List Rat) (fun s => [(14, I s.length), (13, I xs.length), (4, .ls 30 0 s.length 3), (0, lT xs)]) (fun s => [(30, .row true 3 (cS s))]) (fun s => s.length ≤ xs.length ∧ allO rdRat (xs.take s.length) = some s) (fun s => xs.length - s.length) [] ⟨Nat.zero_le _, rfl⟩
      ⟨rfl, by show AV.d (.s (.int .i64 ((cT xs).length : Int))) = _; rw [cT_len], rfl, rfl, trivial⟩ ⟨rfl, trivial⟩ ?_
    rintro s ⟨hi, hq⟩
    obtain ⟨i, ei⟩ : ∃ i, s.length = i := ⟨_, rfl⟩
    rw [ei] at hi hq
    rw [ei]
    conv => whnf
    refine Br.mk (fun h2 => ?_) (fun h2 => ?_)
    · have h2 : i < xs.length := by simp only [decide_eq_true_eq] at h2; omega
      obtain ⟨x, ex⟩ : ∃ x, xs.getD i [] = x := ⟨_, rfl⟩
      have hxm : x ∈ xs := by rw [← ex, List.getD_eq_getElem?_getD, List.getElem?_eq_getElem h2]; exact List.getElem_mem h2
      have et : xs.take (i + 1) = xs.take i ++ [x] := by rw [List.take_succ_eq_append_getElem h2]; subst ex; rw [List.getD_eq_getElem?_getD, List.getElem?_eq_getElem h2]; rfl
      have cr := fn_sParse x (hs x hxm)
      conv => whnf
      refine ⟨⟨⟨by omega, by omega⟩, cT_sz _⟩, ?_⟩
      conv => whnf
      refine ⟨_, cT_as (x := x) h2 ex, ?_⟩
      cases hr : rdRat x with
      | none =>
        rw [hr] at cr
        rw [allO_none hxm hr]
        conv => whnf
        refine VCall.of_data cr (ndT (fun k => rfl)) ?_
        conv => whnf
        exact ⟨rfl, trivial, rfl⟩
      | some q =>
        rw [hr] at cr
        conv => whnf
        refine VCall.of_data cr (ndT (fun k => rfl)) ?_
        conv => whnf
        refine Sub.full rfl ?_
        conv => whnf
        refine Sub.full (by rw [cS_len]; exact ei) ?_
        conv => whnf
        refine ⟨by show (i + 1) * 56 ≤ _; omega, ?_⟩
        conv => whnf
        refine Wr.i64 (y := ((i + 1 : Nat) : Int)) rfl (by omega) (by omega) ?_
        conv => whnf
        refine ⟨s ++ [q], ⟨by rw [List.length_append, List.length_singleton]; omega, ?_⟩, by show xs.length - (s ++ [q]).length < xs.length - i; rw [List.length_append, List.length_singleton]; omega, ⟨?_, rfl, ?_, rfl, trivial⟩, ?_, trivial⟩
        · rw [List.length_append, List.length_singleton, ei, et]
          exact allO_snoc hq hr
        · show AV.d (.s (.int .i64 ((i + 1 : Nat) : Int))) = I ((s ++ [q]).length : Nat)
          rw [List.length_append, List.length_singleton, ei]
        · show AV.ls 30 0 (i + 1) 3 = AV.ls 30 0 (s ++ [q]).length 3
          rw [List.length_append, List.length_singleton, ei]
        · show Ob.row true 3 (cS s ++ cS [q]) = _
          rw [cS_append]
    · have h2 : i = xs.length := by simp only [decide_eq_false_iff_not] at h2; omega
      rw [h2, List.take_length] at hq
      rw [hq]
      conv => whnf
      refine ⟨⟨rfl, by rw [cS_len]; omega, ?_⟩, rfl, trivial, rfl⟩
      rw [List.drop_zero, List.take_of_length_le (by rw [cS_len]; omega)]; rfl

/-- A loss as a quotient of naturals. -/
def lossT (load : Rat) : Nat → Nat
  | 0 => 1
  | n + 1 => tp load * lossT load n
def lossB (load : Rat) : Nat → Nat
  | 0 => 1
  | n + 1 => (n + 1) * load.den * lossB load n + tp load * lossT load n

theorem lossB_pos (load : Rat) : ∀ n, lossB load n ≠ 0
  | 0 => by show (1 : Nat) ≠ 0; decide
  | n + 1 => by
    have h1 := lossB_pos load n
    have h2 : (n + 1) * load.den * lossB load n ≠ 0 := Nat.mul_ne_zero (Nat.mul_ne_zero (by omega) load.den_nz) h1
    show (n + 1) * load.den * lossB load n + _ ≠ 0
    omega

theorem loss_bl {load : Rat} : ∀ n, n < 1000000 → bl (lossT load n) ≤ n * (sz load + 23) + 1 ∧ bl (lossB load n) ≤ n * (sz load + 23) + 1
  | 0, _ => by constructor <;> show bl 1 ≤ _ <;> rw [bl_one] <;> omega
  | n + 1, hn => by
    obtain ⟨h1, h2⟩ := loss_bl (load := load) n (by omega)
    have b1 := bl_tp load
    have b2 := bl_den load
    have h3 := bl_mul (tp load) (lossT load n)
    have h4 := bl_mul ((n + 1) * load.den) (lossB load n)
    have h5 := bl_mul (n + 1) load.den
    have h6 : bl (n + 1) ≤ 20 := bl_le (by omega)
    have h7 := bl_add ((n + 1) * load.den * lossB load n) (tp load * lossT load n)
    have h8 : (n + 1) * (sz load + 23) = n * (sz load + 23) + (sz load + 23) := Nat.succ_mul _ _
    constructor
    · show bl (tp load * lossT load n) ≤ _
      omega
    · show bl ((n + 1) * load.den * lossB load n + tp load * lossT load n) ≤ _
      omega

theorem mkRat_div (t b : Nat) : mkRat (sgn false t) b = ((t : Int) : Rat) / ((b : Int) : Rat) := by
  show mkRat (t : Int) b = _
  rw [Rat.mkRat_eq_div]
  rfl

theorem quot_step {P T D B k : Rat} (hD : D ≠ 0) (hB : B ≠ 0) (h1 : P / D * (T / B) + k ≠ 0) (h2 : k * D * B + P * T ≠ 0) : P / D * (T / B) / (P / D * (T / B) + k) = P * T / (k * D * B + P * T) := by
  have e1 : P / D * (T / B) = P * T / (D * B) := by grind
  have hDB : D * B ≠ 0 := by grind
  rw [e1] at h1 ⊢
  grind

theorem lossQ_eq {load : Rat} (h : 0 < load) : ∀ n, lossQ load n = mkRat (sgn false (lossT load n)) (lossB load n)
  | 0 => by
    show (1 : Rat) = mkRat ((1 : Nat) : Int) 1
    decide
  | n + 1 => by
    have ih := lossQ_eq h n
    have hden := lossQ_den h n
    have hl : load = ((tp load : Int) : Rat) / ((load.den : Int) : Rat) := by
      rw [← mkRat_div]
      have h1 : ng load = false := by
        cases e : ng load
        · rfl
        · exfalso
          have h2 := sgI_pos.2 h
          unfold sgI at h2
          rw [e] at h2
          split at h2
          · omega
          · simp at h2
      have h3 := mk_parts load
      rw [h1] at h3
      exact h3.symm
    have hB : ((lossB load n : Int) : Rat) ≠ 0 := fun e => lossB_pos load n (by exact_mod_cast e)
    have hB1 : ((lossB load (n + 1) : Int) : Rat) ≠ 0 := fun e => lossB_pos load (n + 1) (by exact_mod_cast e)
    have hD : ((load.den : Int) : Rat) ≠ 0 := fun e => load.den_nz (by exact_mod_cast e)
    have eB : ((lossB load (n + 1) : Int) : Rat) = (((n + 1 : Nat) : Int) : Rat) * ((load.den : Int) : Rat) * ((lossB load n : Int) : Rat) + ((tp load : Int) : Rat) * ((lossT load n : Int) : Rat) := by
      show ((((n + 1) * load.den * lossB load n + tp load * lossT load n : Nat) : Int) : Rat) = _
      push_cast
      rfl
    have eT : ((lossT load (n + 1) : Int) : Rat) = ((tp load : Int) : Rat) * ((lossT load n : Int) : Rat) := by
      show (((tp load * lossT load n : Nat) : Int) : Rat) = _
      push_cast
      rfl
    rw [mkRat_div] at ih ⊢
    rw [eT]
    rw [eB] at hB1 ⊢
    show load * lossQ load n / (load * lossQ load n + ((n + 1 : Nat) : Int)) = _
    rw [ih] at hden ⊢
    generalize ((lossT load n : Int) : Rat) = T at *
    generalize ((lossB load n : Int) : Rat) = Bn at *
    generalize ((tp load : Int) : Rat) = P at *
    generalize ((load.den : Int) : Rat) = D at *
    rw [hl] at hden ⊢
    exact quot_step hD hB hden hB1

theorem fn_sLossOn (load : Rat) (n t b : Nat) (hm : sz load ≤ 10000) (hn : n < 1000000) (ht : bl t ≤ 1000000000) (hb : bl b ≤ 1000000000) :
    Fn Tryz.prog 186 [rS load, I (n : Nat), nS t, nS b] [] (.tup [nS (tp load * t), nS (n * load.den * b + tp load * t)]) [] := by
  have b1 := bl_tp load
  have b2 := bl_den load
  have m1 := fn_sMul (tp load) t (by omega) (by omega)
  have hn6 : bl n ≤ 20 := bl_le (by omega)
  have k1 := bl_mul (tp load) t
  have k2 := bl_mul n load.den
  have k3 := bl_mul (n * load.den) b
  have m2 := fn_sMul n load.den (by omega) (by omega)
  have m3 := fn_sMul (n * load.den) b (by omega) (by omega)
  have cn := fn_sNatD n (by omega)
  have ca := (fn_sAddL (n * load.den * b) (tp load * t) (by omega) (by omega)).freeze (by rw [cW_len]; omega)
  rw [List.drop_zero, List.take_of_length_le (by rw [cW_len]; omega)] at ca
  refine Fn.intro (ks := [0,1,2,3,4,8,9,10]) hty rfl rfl rfl rfl rfl ?_
  conv => whnf
  refine VCall.of_data m1 (nd _) ?_
  conv => whnf
  refine VDraw.go hmo hty 12 [] rfl ?_
  conv => whnf
  refine QCall.of_data cn (nd _) ?_
  conv => whnf
  refine QCall.of_data m2 (nd _) ?_
  conv => whnf
  refine QCall.of_data m3 (nd _) ?_
  conv => whnf
  refine QCall.of_data ca (nd _) ?_
  conv => whnf
  exact ⟨rfl, rfl, trivial, rfl⟩

theorem fn_sLoss (load : Rat) (n : Nat) (h : 0 < load) (hm : sz load ≤ 10000) (hn : n ≤ 30) : Fn Tryz.prog 140 [rS load, I (n : Nat)] [] (rS (lossQ load n)) [] := by
  rw [lossQ_eq h]
  refine Fn.intro (ks := [0,1,2,4,5,6,7,12]) hty rfl rfl rfl rfl rfl ?_
  conv => whnf
  refine VLoop.frz (t' := [(7, I 1), (6, nS 1), (5, .ls 8 0 1 1), (4, .lp 4 0), (2, .lp 2 0), (1, I (n : Nat)), (0, rS load)]) 9 rfl ⟨rfl, .inl rfl, rfl, .inr ⟨rfl, rfl, Nat.le_refl _, rfl⟩, rfl, .inl rfl, rfl, .inl rfl, rfl, .inl rfl, rfl, .inl rfl, rfl, .inl rfl, trivial⟩ ?_
  refine VLoop.frz (t' := [(7, I 1), (6, nS 1), (5, nS 1), (4, .lp 4 0), (2, .lp 2 0), (1, I (n : Nat)), (0, rS load)]) 8 rfl ⟨rfl, .inl rfl, rfl, .inl rfl, rfl, .inr ⟨rfl, rfl, Nat.le_refl _, rfl⟩, rfl, .inl rfl, rfl, .inl rfl, rfl, .inl rfl, rfl, .inl rfl, trivial⟩ ?_
  refine VLoop.inv hty (S := Nat) (fun k => [(7, I ((k + 1 : Nat) : Int)), (6, nS (lossB load k)), (5, nS (lossT load k)), (4, .lp 4 0), (2, .lp 2 0), (1, I (n : Nat))]) (fun _ => [(4, .box true (zeros (ty 93).zero)), (2, .box true [B (ng load), nS (tp load), nS load.den])])
    (fun k => k ≤ n) (fun k => n - k) 0 (Nat.zero_le _) ⟨rfl, rfl, rfl, rfl, rfl, rfl, trivial⟩ ⟨rfl, rfl, trivial⟩ ?_
  intro k hk
  obtain ⟨s1, s2⟩ := loss_bl (load := load) k (by omega)
  have hks : k * (sz load + 23) ≤ 30 * 10023 := Nat.mul_le_mul (by omega) (by omega)
  conv => whnf
  refine Br.mk (fun h2 => ?_) (fun h2 => ?_)
  · have h2 : k < n := by simp only [decide_eq_true_eq] at h2; omega
    have co := fn_sLossOn load (k + 1) (lossT load k) (lossB load k) hm (by omega) (by omega) (by omega)
    conv => whnf
    refine VCall.of_data co (ndT (fun k => rfl)) ?_
    conv => whnf
    refine Wr.i64 (y := ((k + 1 + 1 : Nat) : Int)) rfl (by omega) (by omega) ?_
    conv => whnf
    exact ⟨k + 1, h2, by show n - (k + 1) < n - k; omega, ⟨rfl, rfl, rfl, rfl, rfl, rfl, trivial⟩, rfl, rfl, trivial⟩
  · have h2 : k = n := by simp only [decide_eq_false_iff_not] at h2; omega
    subst h2
    have cm := fn_sMake false (lossT load k) (lossB load k) (by omega) (by omega) (lossB_pos load k)
    conv => whnf
    refine VCall.of_data cm (ndA fun k => rfl) ?_
    conv => whnf
    exact ⟨rfl, rfl, rfl, trivial, rfl⟩

end Go.V
