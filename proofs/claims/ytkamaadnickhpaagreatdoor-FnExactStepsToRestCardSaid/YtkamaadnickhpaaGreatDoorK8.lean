/- Part 8: the abstract machine, its soundness, contracts of functions. -/
import Derived.Test.YtkamaadnickhpaaGreatDoorK7
import Derived.Test.YtkamaadnickhpaaGreatDoorK4
set_option linter.unusedVariables false
set_option linter.unusedSimpArgs false
namespace Go.V
open Go.Proofs Go.RowKit
set_option maxRecDepth 10000
set_option maxHeartbeats 1000000
theorem fn_rminus (q : Rat) (hs : sz q ≤ 1000000000000) : Fn Tryz.prog 182 [rI q] [] (rI (-q)) [] := by
 have hz := dg_len_zero b32 (n := tp q)
 obtain ⟨h1, h2, h3⟩ := neg_parts q
 have e : (decide (0 < ((cW .u32 (dg B32 (tp q))).length : Int))) = decide (tp q ≠ 0) := decide_eq_decide.2 (by rw [cW_len]; constructor <;> intro h <;> omega)
 refine Fn.intro (ks := [0,1,2]) hty rfl rfl rfl rfl rfl ?_
 conv => whnf
 refine Br.mk (fun h => ?_) (fun h => ?_)
 ·conv => whnf
  refine ⟨?_, ?_, ?_, trivial, rfl⟩
  ·rw [e, h1]
   have h' : ng q = false := by simpa using h
   rw [h']; rfl
  ·rw [h2]
  ·rw [h3]
 ·conv => whnf
  refine ⟨?_, ?_, ?_, trivial, rfl⟩
  ·rw [h1]
   have h' : ng q = true := by simpa using h
   rw [h']; rfl
  ·rw [h2]
  ·rw [h3]
theorem fn_sOpp (q : Rat) (hs : sz q ≤ 1000000000000) : Fn Tryz.prog 172 [rS q] [] (rS (-q)) [] := by
 have hz := dg_len_zero b9 (n := tp q)
 obtain ⟨h1, h2, h3⟩ := neg_parts q
 have e : (decide (0 < ((cW .i64 (dg B9 (tp q))).length : Int))) = decide (tp q ≠ 0) := decide_eq_decide.2 (by rw [cW_len]; constructor <;> intro h <;> omega)
 refine Fn.intro (ks := [0,1,2]) hty rfl rfl rfl rfl rfl ?_
 conv => whnf
 refine Br.mk (fun h => ?_) (fun h => ?_)
 ·conv => whnf
  refine ⟨?_, ?_, ?_, trivial, rfl⟩
  ·rw [e, h1]
   have h' : ng q = false := by simpa using h
   rw [h']; rfl
  ·rw [h2]
  ·rw [h3]
 ·conv => whnf
  refine ⟨?_, ?_, ?_, trivial, rfl⟩
  ·rw [h1]
   have h' : ng q = true := by simpa using h
   rw [h']; rfl
  ·rw [h2]
  ·rw [h3]
theorem fn_rsub (p q : Rat) (hs : sz p + sz q ≤ 99999999999) : Fn Tryz.prog 153 [rI p, rI q] [] (rI (p - q)) [] := by
 have c1 := fn_rminus q (by omega)
 have c2 := fn_radd p (-q) (by rw [sz_neg]; exact hs)
 rw [← Rat.sub_eq_add_neg] at c2
 refine Fn.intro (ks := [0,1,2,3,4]) hty rfl rfl rfl rfl rfl ?_
 conv => whnf
 refine VDraw.go hmo hty 4 [] rfl ?_
 conv => whnf
 refine QCall.of_data c1 (ndA fun k => rfl) ?_
 conv => whnf
 refine QCall.of_data c2 (ndA fun k => rfl) ?_
 conv => whnf
 exact ⟨rfl, rfl, rfl, trivial, rfl⟩
theorem fn_sMinus (p q : Rat) (hs : sz p + sz q ≤ 99999999999) : Fn Tryz.prog 138 [rS p, rS q] [] (rS (p - q)) [] := by
 have c1 := fn_sOpp q (by omega)
 have c2 := fn_sSum p (-q) (by rw [sz_neg]; exact hs)
 rw [← Rat.sub_eq_add_neg] at c2
 refine Fn.intro (ks := [0,1,2,3,4]) hty rfl rfl rfl rfl rfl ?_
 conv => whnf
 refine VDraw.go hmo hty 4 [] rfl ?_
 conv => whnf
 refine QCall.of_data c1 (ndA fun k => rfl) ?_
 conv => whnf
 refine QCall.of_data c2 (ndA fun k => rfl) ?_
 conv => whnf
 exact ⟨rfl, rfl, rfl, trivial, rfl⟩
theorem cmpZ_zero' {a b : Nat} : cmpZ a b = 0 ↔ a = b := by
 unfold cmpZ; split
 ·simp; omega
 ·split
  ·simp; omega
  ·simp; omega
theorem fn_sEqual (p q : Rat) (hp : sz p ≤ 10000000000) (hq : sz q ≤ 10000000000) : Fn Tryz.prog 134 [rS p, rS q] [] (B (decide (p = q))) [] := by
 have b1 := bl_tp p
 have b2 := bl_den p
 have b3 := bl_tp q
 have b4 := bl_den q
 have k1 := bl_mul (tp p) q.den
 have k2 := bl_mul (tp q) p.den
 have m1 := fn_sMul (tp p) q.den (by omega) (by omega)
 have m2 := fn_sMul (tp q) p.den (by omega) (by omega)
 have cc := fn_sCmp (tp p * q.den) (tp q * p.den) (by omega) (by omega)
 obtain ⟨c, ec⟩ : ∃ x, cmpZ (tp p * q.den) (tp q * p.den) = x := ⟨_, rfl⟩
 have e := eq_cross p q
 rw [← cmpZ_zero', ec] at e
 rw [ec] at cc
 refine Fn.intro (ks := [0,1,2,3,4]) hty rfl rfl rfl rfl rfl ?_
 conv => whnf
 refine VDraw.go hmo hty 20 [] rfl ?_
 conv => whnf
 by_cases h : ng p = ng q
 ·rw [show (ng p == ng q) = true by simpa using h]
  conv => whnf
  refine QCall.of_data m1 (nd _) ?_
  conv => whnf
  refine QCall.of_data m2 (nd _) ?_
  conv => whnf
  refine QCall.of_data cc (nd _) ?_
  conv => whnf
  exact ⟨by rw [decide_eq_decide.2 (show p = q ↔ c = 0 from e.trans ⟨fun x => x.2, fun x => ⟨h, x⟩⟩)], trivial, rfl⟩
 ·rw [show (ng p == ng q) = false by simpa using h]
  conv => whnf
  exact ⟨by rw [decide_eq_false (fun x => h (e.1 x).1)], trivial, rfl⟩
def absQ (q : Rat) : Rat := if q < 0 then -q else q
theorem absQ_parts (q : Rat) : ng (absQ q) = false ∧ tp (absQ q) = tp q ∧ (absQ q).den = q.den := by
 unfold absQ
 by_cases h : q < 0
 ·rw [if_pos h]
  obtain ⟨h1, h2, h3⟩ := neg_parts q
  have : ng q = true := by unfold ng; simp; have := Rat.num_nonneg (q := q); have h2 := Rat.not_le.2 h; exact Int.not_le.1 fun e => h2 (this.1 e)
  rw [h1, this]
  exact ⟨rfl, h2, h3⟩
 ·rw [if_neg h]
  refine ⟨?_, rfl, rfl⟩
  unfold ng
  rw [decide_eq_false]
  intro h'
  exact h (Rat.not_le.1 fun e => by have := (Rat.num_nonneg (q := q)).2 e; omega)
theorem sz_abs (q : Rat) : sz (absQ q) = sz q := by
 obtain ⟨_, h2, h3⟩ := absQ_parts q
 unfold sz; rw [h2, h3]
theorem sz_sN {m n : Nat} {f : Nat → Rat} (h : ∀ i, i < n → sz (f i) ≤ m) : ∀ k, k ≤ n → sz (sN k f) ≤ k * (m + 1) + 1
 | 0, _ => by show sz (0 : Rat) ≤ _; exact Nat.le_trans (by decide : sz (0 : Rat) ≤ 1) (by omega)
 | k + 1, hk => by
  show sz (sN k f + f k) ≤ _
  have h1 := sz_add (sN k f) (f k)
  have h2 := sz_sN h k (by omega)
  have h3 := h k (by omega)
  have : (k + 1) * (m + 1) = k * (m + 1) + (m + 1) := Nat.succ_mul _ _
  omega
theorem psum_sN (xs : List Rat) : ∀ k, psum xs k = sN k (xs.getD · 0)
 | 0 => rfl
 | k + 1 => by show psum xs k + _ = sN k _ + _; rw [psum_sN xs k]
theorem rsum_sN (xs : List Rat) : rsum xs = sN xs.length (xs.getD · 0) := psum_sN xs _
def distT (a b : List Rat) (i : Nat) : Rat := absQ (a.getD i 0 - b.getD i 0)
def distQ (a b : List Rat) : Rat := sN a.length (distT a b) / 2
theorem distT_sz {a b : List Rat} {m : Nat} (ha : ∀ q, q ∈ a → sz q ≤ m) (hb : ∀ q, q ∈ b → sz q ≤ m) (h1 : 1 ≤ m) (i : Nat) : sz (distT a b i) ≤ 2 * m + 1 := by
 unfold distT
 rw [sz_abs]
 have h2 := getD_sz ha i h1
 have h3 := getD_sz hb i h1
 have h4 := sz_sub (a.getD i 0) (b.getD i 0)
 omega
theorem sz_two : sz (2 : Rat) = 2 := by decide
theorem distQ_sz {a b : List Rat} {m : Nat} (ha : ∀ q, q ∈ a → sz q ≤ m) (hb : ∀ q, q ∈ b → sz q ≤ m) (h1 : 1 ≤ m) : sz (distQ a b) ≤ a.length * (2 * m + 2) + 3 := by
 unfold distQ
 have h2 := sz_sN (n := a.length) (fun i _ => distT_sz ha hb h1 i) a.length (Nat.le_refl _)
 have h3 := sz_div (sN a.length (distT a b)) (b := 2) (by decide)
 rw [sz_two] at h3
 have e : 2 * m + 1 + 1 = 2 * m + 2 := rfl
 rw [e] at h2
 omega
theorem fn_distance (a b : List Rat) (m : Nat) (ha : ∀ q, q ∈ a → sz q ≤ m) (hb : ∀ q, q ∈ b → sz q ≤ m) (h1 : 1 ≤ m) (hl : b.length = a.length) (hn : a.length ≤ 1000) (hm : m ≤ 10000000) :
  Fn Tryz.prog 106 [lQ a, lQ b] [] (rI (distQ a b)) [] := by
 have c0 := fn_whole 0 (by decide) (by decide)
 have c2 := fn_whole 2 (by decide) (by decide)
 have hlz : ((cQ a).length : Int) = a.length := by rw [cQ_len]
 have hmul : a.length * (2 * m + 2) ≤ 1000 * (2 * m + 2) := Nat.mul_le_mul_right _ hn
 refine Fn.intro (ks := [0,1,4,5,6,7,10,11,12]) hty rfl rfl rfl rfl rfl ?_
 conv => whnf
 refine VCall.of_data c0 (ndA fun k => rfl) ?_
 conv => whnf
 refine VLoop.inv hty (S := Nat) (fun i => [(11, I i), (10, I a.length), (5, .lp 5 0), (4, .lp 4 0), (1, lQ b), (0, lQ a)])
  (fun i => [(5, .box true [B (ng (sN i (distT a b))), nI (tp (sN i (distT a b))), nI (sN i (distT a b)).den]), (4, .box true _)]) (fun i => i ≤ a.length) (fun i => a.length - i) 0 (Nat.zero_le _)
  ⟨rfl, congrArg I hlz, rfl, rfl, rfl, rfl, trivial⟩ ⟨rfl, rfl, trivial⟩ ?_
 intro i hi
 conv => whnf
 refine Br.mk (fun h => ?_) (fun h => ?_)
 ·have h : i < a.length := by simp only [decide_eq_true_eq] at h; omega
  obtain ⟨x, ex⟩ : ∃ x, a.getD i 0 = x := ⟨_, rfl⟩
  obtain ⟨y, ey⟩ : ∃ y, b.getD i 0 = y := ⟨_, rfl⟩
  have zx := getD_sz ha i h1
  have zy := getD_sz hb i h1
  have zs := sz_sN (n := a.length) (fun i _ => distT_sz ha hb h1 i) i hi
  have zm : i * (2 * m + 1 + 1) ≤ a.length * (2 * m + 2) := Nat.mul_le_mul hi (by omega)
  have zd := distT_sz ha hb h1 i
  have ed : distT a b i = absQ (x - y) := by unfold distT; rw [ex, ey]
  have es : sN (i + 1) (distT a b) = sN i (distT a b) + distT a b i := rfl
  rw [ex] at zx
  rw [ey] at zy
  have cs := fn_rsub x y (by omega)
  have ca := fn_radd (sN i (distT a b)) (distT a b i) (by omega)
  rw [← es] at ca
  obtain ⟨p1, p2, p3⟩ := absQ_parts (x - y)
  rw [← ed] at p1 p2 p3
  conv => whnf
  refine VDraw.go hmo hty 10 [[7], [7], [7], [7], [7], [7], [7], [7], [7], []] rfl ?_
  conv => whnf
  refine ⟨⟨⟨by omega, by omega⟩, cQ_sz _⟩, ?_⟩
  conv => whnf
  refine ⟨_, cQ_as h ex, ?_⟩
  conv => whnf
  refine ⟨⟨⟨by omega, by rw [cQ_len]; omega⟩, cQ_sz _⟩, ?_⟩
  conv => whnf
  refine ⟨_, cQ_as (by omega) ey, ?_⟩
  conv => whnf
  refine QCall.of_data cs (ndA fun k => rfl) ?_
  conv => whnf
  rw [← p2, ← p3]
  rw [show AV.d (C.s (Value.bool false)) = B (ng (distT a b i)) by rw [p1]]
  conv => whnf
  refine VCall.of_data ca (ndA fun k => rfl) ?_
  conv => whnf
  refine Wr.i64 (y := ((i + 1 : Nat) : Int)) rfl (by omega) (by omega) ?_
  conv => whnf
  exact ⟨i + 1, h, by show a.length - (i + 1) < a.length - i; omega, ⟨rfl, rfl, rfl, rfl, rfl, rfl, trivial⟩, rfl, rfl, trivial⟩
 ·have h : i = a.length := by simp only [decide_eq_false_iff_not] at h; omega
  subst h
  have zs := sz_sN (n := a.length) (fun i _ => distT_sz ha hb h1 i) a.length (Nat.le_refl _)
  rw [show 2 * m + 1 + 1 = 2 * m + 2 from rfl] at zs
  conv => whnf
  refine VDraw.go hmo hty 3 [] rfl ?_
  conv => whnf
  refine QCall.of_data c2 (ndA fun k => rfl) ?_
  conv => whnf
  refine QCall.of_data (fn_rover _ 2 (by omega) (by decide) (by decide)) (ndA fun k => rfl) ?_
  conv => whnf
  exact ⟨rfl, rfl, rfl, trivial, rfl⟩
theorem fn_sDistance (a b : List Rat) (m : Nat) (ha : ∀ q, q ∈ a → sz q ≤ m) (hb : ∀ q, q ∈ b → sz q ≤ m) (h1 : 1 ≤ m) (hl : b.length = a.length) (hn : a.length ≤ 1000) (hm : m ≤ 10000000) :
  Fn Tryz.prog 92 [lS a, lS b] [] (rS (distQ a b)) [] := by
 have c2 := fn_sInt 2 (by decide) (by decide)
 have hlz : ((cS a).length : Int) = a.length := by rw [cS_len]
 have hmul : a.length * (2 * m + 2) ≤ 1000 * (2 * m + 2) := Nat.mul_le_mul_right _ hn
 refine Fn.intro (ks := [0,1,4,5,6,7,10,11,12]) hty rfl rfl rfl rfl rfl ?_
 conv => whnf
 refine VCall.of_data fn_sNone (ndA fun k => rfl) ?_
 conv => whnf
 refine VLoop.inv hty (S := Nat) (fun i => [(11, I i), (10, I a.length), (5, .lp 5 0), (4, .lp 4 0), (1, lS b), (0, lS a)])
  (fun i => [(5, .box true [B (ng (sN i (distT a b))), nS (tp (sN i (distT a b))), nS (sN i (distT a b)).den]), (4, .box true _)]) (fun i => i ≤ a.length) (fun i => a.length - i) 0 (Nat.zero_le _)
  ⟨rfl, congrArg I hlz, rfl, rfl, rfl, rfl, trivial⟩ ⟨rfl, rfl, trivial⟩ ?_
 intro i hi
 conv => whnf
 refine Br.mk (fun h => ?_) (fun h => ?_)
 ·have h : i < a.length := by simp only [decide_eq_true_eq] at h; omega
  obtain ⟨x, ex⟩ : ∃ x, a.getD i 0 = x := ⟨_, rfl⟩
  obtain ⟨y, ey⟩ : ∃ y, b.getD i 0 = y := ⟨_, rfl⟩
  have zx := getD_sz ha i h1
  have zy := getD_sz hb i h1
  have zs := sz_sN (n := a.length) (fun i _ => distT_sz ha hb h1 i) i hi
  have zm : i * (2 * m + 1 + 1) ≤ a.length * (2 * m + 2) := Nat.mul_le_mul hi (by omega)
  have zd := distT_sz ha hb h1 i
  have ed : distT a b i = absQ (x - y) := by unfold distT; rw [ex, ey]
  have es : sN (i + 1) (distT a b) = sN i (distT a b) + distT a b i := rfl
  rw [ex] at zx
  rw [ey] at zy
  have cs := fn_sMinus x y (by omega)
  have ca := fn_sSum (sN i (distT a b)) (distT a b i) (by omega)
  rw [← es] at ca
  obtain ⟨p1, p2, p3⟩ := absQ_parts (x - y)
  rw [← ed] at p1 p2 p3
  conv => whnf
  refine VDraw.go hmo hty 10 [[7], [7], [7], [7], [7], [7], [7], [7], [7], []] rfl ?_
  conv => whnf
  refine ⟨⟨⟨by omega, by omega⟩, cS_sz _⟩, ?_⟩
  conv => whnf
  refine ⟨_, cS_as h ex, ?_⟩
  conv => whnf
  refine ⟨⟨⟨by omega, by rw [cS_len]; omega⟩, cS_sz _⟩, ?_⟩
  conv => whnf
  refine ⟨_, cS_as (by omega) ey, ?_⟩
  conv => whnf
  refine QCall.of_data cs (ndA fun k => rfl) ?_
  conv => whnf
  rw [← p2, ← p3]
  rw [show AV.d (C.s (Value.bool false)) = B (ng (distT a b i)) by rw [p1]]
  conv => whnf
  refine VCall.of_data ca (ndA fun k => rfl) ?_
  conv => whnf
  refine Wr.i64 (y := ((i + 1 : Nat) : Int)) rfl (by omega) (by omega) ?_
  conv => whnf
  exact ⟨i + 1, h, by show a.length - (i + 1) < a.length - i; omega, ⟨rfl, rfl, rfl, rfl, rfl, rfl, trivial⟩, rfl, rfl, trivial⟩
 ·have h : i = a.length := by simp only [decide_eq_false_iff_not] at h; omega
  subst h
  have zs := sz_sN (n := a.length) (fun i _ => distT_sz ha hb h1 i) a.length (Nat.le_refl _)
  rw [show 2 * m + 1 + 1 = 2 * m + 2 from rfl] at zs
  conv => whnf
  refine VDraw.go hmo hty 3 [] rfl ?_
  conv => whnf
  refine QCall.of_data c2 (ndA fun k => rfl) ?_
  conv => whnf
  refine QCall.of_data (fn_sOver _ 2 (by rw [sz_two]; omega) (by decide)) (ndA fun k => rfl) ?_
  conv => whnf
  exact ⟨rfl, rfl, rfl, trivial, rfl⟩
end Go.V
namespace Go.V
open Go.Proofs Go.RowKit
set_option maxRecDepth 10000
set_option maxHeartbeats 1000000
theorem ng_lt (q : Rat) : ng q = decide (q < 0) := by
 unfold ng
 refine decide_eq_decide.2 ?_
 have h := Rat.num_nonneg (q := q)
 rw [← Rat.not_le, ← h]; omega
theorem sgI_negD (q : Rat) : decide (sgI q < 0) = decide (q < 0) := by
 rw [← ng_lt]
 unfold sgI
 by_cases h : tp q = 0
 ·rw [if_pos h]
  have : q = 0 := tp_zero.1 h
  subst this; rfl
 ·rw [if_neg h]
  cases ng q <;> rfl
def isW (x : List Rat) : Bool := (x.all fun q => !decide (q < 0)) && decide (rsum x = 1)
def wQ (xs : List (List UInt8)) : Option (List Rat) := match rdRats xs with
 | none => none
 | some x => if isW x then some x else none
theorem fn_weightsOf (xs : List (List UInt8)) (hl : xs.length ≤ 1000000) (hs : ∀ x, x ∈ xs → x.length ≤ 1000000) : Fn Tryz.prog 98 [lT xs] [] (.tup [lQ ((wQ xs).getD []), B (wQ xs).isSome]) [] := by
 have c1 := fn_rats xs (by omega) (fun x hx => by have := hs x hx; omega)
 refine Fn.intro (ks := [0,2,3,4,5,22]) hty rfl rfl rfl rfl rfl ?_
 cases h : rdRats xs with
 | none =>
  rw [h] at c1
  rw [show wQ xs = none by unfold wQ; rw [h]]
  conv => whnf
  refine VCall.of_data c1 (ndT fun _ => rfl) ?_
  conv => whnf
  exact ⟨rfl, trivial, rfl⟩
 | some x =>
  obtain ⟨l1, l2, l3⟩ := rdRats_sz h
  rw [h] at c1
  replace c1 : Fn Tryz.prog 141 [lT xs] [] (.tup [lQ x, B true]) [] := c1
  have c2 := fn_containsQ 143 (fun q => decide (sgI q < 0)) x (by omega) (fun q hq => fn_isMinus q (by have := l3 q hq; omega))
  have hm : x.length * 801 ≤ 300 * 801 := Nat.mul_le_mul_right _ l1
  have c3 := fn_sum x 800 l3 (by decide) (by omega) (by omega)
  have z3 := sz_psum l3 (by decide) x.length
  have c4 := fn_isOne (rsum x) (by show sz (psum x x.length) ≤ _; omega)
  have e : (x.any fun q => decide (sgI q < 0)) = !(x.all fun q => !decide (q < 0)) := by
   rw [List.not_all_eq_any_not]
   congr 1
   funext q
   rw [Bool.not_not]; exact sgI_negD q
  rw [e] at c2
  obtain ⟨b1, e1⟩ : ∃ b, (x.all fun q => !decide (q < 0)) = b := ⟨_, rfl⟩
  obtain ⟨b2, e2⟩ : ∃ b, decide (rsum x = 1) = b := ⟨_, rfl⟩
  have hw : wQ xs = if (b1 && b2) = true then some x else none := by unfold wQ isW; rw [h, ← e1, ← e2]
  rw [e1] at c2
  rw [e2] at c4
  rw [hw]
  conv => whnf
  refine VCall.of_data c1 (ndT fun _ => rfl) ?_
  conv => whnf
  refine VCall.of_data c2 (nd _) ?_
  conv => whnf
  cases b1 with
  | false =>
   conv => whnf
   exact ⟨rfl, trivial, rfl⟩
  | true =>
   conv => whnf
   refine VCall.of_data c3 (ndA fun k => rfl) ?_
   conv => whnf
   refine VCall.of_data c4 (nd _) ?_
   conv => whnf
   cases b2 with
   | false =>
    conv => whnf
    exact ⟨rfl, trivial, rfl⟩
   | true =>
    conv => whnf
    exact ⟨rfl, rfl, trivial, rfl⟩
theorem fn_sWeights (x : List Rat) (hn : x.length ≤ 1000) (hz : ∀ q, q ∈ x → sz q ≤ 800) : Fn Tryz.prog 85 [lS x] [] (B (isW x)) [] := by
 have c1 := fn_sPositive x (by omega)
 have hm : x.length * 801 ≤ 1000 * 801 := Nat.mul_le_mul_right _ hn
 have c2 := fn_sTotal x 800 hz (by decide) (by omega) (by omega)
 have z3 := sz_psum hz (by decide) x.length
 have c3 := fn_sEqual (rsum x) 1 (by show sz (psum x x.length) ≤ _; omega) (by decide)
 have e : (x.all fun q => !ng q) = (x.all fun q => !decide (q < 0)) := by
  congr 1; funext q; rw [ng_lt]
 rw [e] at c1
 refine Fn.intro (ks := [0,2]) hty rfl rfl rfl rfl rfl ?_
 unfold isW
 conv => whnf
 refine VCall.of_data c1 (nd _) ?_
 conv => whnf
 cases (x.all fun q => !decide (q < 0)) with
 | false =>
  conv => whnf
  exact ⟨rfl, trivial, rfl⟩
 | true =>
  conv => whnf
  refine VCall.of_data c2 (ndA fun k => rfl) ?_
  conv => whnf
  refine VCall.of_data fn_sOne (ndA fun k => rfl) ?_
  conv => whnf
  refine VCall.of_data c3 (nd _) ?_
  conv => whnf
  exact ⟨rfl, trivial, rfl⟩
def cTT (rows : List (List (List UInt8))) : List (List C) := rows.map fun r => [.sl (cT r)]
def cM (p : Mt) : List (List C) := p.map fun r => [.sl (cQ r)]
def cMS (p : Mt) : List (List C) := p.map fun r => [.sl (cS r)]
theorem cTT_len (p : List (List (List UInt8))) : (cTT p).length = p.length := by simp [cTT]
theorem cM_len (p : Mt) : (cM p).length = p.length := by simp [cM]
theorem cMS_len (p : Mt) : (cMS p).length = p.length := by simp [cMS]
theorem cTT_sz (p : List (List (List UInt8))) : ∀ r, r ∈ cTT p → r.length = 1 := by intro r hr; obtain ⟨n, _, rfl⟩ := List.mem_map.1 hr; rfl
theorem cM_sz (p : Mt) : ∀ r, r ∈ cM p → r.length = 1 := by intro r hr; obtain ⟨n, _, rfl⟩ := List.mem_map.1 hr; rfl
theorem cMS_sz (p : Mt) : ∀ r, r ∈ cMS p → r.length = 1 := by intro r hr; obtain ⟨n, _, rfl⟩ := List.mem_map.1 hr; rfl
theorem cTT_as {p : List (List (List UInt8))} {i : Nat} {x : List (List UInt8)} (h : i < p.length) (e : p.getD i [] = x) : (cTT p)[i]? = some [.sl (cT x)] := by
 subst e; rw [List.getD_eq_getElem?_getD, List.getElem?_eq_getElem h]; simp [cTT, h]
theorem cM_as {p : Mt} {i : Nat} {x : List Rat} (h : i < p.length) (e : p.getD i [] = x) : (cM p)[i]? = some [.sl (cQ x)] := by
 subst e; rw [List.getD_eq_getElem?_getD, List.getElem?_eq_getElem h]; simp [cM, h]
theorem cMS_as {p : Mt} {i : Nat} {x : List Rat} (h : i < p.length) (e : p.getD i [] = x) : (cMS p)[i]? = some [.sl (cS x)] := by
 subst e; rw [List.getD_eq_getElem?_getD, List.getElem?_eq_getElem h]; simp [cMS, h]
theorem cM_append1 (p : Mt) (x : List Rat) : cM p ++ [[.sl (cQ x)]] = cM (p ++ [x]) := by simp [cM]
theorem cMS_append1 (p : Mt) (x : List Rat) : cMS p ++ [[.sl (cS x)]] = cMS (p ++ [x]) := by simp [cMS]
abbrev lM (p : Mt) : AV := .d (.sl (cM p))
abbrev chI (rows : List (List (List UInt8))) : AV := .ag [.d (.sl (cTT rows))]
abbrev chP (rows : List (List (List UInt8))) : AV := .pp [.sl (cTT rows)] 0
abbrev mS (p : Mt) : AV := .ag [.d (.sl (cMS p))]
abbrev mP (p : Mt) : AV := .pp [.sl (cMS p)] 0
def rowQ (n : Nat) (r : List (List UInt8)) : Option (List Rat) := if r.length = n then wQ r else none
def chainL (n : Nat) : List (List (List UInt8)) → Option Mt
 | [] => some []
 | r :: rs => match rowQ n r with
  | none => none
  | some x => (chainL n rs).map (x :: ·)
def chainQ (rows : List (List (List UInt8))) : Option Mt := if rows.length < 1 ∨ 12 < rows.length then none else chainL rows.length rows
theorem wQ_len {r : List (List UInt8)} {x : List Rat} (h : wQ r = some x) : x.length = r.length ∧ (∀ q, q ∈ x → sz q ≤ 800) ∧ (∀ q, q ∈ x → 0 ≤ q) ∧ rsum x = 1 := by
 unfold wQ at h
 cases h2 : rdRats r with
 | none => rw [h2] at h; cases h
 | some y =>
  rw [h2] at h
  dsimp only at h
  split at h
  ·rename_i hw
   cases h
   obtain ⟨_, l2, l3⟩ := rdRats_sz h2
   unfold isW at hw
   rw [Bool.and_eq_true, List.all_eq_true, decide_eq_true_eq] at hw
   exact ⟨l2, l3, fun q hq => by have := hw.1 q hq; simp at this; exact Rat.not_lt.1 this, hw.2⟩
  ·cases h
theorem chainL_ok {n : Nat} : ∀ {rows : List (List (List UInt8))} {p : Mt}, chainL n rows = some p → p.length = rows.length ∧ ∀ r, r ∈ p → r.length = n ∧ (∀ q, q ∈ r → sz q ≤ 800) ∧ (∀ q, q ∈ r → 0 ≤ q) ∧ rsum r = 1
 | [], p, h => by cases h; exact ⟨rfl, fun r hr => (by cases hr)⟩
 | r :: rs, p, h => by
  unfold chainL at h
  cases h1 : rowQ n r with
  | none => rw [h1] at h; cases h
  | some x =>
   rw [h1] at h
   dsimp only at h
   cases h2 : chainL n rs with
   | none => rw [h2] at h; cases h
   | some q =>
    rw [h2] at h
    cases h
    obtain ⟨g1, g2⟩ := chainL_ok h2
    refine ⟨by simp [g1], fun s hs => ?_⟩
    rcases List.mem_cons.1 hs with rfl | hs
    ·unfold rowQ at h1
     split at h1
     ·rename_i hn
      obtain ⟨w1, w2⟩ := wQ_len h1
      exact ⟨w1.trans hn, w2⟩
     ·cases h1
    ·exact g2 s hs
theorem chainQ_ok {rows : List (List (List UInt8))} {p : Mt} (h : chainQ rows = some p) : MtOk p := by
 unfold chainQ at h
 split at h
 ·cases h
 ·rename_i hn
  obtain ⟨g1, g2⟩ := chainL_ok h
  exact ⟨by omega, by omega, fun r hr => by rw [(g2 r hr).1, g1], fun r hr => (g2 r hr).2.2.1, fun r hr => (g2 r hr).2.1, fun r hr => by rw [← rsum_sN]; exact (g2 r hr).2.2.2⟩
theorem chainL_step {n : Nat} {rows : List (List (List UInt8))} {i : Nat} {acc : Mt} {r : List (List UInt8)} (h : i < rows.length) (er : rows.getD i [] = r) (hI : chainL n rows = (chainL n (rows.drop i)).map (acc ++ ·)) :
  (rowQ n r = none → chainL n rows = none) ∧ ∀ x, rowQ n r = some x → chainL n rows = (chainL n (rows.drop (i + 1))).map ((acc ++ [x]) ++ ·) := by
 have e : rows.drop i = r :: rows.drop (i + 1) := by
  rw [List.drop_eq_getElem_cons h, ← er, List.getD_eq_getElem?_getD, List.getElem?_eq_getElem h]; rfl
 rw [e] at hI
 refine ⟨fun hn => by rw [hI, chainL, hn]; rfl, fun x hx => ?_⟩
 rw [hI, chainL, hx]
 dsimp only
 cases chainL n (rows.drop (i + 1)) with
 | none => rfl
 | some q => simp
theorem fn_chainOf (rows : List (List (List UInt8))) (hl : rows.length ≤ 1000000) (hr : ∀ r, r ∈ rows → r.length ≤ 1000000) (hs : ∀ r, r ∈ rows → ∀ x, x ∈ r → x.length ≤ 1000000) :
  Fn Tryz.prog 44 [chI rows] [] (.tup [lM ((chainQ rows).getD []), B (chainQ rows).isSome]) [] := by
 have hz : ((cTT rows).length : Int) = rows.length := by rw [cTT_len]
 refine Fn.intro (ks := [0,1,2,3,4,6,7,8,18,21,22,23,24,41]) hty rfl rfl rfl rfl rfl ?_
 conv => whnf
 rw [hz]
 refine Br.mk (fun h => ?_) (fun h => ?_)
 ·have h : rows.length < 1 := by simp only [decide_eq_true_eq] at h; omega
  rw [show chainQ rows = none by unfold chainQ; rw [if_pos (.inl h)]]
  conv => whnf
  exact ⟨rfl, trivial, rfl⟩
 ·have h1 : ¬ rows.length < 1 := by simp only [decide_eq_false_iff_not] at h; omega
  conv => whnf
  rw [hz]
  refine Br.mk (fun h => ?_) (fun h => ?_)
  ·have h : 12 < rows.length := by simp only [decide_eq_true_eq] at h; omega
   rw [show chainQ rows = none by unfold chainQ; rw [if_pos (.inr h)]]
   conv => whnf
   exact ⟨rfl, trivial, rfl⟩
  ·have h2 : ¬ 12 < rows.length := by simp only [decide_eq_false_iff_not] at h; omega
   have hq : chainQ rows = chainL rows.length rows := by unfold chainQ; rw [if_neg (by omega)]
   rw [hq]
   conv => whnf
   refine VLoop.ren 19 45 rfl ?_
   refine VLoop.inv hty (S := Mt × Nat) (fun x => [(23, I x.2), (22, I rows.length), (21, .d (.sl (cTT rows))), (4, .ls 45 0 x.2 1), (1, .lp 1 0)]) (fun x => [(45, .row true 1 (cM x.1)), (1, .box true [.d (.sl (cTT rows))])])
    (fun x => x.2 ≤ rows.length ∧ x.1.length = x.2 ∧ chainL rows.length rows = (chainL rows.length (rows.drop x.2)).map (x.1 ++ ·)) (fun x => rows.length - x.2) ([], 0) ⟨Nat.zero_le _, rfl, by rw [List.drop_zero]; cases chainL rows.length rows <;> simp⟩
    ⟨rfl, congrArg I hz, rfl, rfl, rfl, trivial⟩ ⟨rfl, rfl, trivial⟩ ?_
   intro x hx
   obtain ⟨g1, g2, g3⟩ := hx
   conv => whnf
   refine Br.mk (fun h => ?_) (fun h => ?_)
   ·have h : x.2 < rows.length := by simp only [decide_eq_true_eq] at h; omega
    obtain ⟨r, er⟩ : ∃ r, rows.getD x.2 [] = r := ⟨_, rfl⟩
    have hm : r ∈ rows := by rw [← er]; exact getD_mem h
    have c1 := fn_weightsOf r (hr r hm) (hs r hm)
    obtain ⟨s1, s2⟩ := chainL_step h er g3
    conv => whnf
    refine ⟨⟨⟨by omega, by rw [cTT_len]; omega⟩, cTT_sz _⟩, ?_⟩
    conv => whnf
    refine ⟨_, cTT_as h er, ?_⟩
    conv => whnf
    cases hw : wQ r with
    | none =>
     rw [hw] at c1
     refine VCall.of_data c1 (ndT fun _ => rfl) ?_
     conv => whnf
     rw [s1 (by unfold rowQ; rw [hw, ite_self])]
     exact ⟨rfl, trivial, rfl⟩
    | some y =>
     have hy := (wQ_len hw).1
     rw [hw] at c1
     replace c1 : Fn Tryz.prog 98 [lT r] [] (.tup [lQ y, B true]) [] := c1
     refine VCall.of_data c1 (ndT fun _ => rfl) ?_
     conv => whnf
     rw [hz, cQ_len]
     by_cases he : y.length = rows.length
     ·rw [decide_eq_true (show (y.length : Int) = rows.length by omega)]
      conv => whnf
      refine Sub.full rfl ?_
      conv => whnf
      refine Sub.full (by rw [cM_len, g2]) ?_
      conv => whnf
      refine ⟨by show (x.2 + 1) * 24 ≤ _; omega, ?_⟩
      conv => whnf
      refine Wr.i64 (y := ((x.2 + 1 : Nat) : Int)) rfl (by omega) (by omega) ?_
      conv => whnf
      refine ⟨(x.1 ++ [y], x.2 + 1), ⟨h, by simp [g2], s2 y (by unfold rowQ; rw [if_pos (by omega), hw])⟩, by show rows.length - (x.2 + 1) < rows.length - x.2; omega, ⟨rfl, rfl, rfl, rfl, rfl, trivial⟩, ?_, rfl, trivial⟩
      show Ob.row true 1 (cM x.1 ++ _) = _
      rw [cM_append1]
     ·rw [decide_eq_false (show ¬ (y.length : Int) = rows.length by omega)]
      rw [s1 (by unfold rowQ; rw [if_neg (by omega)])]
      conv => whnf
      exact ⟨rfl, trivial, rfl⟩
   ·have h : x.2 = rows.length := by simp only [decide_eq_false_iff_not] at h; omega
    rw [g3, h, List.drop_length]
    conv => whnf
    refine ⟨⟨rfl, by rw [cM_len, g2]; omega, ?_⟩, rfl, trivial, rfl⟩
    rw [List.drop_zero, List.take_of_length_le (by rw [cM_len, g2]; omega)]
    show cM x.1 = cM (x.1 ++ [])
    rw [List.append_nil]
end Go.V
namespace Go.V
open Go.Proofs Go.RowKit
set_option maxRecDepth 10000
set_option maxHeartbeats 1000000
def parL : Mt → LL
 | [] => [(5, .box true [.d (.s (.slice none 0 0))]), (2, .box true [.d (.s (.slice none 0 0))])]
 | y :: ys => [(200, .row true 1 (cMS (y :: ys))), (5, .box true [.ls 200 0 (ys.length + 1) 1]), (2, .box true [.d (.s (.slice none 0 0))])]
theorem fn_l03Parse (rows : List (List (List UInt8))) (hl : rows.length ≤ 1000000) (hr : ∀ r, r ∈ rows → r.length ≤ 1000000) (hs : ∀ r, r ∈ rows → ∀ x, x ∈ r → x.length ≤ 1000000) :
  Fn Tryz.prog 37 [chP rows] [] (.tup [mS ((chainQ rows).getD []), B (chainQ rows).isSome]) [] := by
 have hz : ((cTT rows).length : Int) = rows.length := by rw [cTT_len]
 refine Fn.intro (ks := [0,2,3,4,5,6,7,8,19,26,27,28,39,58]) hty rfl rfl rfl rfl rfl ?_
 conv => whnf
 rw [hz]
 refine Br.mk (fun h => ?_) (fun h => ?_)
 ·have h : rows.length < 1 := by simp only [decide_eq_true_eq] at h; omega
  rw [show chainQ rows = none by unfold chainQ; rw [if_pos (.inl h)]]
  conv => whnf
  exact ⟨rfl, trivial, rfl⟩
 ·have h1 : ¬ rows.length < 1 := by simp only [decide_eq_false_iff_not] at h; omega
  refine Br.mk (fun h => ?_) (fun h => ?_)
  ·have h : 12 < rows.length := by simp only [decide_eq_true_eq] at h; omega
   rw [show chainQ rows = none by unfold chainQ; rw [if_pos (.inr h)]]
   conv => whnf
   exact ⟨rfl, trivial, rfl⟩
  ·have h2 : ¬ 12 < rows.length := by simp only [decide_eq_false_iff_not] at h; omega
   have hq : chainQ rows = chainL rows.length rows := by unfold chainQ; rw [if_neg (by omega)]
   rw [hq]
   conv => whnf
   refine VLoop.invR hty (S := Mt) [(64, 200)] (fun acc => [(27, I acc.length), (26, I rows.length), (5, .lp 5 0), (4, I rows.length), (2, .lp 2 0), (0, chP rows)]) parL
    (fun acc => acc.length ≤ rows.length ∧ chainL rows.length rows = (chainL rows.length (rows.drop acc.length)).map (acc ++ ·)) (fun acc => rows.length - acc.length) [] ⟨Nat.zero_le _, by show chainL rows.length rows = _; rw [List.length_nil, List.drop_zero]; cases chainL rows.length rows <;> simp⟩
    ⟨rfl, congrArg I hz, rfl, rfl, rfl, rfl, trivial⟩ ⟨rfl, rfl, trivial⟩ ?_
   intro acc hx
   obtain ⟨g1, g3⟩ := hx
   obtain ⟨r, er⟩ : ∃ r, rows.getD acc.length [] = r := ⟨_, rfl⟩
   cases acc with
   | nil =>
    conv => whnf
    refine Br.mk (fun h => ?_) (fun h => ?_)
    ·have h : (([] : Mt)).length < rows.length := by simp only [decide_eq_true_eq] at h; exact Int.ofNat_lt.1 h
     obtain ⟨s1, s2⟩ := chainL_step (r := r) h er g3
     have hm : r ∈ rows := by rw [← er]; exact getD_mem h
     have c1 := fn_sList r (by have := hr r hm; omega) (fun x hx => by have := hs r hm x hx; omega)
     conv => whnf
     refine ⟨⟨⟨by omega, by rw [cTT_len]; omega⟩, cTT_sz _⟩, ?_⟩
     conv => whnf
     refine ⟨_, cTT_as h er, ?_⟩
     conv => whnf
     rw [cT_len]
     by_cases he : r.length = rows.length
     ·rw [decide_eq_true (show (r.length : Int) = rows.length by omega)]
      conv => whnf
      refine ⟨⟨⟨by omega, by rw [cTT_len]; omega⟩, cTT_sz _⟩, ?_⟩
      conv => whnf
      refine ⟨_, cTT_as h er, ?_⟩
      conv => whnf
      cases hw : rdRats r with
      | none =>
       rw [hw] at c1
       have e0 := s1 (by unfold rowQ wQ; rw [hw, ite_self])
       refine VCall.of_data c1 (ndT fun _ => rfl) ?_
       conv => whnf
       rw [e0]
       exact ⟨rfl, trivial, rfl⟩
      | some z =>
       obtain ⟨w1, w2, w3⟩ := rdRats_sz hw
       rw [hw] at c1
       replace c1 : Fn Tryz.prog 84 [lT r] [] (.tup [lS z, B true]) [] := c1
       have c2 := fn_sWeights z (by omega) w3
       refine VCall.of_data c1 (ndT fun _ => rfl) ?_
       conv => whnf
       refine VCall.of_data c2 (nd _) ?_
       conv => whnf
       cases hi : isW z with
       | false =>
        have e0 := s1 (by unfold rowQ wQ; rw [hw]; simp [hi])
        rw [e0]
        conv => whnf
        exact ⟨rfl, trivial, rfl⟩
       | true =>
        have e0 := s2 z (by unfold rowQ wQ; rw [hw]; simp [hi, he])
        conv => whnf
        refine Sub.full rfl ?_
        conv => whnf
        refine ⟨by show 1 * 24 ≤ _; omega, ?_⟩
        conv => whnf
        refine Wr.i64 (y := (((([] : Mt)).length + 1 : Nat) : Int)) rfl (by omega) (by omega) ?_
        conv => whnf
        refine ⟨([] : Mt) ++ [z], ⟨by simp at h ⊢; omega, by rw [show (([] : Mt) ++ [z]).length = (([] : Mt)).length + 1 by simp]; exact e0⟩, by simp at h ⊢; omega, rfl, ?_⟩
        conv => whnf
        refine ⟨⟨?_, rfl, rfl, rfl, rfl, rfl, trivial⟩, ?_⟩
        ·show I _ = I _
         simp
        ·refine ⟨?_, ?_, rfl, trivial⟩
         ·first | rfl | (show Ob.row true 1 (cMS _ ++ _) = _; rw [cMS_append1]; rfl)
         ·show Ob.box true [.ls 200 0 _ 1] = Ob.box true [.ls 200 0 _ 1]
          simp
     ·rw [decide_eq_false (show ¬ (r.length : Int) = rows.length by omega)]
      have e0 := s1 (by unfold rowQ; rw [if_neg he])
      rw [e0]
      conv => whnf
      exact ⟨rfl, trivial, rfl⟩
    ·have h : rows.length = 0 := by simp only [decide_eq_false_iff_not] at h; have h : ¬ (0 : Int) < rows.length := h; omega
     omega
   | cons y ys =>
    conv => whnf
    refine Br.mk (fun h => ?_) (fun h => ?_)
    ·have h : ((y :: ys)).length < rows.length := by simp only [decide_eq_true_eq] at h; exact Int.ofNat_lt.1 h
     obtain ⟨s1, s2⟩ := chainL_step (r := r) h er g3
     have hm : r ∈ rows := by rw [← er]; exact getD_mem h
     have c1 := fn_sList r (by have := hr r hm; omega) (fun x hx => by have := hs r hm x hx; omega)
     conv => whnf
     refine ⟨⟨⟨by omega, by rw [cTT_len]; omega⟩, cTT_sz _⟩, ?_⟩
     conv => whnf
     refine ⟨_, cTT_as h er, ?_⟩
     conv => whnf
     rw [cT_len]
     by_cases he : r.length = rows.length
     ·rw [decide_eq_true (show (r.length : Int) = rows.length by omega)]
      conv => whnf
      refine ⟨⟨⟨by omega, by rw [cTT_len]; omega⟩, cTT_sz _⟩, ?_⟩
      conv => whnf
      refine ⟨_, cTT_as h er, ?_⟩
      conv => whnf
      cases hw : rdRats r with
      | none =>
       rw [hw] at c1
       have e0 := s1 (by unfold rowQ wQ; rw [hw, ite_self])
       refine VCall.of_data c1 (ndT fun _ => rfl) ?_
       conv => whnf
       rw [e0]
       exact ⟨rfl, trivial, rfl⟩
      | some z =>
       obtain ⟨w1, w2, w3⟩ := rdRats_sz hw
       rw [hw] at c1
       replace c1 : Fn Tryz.prog 84 [lT r] [] (.tup [lS z, B true]) [] := c1
       have c2 := fn_sWeights z (by omega) w3
       refine VCall.of_data c1 (ndT fun _ => rfl) ?_
       conv => whnf
       refine VCall.of_data c2 (nd _) ?_
       conv => whnf
       cases hi : isW z with
       | false =>
        have e0 := s1 (by unfold rowQ wQ; rw [hw]; simp [hi])
        rw [e0]
        conv => whnf
        exact ⟨rfl, trivial, rfl⟩
       | true =>
        have e0 := s2 z (by unfold rowQ wQ; rw [hw]; simp [hi, he])
        conv => whnf
        refine Sub.full rfl ?_
        conv => whnf
        refine Sub.full (by rw [cMS_len]; rfl) ?_
        conv => whnf
        refine ⟨by show (ys.length + 1 + 1) * 24 ≤ _; have : ys.length + 1 ≤ rows.length := g1; omega, ?_⟩
        conv => whnf
        refine Wr.i64 (y := ((((y :: ys)).length + 1 : Nat) : Int)) rfl (by omega) (by omega) ?_
        conv => whnf
        refine ⟨(y :: ys) ++ [z], ⟨by simp at h ⊢; omega, by rw [show ((y :: ys) ++ [z]).length = ((y :: ys)).length + 1 by simp]; exact e0⟩, by simp at h ⊢; omega, rfl, ?_⟩
        conv => whnf
        refine ⟨⟨?_, rfl, rfl, rfl, rfl, rfl, trivial⟩, ?_⟩
        ·show I _ = I _
         simp
        ·refine ⟨?_, ?_, rfl, trivial⟩
         ·first | rfl | (show Ob.row true 1 (cMS _ ++ _) = _; rw [cMS_append1]; rfl)
         ·show Ob.box true [.ls 200 0 _ 1] = Ob.box true [.ls 200 0 _ 1]
          simp
     ·rw [decide_eq_false (show ¬ (r.length : Int) = rows.length by omega)]
      have e0 := s1 (by unfold rowQ; rw [if_neg he])
      rw [e0]
      conv => whnf
      exact ⟨rfl, trivial, rfl⟩
    ·have h : (y :: ys).length = rows.length := by simp only [decide_eq_false_iff_not] at h; have h : ¬ ((y :: ys).length : Int) < rows.length := h; omega
     rw [h, List.drop_length] at g3
     rw [g3]
     conv => whnf
     refine ⟨⟨rfl, by rw [cMS_len]; simp, ?_⟩, rfl, trivial, rfl⟩
     rw [List.drop_zero, List.take_of_length_le (by rw [cMS_len]; simp)]
     show cMS (y :: ys) = cMS ((y :: ys) ++ [])
     rw [List.append_nil]
end Go.V
namespace Go.V
open Go.Proofs Go.RowKit
set_option maxRecDepth 10000
set_option maxHeartbeats 1000000
def minC (p : Mt) (j : Nat) : Nat → Rat
 | 0 => ent p 0 j
 | k + 1 => if ent p k j < minC p j k then ent p k j else minC p j k
theorem minC_mem {p : Mt} (hp : 1 ≤ p.length) (j : Nat) : ∀ k, k ≤ p.length → ∃ i, i < p.length ∧ minC p j k = ent p i j
 | 0, _ => ⟨0, hp, rfl⟩
 | k + 1, h => by
  obtain ⟨i, h1, h2⟩ := minC_mem hp j k (by omega)
  by_cases hc : ent p k j < minC p j k
  ·exact ⟨k, h, by rw [minC, if_pos hc]⟩
  ·exact ⟨i, h1, by rw [minC, if_neg hc, h2]⟩
theorem minC_one (p : Mt) (j : Nat) : minC p j 1 = minC p j 0 := by
 show (if ent p 0 j < minC p j 0 then ent p 0 j else minC p j 0) = minC p j 0
 split <;> rfl
def commonT (p : Mt) (j : Nat) : Rat := minC p j p.length
def commonQ (p : Mt) : Rat := sN p.length (commonT p)
structure MtSz (p : Mt) (m : Nat) : Prop where
 n1 : 1 ≤ p.length
 n2 : p.length ≤ 12
 sq : ∀ r, r ∈ p → r.length = p.length
 sz : ∀ r, r ∈ p → ∀ q, q ∈ r → Go.V.sz q ≤ m
theorem MtOk.toSz {p : Mt} (h : MtOk p) : MtSz p 800 := ⟨h.n1, h.n2, h.sq, h.sz⟩
theorem MtSz.ent_sz {p : Mt} {m : Nat} (h : MtSz p m) {i j : Nat} (hi : i < p.length) (hj : j < p.length) : Go.V.sz (ent p i j) ≤ m := by
 have h1 : p.getD i [] ∈ p := getD_mem hi
 exact h.sz _ h1 _ (getD_mem (by rw [h.sq _ h1]; exact hj))
theorem MtSz.len {p : Mt} {m : Nat} (h : MtSz p m) {i : Nat} (hi : i < p.length) : (p.getD i []).length = p.length := h.sq _ (getD_mem hi)
theorem MtSz.min_sz {p : Mt} {m : Nat} (h : MtSz p m) {j : Nat} (hj : j < p.length) {k : Nat} (hk : k ≤ p.length) : Go.V.sz (minC p j k) ≤ m := by
 obtain ⟨i, h1, h2⟩ := minC_mem h.n1 j k hk
 rw [h2]; exact h.ent_sz h1 hj
theorem fn_common (p : Mt) (m : Nat) (h : MtSz p m) (hm : m ≤ 100000000) : Fn Tryz.prog 64 [lM p] [] (rI (commonQ p)) [] := by
 have hz : ((cM p).length : Int) = p.length := by rw [cM_len]
 have h1 := h.n1
 have h2 := h.n2
 have hc : ∀ j, j < p.length → sz (commonT p j) ≤ m := fun j hj => h.min_sz hj (Nat.le_refl _)
 refine Fn.intro (ks := [0,2,3,4,5,6,9,10,11,20,21,22,33]) hty rfl rfl rfl rfl rfl ?_
 conv => whnf
 refine VCall.of_data (fn_whole 0 (by decide) (by decide)) (ndA fun k => rfl) ?_
 conv => whnf
 refine VLoop.inv hty (S := Nat) (fun j => [(10, I j), (9, I p.length), (3, .lp 3 0), (2, .lp 2 0), (0, lM p)]) (fun j => [(3, .box true [B (ng (sN j (commonT p))), nI (tp (sN j (commonT p))), nI (sN j (commonT p)).den]), (2, .box true _)])
  (fun j => j ≤ p.length) (fun j => p.length - j) 0 (Nat.zero_le _) ⟨rfl, congrArg I hz, rfl, rfl, rfl, trivial⟩ ⟨rfl, rfl, trivial⟩ ?_
 intro j hj
 conv => whnf
 refine Br.mk (fun hb => ?_) (fun hb => ?_)
 ·have hb : j < p.length := by simp only [decide_eq_true_eq] at hb; omega
  have zs := sz_sN hc j hj
  have zm : j * (m + 1) ≤ 12 * (m + 1) := Nat.mul_le_mul_right _ (by omega)
  have zc := hc j hb
  have ca := fn_radd (sN j (commonT p)) (commonT p j) (by omega)
  rw [show sN j (commonT p) + commonT p j = sN (j + 1) (commonT p) from rfl] at ca
  conv => whnf
  refine ⟨⟨⟨by omega, by rw [cM_len]; omega⟩, cM_sz _⟩, ?_⟩
  conv => whnf
  refine ⟨_, cM_as (x := p.getD 0 []) (by omega) rfl, ?_⟩
  conv => whnf
  refine ⟨⟨⟨by omega, by rw [cQ_len, h.len (by omega)]; omega⟩, cQ_sz _⟩, ?_⟩
  conv => whnf
  refine ⟨_, cQ_as (x := ent p 0 j) (by rw [h.len (by omega)]; exact hb) rfl, ?_⟩
  conv => whnf
  refine VLoop.inv hty (S := Nat) (fun i => [(21, I i), (20, I p.length), (10, I j), (9, I p.length), (5, .lp 5 0), (4, I j), (3, .lp 3 0), (2, .lp 2 0), (0, lM p)])
   (fun i => [(5, .box true [B (ng (minC p j i)), nI (tp (minC p j i)), nI (minC p j i).den]), (3, .box true [B (ng (sN j (commonT p))), nI (tp (sN j (commonT p))), nI (sN j (commonT p)).den]), (2, .box true _)])
   (fun i => i ≤ p.length) (fun i => p.length - i) 0 (Nat.zero_le _) ⟨rfl, congrArg I hz, rfl, rfl, rfl, rfl, rfl, rfl, rfl, trivial⟩ ⟨rfl, rfl, rfl, trivial⟩ ?_
  intro i hi
  conv => whnf
  refine Br.mk (fun hc2 => ?_) (fun hc2 => ?_)
  ·have hc2 : i < p.length := by simp only [decide_eq_true_eq] at hc2; omega
   have z1 := h.ent_sz hc2 hb
   have z2 := h.min_sz hb hi
   have cc := fn_rcmp (ent p i j) (minC p j i) (by omega) (by omega)
   conv => whnf
   refine VDraw.go hmo hty 10 [] rfl ?_
   conv => whnf
   refine ⟨⟨⟨by omega, by rw [cM_len]; omega⟩, cM_sz _⟩, ?_⟩
   conv => whnf
   refine ⟨_, cM_as (x := p.getD i []) hc2 rfl, ?_⟩
   conv => whnf
   refine ⟨⟨⟨by omega, by rw [cQ_len, h.len hc2]; omega⟩, cQ_sz _⟩, ?_⟩
   conv => whnf
   refine ⟨_, cQ_as (x := ent p i j) (by rw [h.len hc2]; exact hb) rfl, ?_⟩
   conv => whnf
   refine QCall.of_data cc (nd _) ?_
   conv => whnf
   refine Br.mk (fun hd => ?_) (fun hd => ?_)
   ·have hd : ent p i j < minC p j i := rcI_neg.1 (by simpa using hd)
    have e : minC p j (i + 1) = ent p i j := by rw [minC, if_pos hd]
    conv => whnf
    refine ⟨⟨⟨by omega, by rw [cM_len]; omega⟩, cM_sz _⟩, ?_⟩
    conv => whnf
    refine ⟨_, cM_as (x := p.getD i []) hc2 rfl, ?_⟩
    conv => whnf
    refine ⟨⟨⟨by omega, by rw [cQ_len, h.len hc2]; omega⟩, cQ_sz _⟩, ?_⟩
    conv => whnf
    refine ⟨_, cQ_as (x := ent p i j) (by rw [h.len hc2]; exact hb) rfl, ?_⟩
    conv => whnf
    refine Wr.i64 (y := ((i + 1 : Nat) : Int)) rfl (by omega) (by omega) ?_
    conv => whnf
    refine ⟨i + 1, hc2, by show p.length - (i + 1) < p.length - i; omega, ⟨rfl, rfl, rfl, rfl, rfl, rfl, rfl, rfl, rfl, trivial⟩, ?_, rfl, rfl, trivial⟩
    rw [e]; rfl
   ·have hd : ¬ ent p i j < minC p j i := fun e => by have := rcI_neg.2 e; simp at hd; omega
    have e : minC p j (i + 1) = minC p j i := by rw [minC, if_neg hd]
    conv => whnf
    refine Wr.i64 (y := ((i + 1 : Nat) : Int)) rfl (by omega) (by omega) ?_
    conv => whnf
    refine ⟨i + 1, hc2, by show p.length - (i + 1) < p.length - i; omega, ⟨rfl, rfl, rfl, rfl, rfl, rfl, rfl, rfl, rfl, trivial⟩, ?_, rfl, rfl, trivial⟩
    rw [e]; rfl
  ·have hc2 : i = p.length := by simp only [decide_eq_false_iff_not] at hc2; omega
   subst hc2
   conv => whnf
   refine VCall.of_data ca (ndA fun k => rfl) ?_
   conv => whnf
   refine Wr.i64 (y := ((j + 1 : Nat) : Int)) rfl (by omega) (by omega) ?_
   conv => whnf
   exact ⟨j + 1, hb, by show p.length - (j + 1) < p.length - j; omega, ⟨rfl, rfl, rfl, rfl, rfl, trivial⟩, rfl, rfl, trivial⟩
 ·have hb : j = p.length := by simp only [decide_eq_false_iff_not] at hb; omega
  subst hb
  conv => whnf
  exact ⟨rfl, rfl, rfl, trivial, rfl⟩
theorem fn_sCommon (p : Mt) (m : Nat) (h : MtSz p m) (hm : m ≤ 100000000) : Fn Tryz.prog 62 [mP p] [] (rS (commonQ p)) [] := by
 have hz : ((cMS p).length : Int) = p.length := by rw [cMS_len]
 have h1 := h.n1
 have h2 := h.n2
 have hc : ∀ j, j < p.length → sz (commonT p j) ≤ m := fun j hj => h.min_sz hj (Nat.le_refl _)
 refine Fn.intro (ks := [0,2,3,4,5,6,14,32,46]) hty rfl rfl rfl rfl rfl ?_
 conv => whnf
 refine VCall.of_data fn_sNone (ndA fun k => rfl) ?_
 conv => whnf
 refine VLoop.inv hty (S := Nat) (fun j => [(4, I j), (3, .lp 3 0), (2, .lp 2 0), (0, mP p)]) (fun j => [(3, .box true [B (ng (sN j (commonT p))), nS (tp (sN j (commonT p))), nS (sN j (commonT p)).den]), (2, .box true _)])
  (fun j => j ≤ p.length) (fun j => p.length - j) 0 (Nat.zero_le _) ⟨rfl, rfl, rfl, rfl, trivial⟩ ⟨rfl, rfl, trivial⟩ ?_
 intro j hj
 conv => whnf
 rw [hz]
 refine Br.mk (fun hb => ?_) (fun hb => ?_)
 ·have hb : j < p.length := by simp only [decide_eq_true_eq] at hb; omega
  have zs := sz_sN hc j hj
  have zm : j * (m + 1) ≤ 12 * (m + 1) := Nat.mul_le_mul_right _ (by omega)
  have zc := hc j hb
  have ca := fn_sSum (sN j (commonT p)) (commonT p j) (by omega)
  rw [show sN j (commonT p) + commonT p j = sN (j + 1) (commonT p) from rfl] at ca
  conv => whnf
  refine ⟨⟨⟨by omega, by rw [cMS_len]; omega⟩, cMS_sz _⟩, ?_⟩
  conv => whnf
  refine ⟨_, cMS_as (x := p.getD 0 []) (by omega) rfl, ?_⟩
  conv => whnf
  refine ⟨⟨⟨by omega, by rw [cS_len, h.len (by omega)]; omega⟩, cS_sz _⟩, ?_⟩
  conv => whnf
  refine ⟨_, cS_as (x := ent p 0 j) (by rw [h.len (by omega)]; exact hb) rfl, ?_⟩
  conv => whnf
  refine VLoop.inv hty (S := Nat) (fun i => [(6, I i), (5, .lp 5 0), (4, I j), (3, .lp 3 0), (2, .lp 2 0), (0, mP p)])
   (fun i => [(5, .box true [B (ng (minC p j i)), nS (tp (minC p j i)), nS (minC p j i).den]), (3, .box true [B (ng (sN j (commonT p))), nS (tp (sN j (commonT p))), nS (sN j (commonT p)).den]), (2, .box true _)])
   (fun i => 1 ≤ i ∧ i ≤ p.length) (fun i => p.length - i) 1 ⟨Nat.le_refl _, h1⟩ ⟨rfl, rfl, rfl, rfl, rfl, rfl, trivial⟩ ⟨by rw [minC_one]; rfl, rfl, rfl, trivial⟩ ?_
  rintro i ⟨hi1, hi⟩
  conv => whnf
  rw [hz]
  refine Br.mk (fun hc2 => ?_) (fun hc2 => ?_)
  ·have hc2 : i < p.length := by simp only [decide_eq_true_eq] at hc2; omega
   have z1 := h.ent_sz hc2 hb
   have z2 := h.min_sz hb hi
   have cc := fn_sLess2 (ent p i j) (minC p j i) (by omega) (by omega)
   conv => whnf
   refine VDraw.go hmo hty 12 [] rfl ?_
   conv => whnf
   refine ⟨⟨⟨by omega, by rw [cMS_len]; omega⟩, cMS_sz _⟩, ?_⟩
   conv => whnf
   refine ⟨_, cMS_as (x := p.getD i []) hc2 rfl, ?_⟩
   conv => whnf
   refine ⟨⟨⟨by omega, by rw [cS_len, h.len hc2]; omega⟩, cS_sz _⟩, ?_⟩
   conv => whnf
   refine ⟨_, cS_as (x := ent p i j) (by rw [h.len hc2]; exact hb) rfl, ?_⟩
   conv => whnf
   refine QCall.of_data cc (nd _) ?_
   conv => whnf
   refine Br.mk (fun hd => ?_) (fun hd => ?_)
   ·have hd : ent p i j < minC p j i := by simpa using hd
    have e : minC p j (i + 1) = ent p i j := by rw [minC, if_pos hd]
    conv => whnf
    refine ⟨⟨⟨by omega, by rw [cMS_len]; omega⟩, cMS_sz _⟩, ?_⟩
    conv => whnf
    refine ⟨_, cMS_as (x := p.getD i []) hc2 rfl, ?_⟩
    conv => whnf
    refine ⟨⟨⟨by omega, by rw [cS_len, h.len hc2]; omega⟩, cS_sz _⟩, ?_⟩
    conv => whnf
    refine ⟨_, cS_as (x := ent p i j) (by rw [h.len hc2]; exact hb) rfl, ?_⟩
    conv => whnf
    refine Wr.i64 (y := ((i + 1 : Nat) : Int)) rfl (by omega) (by omega) ?_
    conv => whnf
    refine ⟨i + 1, ⟨by omega, hc2⟩, by show p.length - (i + 1) < p.length - i; omega, ⟨rfl, rfl, rfl, rfl, rfl, rfl, trivial⟩, ?_, rfl, rfl, trivial⟩
    rw [e]; rfl
   ·have hd : ¬ ent p i j < minC p j i := by simpa using hd
    have e : minC p j (i + 1) = minC p j i := by rw [minC, if_neg hd]
    conv => whnf
    refine Wr.i64 (y := ((i + 1 : Nat) : Int)) rfl (by omega) (by omega) ?_
    conv => whnf
    refine ⟨i + 1, ⟨by omega, hc2⟩, by show p.length - (i + 1) < p.length - i; omega, ⟨rfl, rfl, rfl, rfl, rfl, rfl, trivial⟩, ?_, rfl, rfl, trivial⟩
    rw [e]; rfl
  ·have hc2 : i = p.length := by simp only [decide_eq_false_iff_not] at hc2; omega
   subst hc2
   conv => whnf
   refine VCall.of_data ca (ndA fun k => rfl) ?_
   conv => whnf
   refine Wr.i64 (y := ((j + 1 : Nat) : Int)) rfl (by omega) (by omega) ?_
   conv => whnf
   exact ⟨j + 1, hb, by show p.length - (j + 1) < p.length - j; omega, ⟨rfl, rfl, rfl, rfl, trivial⟩, rfl, rfl, trivial⟩
 ·have hb : j = p.length := by simp only [decide_eq_false_iff_not] at hb; omega
  subst hb
  conv => whnf
  exact ⟨rfl, rfl, rfl, trivial, rfl⟩
end Go.V
namespace Go.V
open Go.Proofs Go.RowKit
set_option maxRecDepth 10000
set_option maxHeartbeats 1000000
def mx (m : Rat) (l : List Rat) : Rat := l.foldl (fun m d => if m < d then d else m) m
theorem mx_snoc (m : Rat) (l : List Rat) (d : Rat) : mx m (l ++ [d]) = if mx m l < d then d else mx m l := by
 unfold mx; rw [List.foldl_append]; rfl
theorem mx_spec (l : List Rat) : ∀ m, m ≤ mx m l ∧ (∀ d, d ∈ l → d ≤ mx m l) ∧ (mx m l = m ∨ mx m l ∈ l) := by
 induction l with
 | nil => intro m; exact ⟨Rat.le_refl, fun d h => (by cases h), .inl rfl⟩
 | cons a l ih =>
  intro m
  obtain ⟨h1, h2, h3⟩ := ih (if m < a then a else m)
  have e : mx m (a :: l) = mx (if m < a then a else m) l := rfl
  rw [e]
  by_cases hc : m < a
  ·rw [if_pos hc] at h1 h2 h3 ⊢
   refine ⟨Rat.le_trans (Rat.le_of_lt hc) h1, fun d hd => ?_, ?_⟩
   ·rcases List.mem_cons.1 hd with rfl | hd
    ·exact h1
    ·exact h2 d hd
   ·rcases h3 with h3 | h3
    ·exact .inr (by rw [h3]; simp)
    ·exact .inr (List.mem_cons_of_mem _ h3)
  ·rw [if_neg hc] at h1 h2 h3 ⊢
   refine ⟨h1, fun d hd => ?_, ?_⟩
   ·rcases List.mem_cons.1 hd with rfl | hd
    ·exact Rat.le_trans (Rat.not_lt.1 hc) h1
    ·exact h2 d hd
   ·rcases h3 with h3 | h3
    ·exact .inl h3
    ·exact .inr (List.mem_cons_of_mem _ h3)
theorem mx_eq {m : Rat} {l l' : List Rat} (h : ∀ d, d ∈ l → d ∈ l') (h' : ∀ d, d ∈ l' → d ∈ l) : mx m l = mx m l' := by
 obtain ⟨a1, a2, a3⟩ := mx_spec l m
 obtain ⟨b1, b2, b3⟩ := mx_spec l' m
 apply Rat.le_antisymm
 ·rcases a3 with e | e
  ·rw [e]; exact b1
  ·exact b2 _ (h _ e)
 ·rcases b3 with e | e
  ·rw [e]; exact a1
  ·exact a2 _ (h' _ e)
def dI (p : Mt) (i k : Nat) : Rat := distQ (p.getD i []) (p.getD k [])
theorem abs_symm (a b : Rat) : absQ (a - b) = absQ (b - a) := by
 unfold absQ
 by_cases h : a < b
 ·rw [if_pos (by grind), if_neg (by grind)]; grind
 ·by_cases h2 : b < a
  ·rw [if_neg (by grind), if_pos (by grind)]; grind
  ·have : a = b := Rat.le_antisymm (Rat.not_lt.1 h2) (Rat.not_lt.1 h)
   subst this; rfl
theorem dist_symm {a b : List Rat} (h : a.length = b.length) : distQ a b = distQ b a := by
 unfold distQ
 rw [h]
 congr 1
 exact sN_congr fun i _ => by unfold distT; exact abs_symm _ _
theorem dI_symm {p : Mt} {m : Nat} (h : MtSz p m) {i k : Nat} (hi : i < p.length) (hk : k < p.length) : dI p i k = dI p k i := dist_symm (by rw [h.len hi, h.len hk])
theorem dI_sz {p : Mt} {m : Nat} (h : MtSz p m) (h1 : 1 ≤ m) {i k : Nat} (hi : i < p.length) (hk : k < p.length) : sz (dI p i k) ≤ 24 * m + 27 := by
 have h2 := distQ_sz (a := p.getD i []) (b := p.getD k []) (m := m) (h.sz _ (getD_mem hi)) (h.sz _ (getD_mem hk)) h1
 have h3 : (p.getD i []).length * (2 * m + 2) ≤ 12 * (2 * m + 2) := Nat.mul_le_mul_right _ (by rw [h.len hi]; exact h.n2)
 unfold dI
 omega
def PI (p : Mt) (i k : Nat) : List Rat := (List.range i).flatMap (fun a => (List.range a).map (dI p a)) ++ (List.range k).map (dI p i)
def PS (p : Mt) (i t : Nat) : List Rat := (List.range i).flatMap (fun a => (List.range (p.length - (a + 1))).map fun t => dI p a (a + 1 + t)) ++ (List.range t).map fun t => dI p i (i + 1 + t)
theorem PI_succ (p : Mt) (i k : Nat) : PI p i (k + 1) = PI p i k ++ [dI p i k] := by simp [PI, List.range_succ]
theorem PI_next (p : Mt) (i : Nat) : PI p i i = PI p (i + 1) 0 := by simp [PI, List.range_succ, List.flatMap_append]
theorem PS_succ (p : Mt) (i k : Nat) : PS p i (k + 1) = PS p i k ++ [dI p i (i + 1 + k)] := by simp [PS, List.range_succ]
theorem PS_next (p : Mt) (i : Nat) : PS p i (p.length - (i + 1)) = PS p (i + 1) 0 := by simp [PS, List.range_succ, List.flatMap_append]
theorem PI_mem {p : Mt} {i k : Nat} {d : Rat} (h : d ∈ PI p i k) : (∃ a b, a < i ∧ b < a ∧ d = dI p a b) ∨ ∃ b, b < k ∧ d = dI p i b := by
 unfold PI at h
 simp only [List.mem_append, List.mem_flatMap, List.mem_map, List.mem_range] at h
 rcases h with ⟨a, h1, b, h2, h3⟩ | ⟨b, h2, h3⟩
 ·exact .inl ⟨a, b, h1, h2, h3.symm⟩
 ·exact .inr ⟨b, h2, h3.symm⟩
theorem PS_mem {p : Mt} {i k : Nat} {d : Rat} (h : d ∈ PS p i k) : (∃ a b, a < i ∧ b < p.length - (a + 1) ∧ d = dI p a (a + 1 + b)) ∨ ∃ b, b < k ∧ d = dI p i (i + 1 + b) := by
 unfold PS at h
 simp only [List.mem_append, List.mem_flatMap, List.mem_map, List.mem_range] at h
 rcases h with ⟨a, h1, b, h2, h3⟩ | ⟨b, h2, h3⟩
 ·exact .inl ⟨a, b, h1, h2, h3.symm⟩
 ·exact .inr ⟨b, h2, h3.symm⟩
theorem PI_PS {p : Mt} {m : Nat} (h : MtSz p m) : mx 0 (PI p p.length 0) = mx 0 (PS p p.length 0) := by
 apply mx_eq
 ·intro d hd
  rcases PI_mem hd with ⟨a, b, h1, h2, rfl⟩ | ⟨b, h2, _⟩
  ·unfold PS
   simp only [List.mem_append, List.mem_flatMap, List.mem_map, List.mem_range]
   exact .inl ⟨b, by omega, a - (b + 1), by omega, by rw [show b + 1 + (a - (b + 1)) = a by omega]; exact dI_symm h (by omega) (by omega)⟩
  ·omega
 ·intro d hd
  rcases PS_mem hd with ⟨a, b, h1, h2, rfl⟩ | ⟨b, h2, _⟩
  ·unfold PI
   simp only [List.mem_append, List.mem_flatMap, List.mem_map, List.mem_range]
   exact .inl ⟨a + 1 + b, by omega, a, by omega, dI_symm h (by omega) (by omega)⟩
  ·omega
theorem mxI_sz {p : Mt} {m : Nat} (h : MtSz p m) (h1 : 1 ≤ m) {i k : Nat} (hi : i ≤ p.length) (hk : k ≤ i) (hk2 : i < p.length ∨ k = 0) : sz (mx 0 (PI p i k)) ≤ 24 * m + 27 := by
 rcases (mx_spec (PI p i k) 0).2.2 with e | e
 ·rw [e]; exact Nat.le_trans (by decide : sz (0 : Rat) ≤ 1) (by omega)
 ·rcases PI_mem e with ⟨a, b, g1, g2, g3⟩ | ⟨b, g2, g3⟩
  ·rw [g3]; exact dI_sz h h1 (by omega) (by omega)
  ·rw [g3]; exact dI_sz h h1 (by omega) (by omega)
theorem mxS_sz {p : Mt} {m : Nat} (h : MtSz p m) (h1 : 1 ≤ m) {i k : Nat} (hi : i ≤ p.length) (hk : k ≤ p.length - (i + 1)) (hk2 : i < p.length ∨ k = 0) : sz (mx 0 (PS p i k)) ≤ 24 * m + 27 := by
 rcases (mx_spec (PS p i k) 0).2.2 with e | e
 ·rw [e]; exact Nat.le_trans (by decide : sz (0 : Rat) ≤ 1) (by omega)
 ·rcases PS_mem e with ⟨a, b, g1, g2, g3⟩ | ⟨b, g2, g3⟩
  ·rw [g3]; exact dI_sz h h1 (by omega) (by omega)
  ·rw [g3]; exact dI_sz h h1 (by omega) (by omega)
def widestQ (p : Mt) : Rat := mx 0 (PI p p.length 0)
theorem widest_sz {p : Mt} {m : Nat} (h : MtSz p m) (h1 : 1 ≤ m) : sz (widestQ p) ≤ 24 * m + 27 := mxI_sz h h1 (Nat.le_refl _) (Nat.zero_le _) (.inr rfl)
theorem fn_widest (p : Mt) (m : Nat) (h : MtSz p m) (h1 : 1 ≤ m) (hm : m ≤ 10000000) : Fn Tryz.prog 47 [lM p] [] (rI (widestQ p)) [] := by
 have hz : ((cM p).length : Int) = p.length := by rw [cM_len]
 have hn1 := h.n1
 have hn2 := h.n2
 unfold widestQ
 refine Fn.intro (ks := [0,2,3,4,5,6,9,10,11,13,14,15,29]) hty rfl rfl rfl rfl rfl ?_
 conv => whnf
 refine VCall.of_data (fn_whole 0 (by decide) (by decide)) (ndA fun k => rfl) ?_
 conv => whnf
 refine VLoop.inv hty (S := Nat) (fun i => [(10, I i), (9, I p.length), (3, .lp 3 0), (2, .lp 2 0), (0, lM p)]) (fun i => [(3, .box true [B (ng (mx 0 (PI p i 0))), nI (tp (mx 0 (PI p i 0))), nI (mx 0 (PI p i 0)).den]), (2, .box true _)])
  (fun i => i ≤ p.length) (fun i => p.length - i) 0 (Nat.zero_le _) ⟨rfl, congrArg I hz, rfl, rfl, rfl, trivial⟩ ⟨rfl, rfl, trivial⟩ ?_
 intro i hi
 conv => whnf
 refine Br.mk (fun hb => ?_) (fun hb => ?_)
 ·have hb : i < p.length := by simp only [decide_eq_true_eq] at hb; omega
  conv => whnf
  refine VLoop.inv hty (S := Nat) (fun k => [(14, I k), (13, I i), (10, I i), (9, I p.length), (4, I i), (3, .lp 3 0), (2, .lp 2 0), (0, lM p)])
   (fun k => [(3, .box true [B (ng (mx 0 (PI p i k))), nI (tp (mx 0 (PI p i k))), nI (mx 0 (PI p i k)).den]), (2, .box true _)])
   (fun k => k ≤ i) (fun k => i - k) 0 (Nat.zero_le _) ⟨rfl, rfl, rfl, rfl, rfl, rfl, rfl, rfl, trivial⟩ ⟨rfl, rfl, trivial⟩ ?_
  intro k hk
  conv => whnf
  refine Br.mk (fun hc => ?_) (fun hc => ?_)
  ·have hc : k < i := by simp only [decide_eq_true_eq] at hc; omega
   have z1 := dI_sz h h1 hb (show k < p.length by omega)
   have z2 := mxI_sz h h1 hi hk (.inl hb)
   have cd := fn_distance (p.getD i []) (p.getD k []) m (h.sz _ (getD_mem hb)) (h.sz _ (getD_mem (by omega))) h1 (by rw [h.len hb, h.len (by omega)]) (by rw [h.len hb]; omega) hm
   rw [show distQ (p.getD i []) (p.getD k []) = dI p i k from rfl] at cd
   have cc := fn_rcmp (dI p i k) (mx 0 (PI p i k)) (by omega) (by omega)
   have es := mx_snoc 0 (PI p i k) (dI p i k)
   rw [← PI_succ] at es
   conv => whnf
   refine VDraw.go hmo hty 10 [[6], [6], [6], [6], [6], [6], [6], [6], [6], []] rfl ?_
   conv => whnf
   refine ⟨⟨⟨by omega, by rw [cM_len]; omega⟩, cM_sz _⟩, ?_⟩
   conv => whnf
   refine ⟨_, cM_as (x := p.getD i []) hb rfl, ?_⟩
   conv => whnf
   refine ⟨⟨⟨by omega, by rw [cM_len]; omega⟩, cM_sz _⟩, ?_⟩
   conv => whnf
   refine ⟨_, cM_as (x := p.getD k []) (by omega) rfl, ?_⟩
   conv => whnf
   refine QCall.of_data cd (ndA fun k => rfl) ?_
   conv => whnf
   refine VCall.of_data cc (nd _) ?_
   conv => whnf
   refine Br.mk (fun hd => ?_) (fun hd => ?_)
   ·have hd : mx 0 (PI p i k) < dI p i k := by
     simp only [decide_eq_true_eq] at hd
     exact Rat.not_le.1 fun e => by have := rcI_le.2 e; omega
    rw [if_pos hd] at es
    conv => whnf
    refine Wr.i64 (y := ((k + 1 : Nat) : Int)) rfl (by omega) (by omega) ?_
    conv => whnf
    refine ⟨k + 1, hc, by show i - (k + 1) < i - k; omega, ⟨rfl, rfl, rfl, rfl, rfl, rfl, rfl, rfl, trivial⟩, ?_, rfl, trivial⟩
    rw [es]; rfl
   ·have hd : ¬ mx 0 (PI p i k) < dI p i k := by
     simp only [decide_eq_false_iff_not] at hd
     exact Rat.not_lt.2 (rcI_le.1 (by omega))
    rw [if_neg hd] at es
    conv => whnf
    refine Wr.i64 (y := ((k + 1 : Nat) : Int)) rfl (by omega) (by omega) ?_
    conv => whnf
    refine ⟨k + 1, hc, by show i - (k + 1) < i - k; omega, ⟨rfl, rfl, rfl, rfl, rfl, rfl, rfl, rfl, trivial⟩, ?_, rfl, trivial⟩
    rw [es]; rfl
  ·have hc : k = i := by simp only [decide_eq_false_iff_not] at hc; omega
   subst hc
   conv => whnf
   refine Wr.i64 (y := ((k + 1 : Nat) : Int)) rfl (by omega) (by omega) ?_
   conv => whnf
   refine ⟨k + 1, hb, by show p.length - (k + 1) < p.length - k; omega, ⟨rfl, rfl, rfl, rfl, rfl, trivial⟩, ?_, rfl, trivial⟩
   rw [← PI_next]; rfl
 ·have hb : i = p.length := by simp only [decide_eq_false_iff_not] at hb; omega
  subst hb
  conv => whnf
  exact ⟨rfl, rfl, rfl, trivial, rfl⟩
theorem fn_sWidest (p : Mt) (m : Nat) (h : MtSz p m) (h1 : 1 ≤ m) (hm : m ≤ 10000000) : Fn Tryz.prog 39 [mP p] [] (rS (widestQ p)) [] := by
 have hz : ((cMS p).length : Int) = p.length := by rw [cMS_len]
 have hn1 := h.n1
 have hn2 := h.n2
 unfold widestQ
 rw [PI_PS h]
 refine Fn.intro (ks := [0,2,3,4,5,6,14,25,45]) hty rfl rfl rfl rfl rfl ?_
 conv => whnf
 refine VCall.of_data fn_sNone (ndA fun k => rfl) ?_
 conv => whnf
 refine VLoop.inv hty (S := Nat) (fun i => [(4, I i), (3, .lp 3 0), (2, .lp 2 0), (0, mP p)]) (fun i => [(3, .box true [B (ng (mx 0 (PS p i 0))), nS (tp (mx 0 (PS p i 0))), nS (mx 0 (PS p i 0)).den]), (2, .box true _)])
  (fun i => i ≤ p.length) (fun i => p.length - i) 0 (Nat.zero_le _) ⟨rfl, rfl, rfl, rfl, trivial⟩ ⟨rfl, rfl, trivial⟩ ?_
 intro i hi
 conv => whnf
 rw [hz]
 refine Br.mk (fun hb => ?_) (fun hb => ?_)
 ·have hb : i < p.length := by simp only [decide_eq_true_eq] at hb; omega
  conv => whnf
  refine Wr.i64 (y := ((i + 1 + 0 : Nat) : Int)) rfl (by omega) (by omega) ?_
  conv => whnf
  refine VLoop.inv hty (S := Nat) (fun k => [(5, I ((i + 1 + k : Nat) : Int)), (4, I i), (3, .lp 3 0), (2, .lp 2 0), (0, mP p)])
   (fun k => [(3, .box true [B (ng (mx 0 (PS p i k))), nS (tp (mx 0 (PS p i k))), nS (mx 0 (PS p i k)).den]), (2, .box true _)])
   (fun k => k ≤ p.length - (i + 1)) (fun k => p.length - k) 0 (Nat.zero_le _) ⟨rfl, rfl, rfl, rfl, rfl, trivial⟩ ⟨rfl, rfl, trivial⟩ ?_
  intro k hk
  conv => whnf
  rw [hz]
  refine Br.mk (fun hc => ?_) (fun hc => ?_)
  ·have hc : i + 1 + k < p.length := by simp only [decide_eq_true_eq] at hc; omega
   have z1 := dI_sz h h1 hb hc
   have z2 := mxS_sz h h1 hi hk (.inl hb)
   have cd := fn_sDistance (p.getD i []) (p.getD (i + 1 + k) []) m (h.sz _ (getD_mem hb)) (h.sz _ (getD_mem hc)) h1 (by rw [h.len hb, h.len hc]) (by rw [h.len hb]; omega) hm
   rw [show distQ (p.getD i []) (p.getD (i + 1 + k) []) = dI p i (i + 1 + k) from rfl] at cd
   have cc := fn_sLess2 (mx 0 (PS p i k)) (dI p i (i + 1 + k)) (by omega) (by omega)
   have es := mx_snoc 0 (PS p i k) (dI p i (i + 1 + k))
   rw [← PS_succ] at es
   conv => whnf
   refine VDraw.go hmo hty 16 [[6], [6], [6], [6], [6], [6], [6], [6], [6], [6], [6], [6], [6], [6], [6], []] rfl ?_
   conv => whnf
   refine ⟨⟨⟨by omega, by rw [cMS_len]; omega⟩, cMS_sz _⟩, ?_⟩
   conv => whnf
   refine ⟨_, cMS_as (x := p.getD i []) hb rfl, ?_⟩
   conv => whnf
   refine ⟨⟨⟨by omega, by rw [cMS_len]; omega⟩, cMS_sz _⟩, ?_⟩
   conv => whnf
   refine ⟨_, cMS_as (x := p.getD (i + 1 + k) []) hc rfl, ?_⟩
   conv => whnf
   refine QCall.of_data cd (ndA fun k => rfl) ?_
   conv => whnf
   refine VCall.of_data cc (nd _) ?_
   conv => whnf
   refine Br.mk (fun hd => ?_) (fun hd => ?_)
   ·have hd : mx 0 (PS p i k) < dI p i (i + 1 + k) := by simpa using hd
    rw [if_pos hd] at es
    conv => whnf
    refine Wr.i64 (y := ((i + 1 + (k + 1) : Nat) : Int)) rfl (by omega) (by omega) ?_
    conv => whnf
    refine ⟨k + 1, by show k + 1 ≤ p.length - (i + 1); omega, by show p.length - (k + 1) < p.length - k; omega, ⟨rfl, rfl, rfl, rfl, rfl, trivial⟩, ?_, rfl, trivial⟩
    rw [es]; rfl
   ·have hd : ¬ mx 0 (PS p i k) < dI p i (i + 1 + k) := by simpa using hd
    rw [if_neg hd] at es
    conv => whnf
    refine Wr.i64 (y := ((i + 1 + (k + 1) : Nat) : Int)) rfl (by omega) (by omega) ?_
    conv => whnf
    refine ⟨k + 1, by show k + 1 ≤ p.length - (i + 1); omega, by show p.length - (k + 1) < p.length - k; omega, ⟨rfl, rfl, rfl, rfl, rfl, trivial⟩, ?_, rfl, trivial⟩
    rw [es]; rfl
  ·have hc : k = p.length - (i + 1) := by simp only [decide_eq_false_iff_not] at hc; omega
   rw [hc, PS_next]
   conv => whnf
   refine Wr.i64 (y := ((i + 1 : Nat) : Int)) rfl (by omega) (by omega) ?_
   conv => whnf
   exact ⟨i + 1, hb, by show p.length - (i + 1) < p.length - i; omega, ⟨rfl, rfl, rfl, rfl, trivial⟩, rfl, rfl, trivial⟩
 ·have hb : i = p.length := by simp only [decide_eq_false_iff_not] at hb; omega
  subst hb
  conv => whnf
  exact ⟨rfl, rfl, rfl, trivial, rfl⟩
end Go.V
namespace Go.V
open Go.Proofs Go.RowKit
set_option maxRecDepth 10000
set_option maxHeartbeats 1000000
structure ChIn (rows : List (List (List UInt8))) : Prop where
 l : rows.length ≤ 1000000
 r : ∀ r, r ∈ rows → r.length ≤ 1000000
 s : ∀ r, r ∈ rows → ∀ x, x ∈ r → x.length ≤ 1000000
theorem fn_ofChain (rows : List (List (List UInt8))) (hi : ChIn rows) (f : Nat) (caps : List C) (g : Mt → Rat) (hf : ∀ p, MtOk p → Fn Tryz.prog f ([lM p] ++ capAs caps) [] (rI (g p)) [] ∧ sz (g p) ≤ 100000000000) :
  Fn Tryz.prog 63 [chI rows, .d (.fn f caps)] [] (.tup [Str (toldO ((chainQ rows).map g)).1, B (toldO ((chainQ rows).map g)).2]) [] := by
 have c1 := fn_chainOf rows hi.l hi.r hi.s
 refine Fn.intro (ks := [0,1,2,4,5,6,7,14]) hty rfl rfl rfl rfl rfl ?_
 conv => whnf
 cases h : chainQ rows with
 | none =>
  rw [h] at c1
  refine VCall.of_data c1 (ndT fun _ => rfl) ?_
  conv => whnf
  exact ⟨rfl, rfl, trivial, rfl⟩
 | some p =>
  obtain ⟨c2, z2⟩ := hf p (chainQ_ok h)
  have c3 := fn_told (g p) z2
  rw [h] at c1
  replace c1 : Fn Tryz.prog 44 [chI rows] [] (.tup [lM p, B true]) [] := c1
  refine VCall.of_data c1 (ndT fun _ => rfl) ?_
  conv => whnf
  refine VCall.of_data c2 (ndA fun k => rfl) ?_
  conv => whnf
  refine VCall.of_data c3 (ndT fun _ => rfl) ?_
  conv => whnf
  exact ⟨rfl, rfl, trivial, rfl⟩
theorem common_sz {p : Mt} {m : Nat} (h : MtSz p m) : sz (commonQ p) ≤ 12 * (m + 1) + 1 := by
 have h1 := sz_sN (fun j (hj : j < p.length) => h.min_sz hj (Nat.le_refl p.length)) p.length (Nat.le_refl _)
 have h2 : p.length * (m + 1) ≤ 12 * (m + 1) := Nat.mul_le_mul_right _ h.n2
 have h3 : sz (commonQ p) ≤ p.length * (m + 1) + 1 := h1
 omega
theorem fn_CommonShare (rows : List (List (List UInt8))) (hi : ChIn rows) : Fn Tryz.prog 24 [chI rows] [] (.tup [Str (toldO ((chainQ rows).map commonQ)).1, B (toldO ((chainQ rows).map commonQ)).2]) [] := by
 have c := fn_ofChain rows hi 64 [] commonQ fun p hp => ⟨fn_common p 800 hp.toSz (by decide), by have := common_sz hp.toSz; omega⟩
 refine Fn.intro (ks := [0,1,2,3]) hty rfl rfl rfl rfl rfl ?_
 conv => whnf
 refine VCall.of_data c (ndT fun _ => rfl) ?_
 conv => whnf
 exact ⟨rfl, rfl, trivial, rfl⟩
theorem fn_WidestRows (rows : List (List (List UInt8))) (hi : ChIn rows) : Fn Tryz.prog 26 [chI rows] [] (.tup [Str (toldO ((chainQ rows).map widestQ)).1, B (toldO ((chainQ rows).map widestQ)).2]) [] := by
 have c := fn_ofChain rows hi 47 [] widestQ fun p hp => ⟨fn_widest p 800 hp.toSz (by decide) (by decide), by have := widest_sz hp.toSz (by decide); omega⟩
 refine Fn.intro (ks := [0,1,2,3]) hty rfl rfl rfl rfl rfl ?_
 conv => whnf
 refine VCall.of_data c (ndT fun _ => rfl) ?_
 conv => whnf
 exact ⟨rfl, rfl, trivial, rfl⟩
theorem fn_RestBound1 (p : Mt) (h : MtOk p) (n : Nat) (hn : n ≤ 40) : Fn Tryz.prog 68 ([lM p] ++ capAs [.ptr [.s (.int .i64 n)]]) [] (rI (widestQ p ^ n)) [] := by
 have z := widest_sz h.toSz (by decide)
 have c1 := fn_widest p 800 h.toSz (by decide) (by decide)
 have zn : n * sz (widestQ p) ≤ 40 * sz (widestQ p) := Nat.mul_le_mul_right _ hn
 have c2 := fn_power (widestQ p) n (by omega) (by omega)
 refine Fn.intro (ks := [0,1,3]) hty rfl rfl rfl rfl rfl ?_
 conv => whnf
 refine VDraw.go hmo hty 4 [] rfl ?_
 conv => whnf
 refine QCall.of_data c1 (ndA fun k => rfl) ?_
 conv => whnf
 refine QCall.of_data c2 (ndA fun k => rfl) ?_
 conv => whnf
 exact ⟨rfl, rfl, rfl, trivial, rfl⟩
def boundO (rows : List (List (List UInt8))) (n : Int) : Option Rat := if 0 ≤ n ∧ n ≤ 40 then (chainQ rows).map fun p => widestQ p ^ n.toNat else none
theorem inB (n a b : Int) : (decide (a ≤ n) && decide (n ≤ b)) = decide (a ≤ n ∧ n ≤ b) := by simp
theorem fn_RestBound (rows : List (List (List UInt8))) (n : Int) (hi : ChIn rows) : Fn Tryz.prog 28 [chI rows, I n] [] (.tup [Str (toldO (boundO rows n)).1, B (toldO (boundO rows n)).2]) [] := by
 have c1 := fn_in n 0 40
 rw [inB] at c1
 refine Fn.intro (ks := [0,1,2,3,4,5,8]) hty rfl rfl rfl rfl rfl ?_
 conv => whnf
 refine VCall.of_data c1 (nd _) ?_
 conv => whnf
 unfold boundO
 by_cases h : 0 ≤ n ∧ n ≤ 40
 ·obtain ⟨k, rfl⟩ : ∃ k : Nat, n = k := ⟨n.toNat, by omega⟩
  have hk : k ≤ 40 := by omega
  have c2 := fn_ofChain rows hi 68 [.ptr [.s (.int .i64 k)]] (fun p => widestQ p ^ k) fun p hp => ⟨fn_RestBound1 p hp k hk, by
   have z := widest_sz hp.toSz (by decide)
   have zn : k * sz (widestQ p) ≤ 40 * sz (widestQ p) := Nat.mul_le_mul_right _ hk
   have := sz_pow (widestQ p) k
   omega⟩
  rw [decide_eq_true h, if_pos h]
  conv => whnf
  refine VCall.of_data c2 (ndT fun _ => rfl) ?_
  conv => whnf
  exact ⟨rfl, rfl, trivial, rfl⟩
 ·rw [decide_eq_false h, if_neg h]
  conv => whnf
  exact ⟨rfl, rfl, trivial, rfl⟩
theorem fn_sCommonShare (rows : List (List (List UInt8))) (hi : ChIn rows) : Fn Tryz.prog 23 [chI rows] [] (.tup [Str (toldO ((chainQ rows).map commonQ)).1, B (toldO ((chainQ rows).map commonQ)).2]) [] := by
 refine Fn.intro (ks := [0,1,2,3,4,5,11]) hty rfl rfl rfl rfl rfl ?_
 conv => whnf
 have c1 := fn_l03Parse rows hi.l hi.r hi.s
 refine VCall.thaw 1 (cs := [.sl (cTT rows)]) rfl ?_
 cases h : chainQ rows with
 | none =>
  rw [h] at c1
  refine VCall.of_data c1 (ndT fun _ => rfl) ?_
  conv => whnf
  exact ⟨rfl, rfl, trivial, rfl⟩
 | some p =>
  have hp := chainQ_ok h
  rw [h] at c1
  replace c1 : Fn Tryz.prog 37 [chP rows] [] (.tup [mS p, B true]) [] := c1
  refine VCall.of_data c1 (ndT fun _ => rfl) ?_
  conv => whnf
  have c2 := fn_sCommon p 800 hp.toSz (by decide)
  have c3 := fn_l02Give (commonQ p) (by have := common_sz hp.toSz; omega)
  refine VCall.thaw 4 (cs := [.sl (cMS p)]) rfl ?_
  refine VCall.of_data c2 (ndA fun k => rfl) ?_
  conv => whnf
  refine VCall.of_data c3 (ndT fun _ => rfl) ?_
  conv => whnf
  exact ⟨rfl, rfl, trivial, rfl⟩
theorem fn_sWidestRows (rows : List (List (List UInt8))) (hi : ChIn rows) : Fn Tryz.prog 25 [chI rows] [] (.tup [Str (toldO ((chainQ rows).map widestQ)).1, B (toldO ((chainQ rows).map widestQ)).2]) [] := by
 refine Fn.intro (ks := [0,1,2,3,4,5,11]) hty rfl rfl rfl rfl rfl ?_
 conv => whnf
 have c1 := fn_l03Parse rows hi.l hi.r hi.s
 refine VCall.thaw 1 (cs := [.sl (cTT rows)]) rfl ?_
 cases h : chainQ rows with
 | none =>
  rw [h] at c1
  refine VCall.of_data c1 (ndT fun _ => rfl) ?_
  conv => whnf
  exact ⟨rfl, rfl, trivial, rfl⟩
 | some p =>
  have hp := chainQ_ok h
  rw [h] at c1
  replace c1 : Fn Tryz.prog 37 [chP rows] [] (.tup [mS p, B true]) [] := c1
  refine VCall.of_data c1 (ndT fun _ => rfl) ?_
  conv => whnf
  have c2 := fn_sWidest p 800 hp.toSz (by decide) (by decide)
  have c3 := fn_l02Give (widestQ p) (by have := widest_sz hp.toSz (by decide); omega)
  refine VCall.thaw 4 (cs := [.sl (cMS p)]) rfl ?_
  refine VCall.of_data c2 (ndA fun k => rfl) ?_
  conv => whnf
  refine VCall.of_data c3 (ndT fun _ => rfl) ?_
  conv => whnf
  exact ⟨rfl, rfl, trivial, rfl⟩
theorem fn_sSteps (n : Int) : Fn Tryz.prog 65 [I n] [] (B (decide (0 ≤ n ∧ n ≤ 40))) [] := by
 have c1 := fn_l00In n 0 40
 rw [inB] at c1
 refine Fn.intro (ks := [0,2]) hty rfl rfl rfl rfl rfl ?_
 conv => whnf
 refine VCall.of_data c1 (nd _) ?_
 conv => whnf
 exact ⟨rfl, trivial, rfl⟩
theorem boundO_none {rows : List (List (List UInt8))} (h : chainQ rows = none) (n : Int) : boundO rows n = none := by unfold boundO; rw [h]; split <;> rfl
theorem fn_sRestBound (rows : List (List (List UInt8))) (n : Int) (hi : ChIn rows) : Fn Tryz.prog 27 [chI rows, I n] [] (.tup [Str (toldO (boundO rows n)).1, B (toldO (boundO rows n)).2]) [] := by
 refine Fn.intro (ks := [0,1,2,4,5,6,7,18]) hty rfl rfl rfl rfl rfl ?_
 conv => whnf
 have c1 := fn_l03Parse rows hi.l hi.r hi.s
 refine VCall.thaw 2 (cs := [.sl (cTT rows)]) rfl ?_
 cases h : chainQ rows with
 | none =>
  rw [h] at c1
  refine VCall.of_data c1 (ndT fun _ => rfl) ?_
  conv => whnf
  rw [boundO_none h]; exact ⟨rfl, rfl, trivial, rfl⟩
 | some p =>
  have hp := chainQ_ok h
  rw [h] at c1
  replace c1 : Fn Tryz.prog 37 [chP rows] [] (.tup [mS p, B true]) [] := c1
  refine VCall.of_data c1 (ndT fun _ => rfl) ?_
  conv => whnf
  refine VCall.of_data (fn_sSteps n) (nd _) ?_
  conv => whnf
  unfold boundO
  rw [h]
  by_cases hn : 0 ≤ n ∧ n ≤ 40
  ·obtain ⟨k, rfl⟩ : ∃ k : Nat, n = k := ⟨n.toNat, by omega⟩
   have hk : k ≤ 40 := by omega
   have z := widest_sz hp.toSz (by decide)
   have zn : k * sz (widestQ p) ≤ 40 * sz (widestQ p) := Nat.mul_le_mul_right _ hk
   have zp := sz_pow (widestQ p) k
   have c2 := fn_sWidest p 800 hp.toSz (by decide) (by decide)
   have c4 := fn_sPower (widestQ p) k (by omega) (by omega)
   have c3 := fn_l02Give (widestQ p ^ k) (by omega)
   rw [decide_eq_true hn, if_pos hn]
   conv => whnf
   refine VCall.thaw 6 (cs := [.sl (cMS p)]) rfl ?_
   refine VCall.of_data c2 (ndA fun k => rfl) ?_
   conv => whnf
   refine VCall.of_data c4 (ndA fun k => rfl) ?_
   conv => whnf
   refine VCall.of_data c3 (ndT fun _ => rfl) ?_
   conv => whnf
   exact ⟨rfl, rfl, trivial, rfl⟩
  ·rw [decide_eq_false hn, if_neg hn]
   conv => whnf
   exact ⟨rfl, rfl, trivial, rfl⟩
def restF (w x : Rat) : Nat → Nat → Option Nat
 | 0, _ => none
 | f + 1, n => if w ^ n ≤ x then some n else restF w x f (n + 1)
def stepsO (rows : List (List (List UInt8))) (near : List UInt8) : Option Nat := match chainQ rows, rdRat near with
 | some p, some x => restF (widestQ p) x 41 0
 | _, _ => none
theorem restF_step {w x : Rat} {n : Nat} (h : n < 41) : restF w x (41 - n) n = if w ^ n ≤ x then some n else restF w x (41 - (n + 1)) (n + 1) := by
 rw [show 41 - n = (41 - (n + 1)) + 1 by omega, restF]
theorem fn_StepsToRest (rows : List (List (List UInt8))) (near : List UInt8) (hi : ChIn rows) (hl : near.length ≤ 1000000) : Fn Tryz.prog 14 [chI rows, Str near] [] (.tup [I ((stepsO rows near).getD 0 : Nat), B (stepsO rows near).isSome]) [] := by
 have c1 := fn_chainOf rows hi.l hi.r hi.s
 have c2 := fn_readRat near (by omega)
 refine Fn.intro (ks := [0,1,2,4,5,6,7,8,9,10,11,12,28,32,33,38]) hty rfl rfl rfl rfl rfl ?_
 conv => whnf
 cases h : chainQ rows with
 | none =>
  rw [h] at c1
  refine VCall.of_data c1 (ndT fun _ => rfl) ?_
  conv => whnf
  cases h2 : rdRat near with
  | none =>
   rw [show stepsO rows near = none by unfold stepsO; rw [h, h2]]
   rw [h2] at c2
   refine VCall.of_data c2 (ndT fun _ => rfl) ?_
   conv => whnf
   exact ⟨rfl, rfl, trivial, rfl⟩
  | some x =>
   rw [show stepsO rows near = none by unfold stepsO; rw [h, h2]]
   rw [h2] at c2
   refine VCall.of_data c2 (ndT fun _ => rfl) ?_
   conv => whnf
   exact ⟨rfl, rfl, trivial, rfl⟩
 | some p =>
  have hp := chainQ_ok h
  rw [h] at c1
  replace c1 : Fn Tryz.prog 44 [chI rows] [] (.tup [lM p, B true]) [] := c1
  refine VCall.of_data c1 (ndT fun _ => rfl) ?_
  conv => whnf
  cases h2 : rdRat near with
  | none =>
   rw [show stepsO rows near = none by unfold stepsO; rw [h, h2]]
   rw [h2] at c2
   refine VCall.of_data c2 (ndT fun _ => rfl) ?_
   conv => whnf
   exact ⟨rfl, rfl, trivial, rfl⟩
  | some x =>
   have zw := widest_sz hp.toSz (by decide)
   have zx := rdRat_sz h2
   rw [h2] at c2
   replace c2 : Fn Tryz.prog 45 [Str near] [] (.tup [rI x, B true]) [] := c2
   have c3 := fn_whole 1 (by decide) (by decide)
   have c4 := fn_widest p 800 hp.toSz (by decide) (by decide)
   rw [show stepsO rows near = restF (widestQ p) x 41 0 by unfold stepsO; rw [h, h2]]
   generalize widestQ p = w at zw c4 ⊢
   rw [show ((1 : Int) : Rat) = w ^ 0 by rw [Rat.pow_zero]; rfl] at c3
   have hpow : ∀ n, w ^ n * w = w ^ (n + 1) := fun n => (Rat.pow_succ w n).symm
   refine VCall.of_data c2 (ndT fun _ => rfl) ?_
   conv => whnf
   refine VCall.of_data c3 (ndA fun k => rfl) ?_
   conv => whnf
   refine VCall.of_data c4 (ndA fun k => rfl) ?_
   conv => whnf
   refine VLoop.inv hty (S := Nat) (fun n => [(32, I n), (11, .lp 11 0), (10, .lp 10 0), (8, .lp 8 0)])
    (fun n => [(11, .box true [B (ng w), nI (tp w), nI w.den]), (10, .box true [B (ng (w ^ n)), nI (tp (w ^ n)), nI (w ^ n).den]), (8, .box true [B (ng x), nI (tp x), nI x.den])])
    (fun n => n ≤ 41 ∧ restF w x 41 0 = restF w x (41 - n) n) (fun n => 41 - n) 0 ⟨Nat.zero_le _, rfl⟩ ⟨rfl, rfl, rfl, rfl, trivial⟩ ⟨rfl, rfl, rfl, trivial⟩ ?_
   rintro n ⟨g1, g2⟩
   conv => whnf
   refine Br.mk (fun hb => ?_) (fun hb => ?_)
   ·have hb : n < 41 := by simp only [decide_eq_true_eq] at hb; omega
    have zp := sz_pow w n
    have zn : n * sz w ≤ 41 * sz w := Nat.mul_le_mul_right _ (by omega)
    have cc := fn_rcmp (w ^ n) x (by omega) (by omega)
    have cm := fn_rmul (w ^ n) w (by omega) (by omega)
    rw [hpow] at cm
    rw [restF_step hb] at g2
    conv => whnf
    refine VCall.of_data cc (nd _) ?_
    conv => whnf
    refine Br.mk (fun hd => ?_) (fun hd => ?_)
    ·have hd : w ^ n ≤ x := rcI_le.1 (by simpa using hd)
     rw [if_pos hd] at g2
     rw [g2]
     conv => whnf
     exact ⟨rfl, rfl, trivial, rfl⟩
    ·have hd : ¬ w ^ n ≤ x := fun e => by have := rcI_le.2 e; simp at hd; omega
     rw [if_neg hd] at g2
     conv => whnf
     refine VCall.of_data cm (ndA fun k => rfl) ?_
     conv => whnf
     refine Wr.i64 (y := ((n + 1 : Nat) : Int)) rfl (by omega) (by omega) ?_
     conv => whnf
     exact ⟨n + 1, ⟨by omega, g2⟩, by show 41 - (n + 1) < 41 - n; omega, ⟨rfl, rfl, rfl, rfl, trivial⟩, rfl, rfl, rfl, trivial⟩
   ·have hb : n = 41 := by simp only [decide_eq_false_iff_not] at hb; omega
    subst hb
    rw [g2]
    conv => whnf
    exact ⟨rfl, rfl, trivial, rfl⟩
theorem fn_sStepsToRest (rows : List (List (List UInt8))) (near : List UInt8) (hi : ChIn rows) (hl : near.length ≤ 1000000) : Fn Tryz.prog 12 [chI rows, Str near] [] (.tup [I ((stepsO rows near).getD 0 : Nat), B (stepsO rows near).isSome]) [] := by
 have c2 := fn_sParse near (by omega)
 refine Fn.intro (ks := [0,1,2,4,5,6,7,8,9,10,11,12,27,31,37]) hty rfl rfl rfl rfl rfl ?_
 conv => whnf
 have c1 := fn_l03Parse rows hi.l hi.r hi.s
 refine VCall.thaw 2 (cs := [.sl (cTT rows)]) rfl ?_
 cases h : chainQ rows with
 | none =>
  rw [h] at c1
  refine VCall.of_data c1 (ndT fun _ => rfl) ?_
  conv => whnf
  rw [show stepsO rows near = none by unfold stepsO; rw [h]]; cases h2 : rdRat near <;> (rw [h2] at c2; refine VCall.of_data c2 (ndT fun _ => rfl) ?_; conv => whnf) <;> exact ⟨rfl, rfl, trivial, rfl⟩
 | some p =>
  have hp := chainQ_ok h
  rw [h] at c1
  replace c1 : Fn Tryz.prog 37 [chP rows] [] (.tup [mS p, B true]) [] := c1
  refine VCall.of_data c1 (ndT fun _ => rfl) ?_
  conv => whnf
  cases h2 : rdRat near with
  | none =>
   rw [show stepsO rows near = none by unfold stepsO; rw [h, h2]]
   rw [h2] at c2
   refine VCall.of_data c2 (ndT fun _ => rfl) ?_
   conv => whnf
   exact ⟨rfl, rfl, trivial, rfl⟩
  | some x =>
   have zw := widest_sz hp.toSz (by decide)
   have zx := rdRat_sz h2
   rw [h2] at c2
   replace c2 : Fn Tryz.prog 38 [Str near] [] (.tup [rS x, B true]) [] := c2
   have c3 := fn_sOne
   have c4 := fn_sWidest p 800 hp.toSz (by decide) (by decide)
   rw [show stepsO rows near = restF (widestQ p) x 41 0 by unfold stepsO; rw [h, h2]]
   generalize widestQ p = w at zw c4 ⊢
   rw [show (1 : Rat) = w ^ 0 by rw [Rat.pow_zero]] at c3
   have hpow : ∀ n, w ^ n * w = w ^ (n + 1) := fun n => (Rat.pow_succ w n).symm
   refine VCall.of_data c2 (ndT fun _ => rfl) ?_
   conv => whnf
   refine VCall.thaw 6 (cs := [.sl (cMS p)]) rfl ?_
   refine VCall.of_data c4 (ndA fun k => rfl) ?_
   conv => whnf
   refine VCall.of_data c3 (ndA fun k => rfl) ?_
   conv => whnf
   refine VLoop.inv hty (S := Nat) (fun n => [(12, I n), (11, .lp 11 0), (10, .lp 10 0), (8, .lp 8 0)])
    (fun n => [(10, .box true [B (ng w), nS (tp w), nS w.den]), (11, .box true [B (ng (w ^ n)), nS (tp (w ^ n)), nS (w ^ n).den]), (8, .box true [B (ng x), nS (tp x), nS x.den])])
    (fun n => n ≤ 41 ∧ restF w x 41 0 = restF w x (41 - n) n) (fun n => 41 - n) 0 ⟨Nat.zero_le _, rfl⟩ ⟨rfl, rfl, rfl, rfl, trivial⟩ ⟨rfl, rfl, rfl, trivial⟩ ?_
   rintro n ⟨g1, g2⟩
   conv => whnf
   refine Br.mk (fun hb => ?_) (fun hb => ?_)
   ·have hb : n < 41 := by simp only [decide_eq_true_eq] at hb; omega
    have zp := sz_pow w n
    have zn : n * sz w ≤ 41 * sz w := Nat.mul_le_mul_right _ (by omega)
    have cc := fn_sLess2 x (w ^ n) (by omega) (by omega)
    have cm := fn_sTimes (w ^ n) w (by omega)
    rw [hpow] at cm
    rw [restF_step hb] at g2
    conv => whnf
    refine VCall.of_data cc (nd _) ?_
    conv => whnf
    by_cases hd : w ^ n ≤ x
    ·rw [decide_eq_false (Rat.not_lt.2 hd)]
     rw [if_pos hd] at g2
     rw [g2]
     conv => whnf
     exact ⟨rfl, rfl, trivial, rfl⟩
    ·rw [decide_eq_true (Rat.not_le.1 hd)]
     rw [if_neg hd] at g2
     conv => whnf
     refine VCall.of_data cm (ndA fun k => rfl) ?_
     conv => whnf
     refine Wr.i64 (y := ((n + 1 : Nat) : Int)) rfl (by omega) (by omega) ?_
     conv => whnf
     exact ⟨n + 1, ⟨by omega, g2⟩, by show 41 - (n + 1) < 41 - n; omega, ⟨rfl, rfl, rfl, rfl, trivial⟩, rfl, rfl, rfl, trivial⟩
   ·have hb : n = 41 := by simp only [decide_eq_false_iff_not] at hb; omega
    subst hb
    rw [g2]
    conv => whnf
    exact ⟨rfl, rfl, trivial, rfl⟩
end Go.V
namespace Go.V
open Go.Proofs Go.RowKit
set_option maxRecDepth 10000
set_option maxHeartbeats 1000000
abbrev Tss := List (List (List UInt8))
theorem drop_cons_getD1 {xs : Tss} {i : Nat} {r : List (List UInt8)} (h : i < xs.length) (e : xs.getD i [] = r) : xs.drop i = r :: xs.drop (i + 1) := by
 rw [List.drop_eq_getElem_cons h, ← e, List.getD_eq_getElem?_getD, List.getElem?_eq_getElem h]; rfl
def szR : Int → Tss → Int
 | n, [] => n
 | n, r :: rs => if szTT n r < 0 then -1 else szR (szTT n r) rs
def szRR (n : Int) (rows : Tss) : Int := if n - rows.length < 0 then -1 else szR (n - rows.length) rows
theorem szR_fits : ∀ {rows : Tss} {n : Int}, 0 ≤ n → 0 ≤ szR n rows → szR n rows ≤ n ∧ ∀ r, r ∈ rows → (r.length : Int) ≤ n ∧ ∀ x, x ∈ r → (x.length : Int) ≤ n
 | [], n, _, h => ⟨Int.le_refl n, fun r hr => (by cases hr)⟩
 | r :: rs, n, h0, h => by
  unfold szR at h ⊢
  split at h
  ·omega
  ·rename_i hc
   rw [if_neg hc]
   have h1 := szTT_fits (n := n) (xs := r) (by omega)
   have h2 := szTT_le (xs := r) (n := n) (by omega)
   obtain ⟨g1, g2⟩ := szR_fits (rows := rs) (by omega) h
   refine ⟨by omega, fun s hs => ?_⟩
   rcases List.mem_cons.1 hs with rfl | hs
   ·exact ⟨h1.1, h1.2⟩
   ·obtain ⟨u1, u2⟩ := g2 s hs
    exact ⟨by omega, fun x hx => by have := u2 x hx; omega⟩
theorem szRR_in {rows : Tss} {n : Int} (h : 0 ≤ szRR n rows) (hn : n ≤ 1000000) : ChIn rows := by
 unfold szRR at h
 split at h
 ·omega
 ·obtain ⟨g1, g2⟩ := szR_fits (by omega) h
  exact ⟨by omega, fun r hr => by have := (g2 r hr).1; omega, fun r hr x hx => by have := (g2 r hr).2 x hx; omega⟩
theorem szRR_le {rows : Tss} {n : Int} (h : 0 ≤ szRR n rows) : szRR n rows ≤ n := by
 unfold szRR at h ⊢
 split at h
 ·omega
 ·rename_i hc
  rw [if_neg hc]
  have := (szR_fits (rows := rows) (by omega) h).1
  omega
theorem fn_szSS (rows : Tss) (n : Int) (hl : rows.length ≤ 281474976710656) (hr : ∀ r, r ∈ rows → r.length ≤ 281474976710656) (hs : ∀ r, r ∈ rows → ∀ x, x ∈ r → x.length ≤ 281474976710656) (hn : n ≤ 1000000) (hn0 : -281474976710656 ≤ n) :
  Fn Tryz.prog 36 [.d (.sl (cTT rows)), I n] [] (I (szRR n rows)) [] := by
 refine Fn.intro (ks := [0,1,4,5,11,15,25]) hty rfl rfl rfl rfl rfl ?_
 conv => whnf
 rw [cTT_len]
 refine Wr.fit (wrap_i64 (by omega) (by omega)) ?_
 conv => whnf
 unfold szRR
 refine Br.mk (fun h => ?_) (fun h => ?_)
 ·have h : n - rows.length < 0 := by simpa using h
  conv => whnf
  refine ⟨?_, trivial, rfl⟩
  rw [if_pos h]
 ·have h : ¬ n - (rows.length : Int) < 0 := by simpa using h
  rw [if_neg h]
  conv => whnf
  obtain ⟨m0, e0⟩ : ∃ m0, n - (rows.length : Int) = m0 := ⟨_, rfl⟩
  rw [e0] at h ⊢
  refine VLoop.inv hty (S := Nat × Int) (fun s => [(5, I s.1), (1, I s.2), (0, .d (.sl (cTT rows)))]) (fun _ => []) (fun s => s.1 ≤ rows.length ∧ 0 ≤ s.2 ∧ s.2 ≤ n ∧ szR s.2 (rows.drop s.1) = szR m0 rows) (fun s => rows.length - s.1) (0, m0)
   ⟨Nat.zero_le _, by omega, by omega, rfl⟩ ⟨rfl, rfl, rfl, trivial⟩ trivial ?_
  rintro s ⟨hk, h0, h1, hp⟩
  conv => whnf
  rw [cTT_len]
  refine Br.mk (fun h => ?_) (fun h => ?_)
  ·have hk' : s.1 < rows.length := by simp at h; omega
   obtain ⟨r, er⟩ : ∃ r, rows.getD s.1 [] = r := ⟨_, rfl⟩
   have hm : r ∈ rows := by rw [← er]; exact getD_mem hk'
   have c1 := fn_szT r s.2 (hr r hm) (hs r hm) (by omega) (by omega)
   have hle := szTT_le (xs := r) (n := s.2) (by omega)
   rw [drop_cons_getD1 hk' er, szR] at hp
   obtain ⟨m1, e1⟩ : ∃ m1, szTT s.2 r = m1 := ⟨_, rfl⟩
   rw [e1] at c1 hle hp
   conv => whnf
   refine ⟨⟨⟨by omega, by rw [cTT_len]; omega⟩, cTT_sz _⟩, ?_⟩
   conv => whnf
   refine ⟨_, cTT_as hk' er, ?_⟩
   conv => whnf
   refine VCall.of_data c1 (nd _) ?_
   conv => whnf
   refine Br.mk (fun h => ?_) (fun h => ?_)
   ·have h : m1 < 0 := by simpa using h
    rw [if_pos h] at hp
    conv => whnf
    exact ⟨by rw [← hp], trivial, rfl⟩
   ·have h : ¬ m1 < 0 := by simpa using h
    rw [if_neg h] at hp
    conv => whnf
    refine Wr.fit (wrap_i64 (by omega) (by omega)) ?_
    conv => whnf
    exact ⟨(s.1 + 1, m1), ⟨by omega, by omega, by omega, hp⟩, by omega, ⟨rfl, rfl, rfl, trivial⟩, trivial⟩
  ·have hk' : s.1 = rows.length := by simp at h; omega
   conv => whnf
   refine ⟨?_, trivial, rfl⟩
   rw [← hp, hk', List.drop_length, szR]
theorem fn_szChain (rows : Tss) (n : Int) (hl : rows.length ≤ 281474976710656) (hr : ∀ r, r ∈ rows → r.length ≤ 281474976710656) (hs : ∀ r, r ∈ rows → ∀ x, x ∈ r → x.length ≤ 281474976710656) (hn : n ≤ 1000000) (hn0 : -281474976710656 ≤ n) :
  Fn Tryz.prog 11 [chI rows, I n] [] (I (szRR n rows)) [] := by
 have c := fn_szSS rows n hl hr hs hn hn0
 have hd : szRR n rows < 0 → szRR n rows = -1 := by
  unfold szRR
  split
  ·intro _; rfl
  ·intro h
   have key : ∀ (rs : Tss) (m : Int), 0 ≤ m → szR m rs < 0 → szR m rs = -1 := by
    intro rs
    induction rs with
    | nil => intro m h0 h; unfold szR at h; omega
    | cons r rs ih =>
     intro m h0 h
     unfold szR at h ⊢
     split at h
     ·rename_i hc; rw [if_pos hc]
     ·rename_i hc; rw [if_neg hc]; exact ih _ (by omega) h
   exact key _ _ (by omega) h
 generalize szRR n rows = m at c hd ⊢
 refine Fn.intro (ks := [0,1,2,4,10]) hty rfl rfl rfl rfl rfl ?_
 conv => whnf
 refine VCall.of_data c (nd _) ?_
 conv => whnf
 refine Br.mk (fun h => ?_) (fun h => ?_)
 ·have h : m < 0 := by simpa using h
  rw [hd h]
  conv => whnf
  exact ⟨rfl, trivial, rfl⟩
 ·conv => whnf
  exact ⟨rfl, trivial, rfl⟩
def ixF : Nat → List Nat → List MC
 | _, [] => []
 | k, n :: ns => .r k 0 n :: ixF (k + 1) ns
theorem ixF_len : ∀ (k : Nat) (ns : List Nat), (ixF k ns).length = ns.length
 | _, [] => rfl
 | k, n :: ns => by simp [ixF, ixF_len (k + 1) ns]
theorem ixF_snoc : ∀ (k : Nat) (ns : List Nat) (n : Nat), ixF k (ns ++ [n]) = ixF k ns ++ [.r (k + ns.length) 0 n]
 | k, [], n => rfl
 | k, a :: ns, n => by
  show MC.r k 0 a :: ixF (k + 1) (ns ++ [n]) = _
  rw [ixF_snoc (k + 1) ns n]
  show _ = (MC.r k 0 a :: ixF (k + 1) ns) ++ [.r (k + (ns.length + 1)) 0 n]
  rw [show k + 1 + ns.length = k + (ns.length + 1) by omega]; rfl
theorem ixF_get : ∀ {k : Nat} {ns : List Nat} {i n : Nat}, i < ns.length → ns.getD i 0 = n → (ixF k ns)[i]? = some (.r (k + i) 0 n)
 | k, a :: ns, 0, n, _, e => by simp at e; subst e; rfl
 | k, a :: ns, i + 1, n, h, e => by
  show (ixF (k + 1) ns)[i]? = _
  rw [ixF_get (by simpa using h) (by simpa using e), show k + 1 + i = k + (i + 1) by omega]
theorem ixF_append : ∀ (k : Nat) (ns ms : List Nat), ixF k (ns ++ ms) = ixF k ns ++ ixF (k + ns.length) ms
 | k, [], ms => rfl
 | k, a :: ns, ms => by
  show MC.r k 0 a :: ixF (k + 1) (ns ++ ms) = _
  rw [ixF_append (k + 1) ns ms, show k + 1 + ns.length = k + (ns.length + 1) by omega]; rfl
theorem put_rep {α : Type} (A : List α) (m : Nat) (x y : α) : (A ++ List.replicate (m + 1) x).set A.length y = (A ++ [y]) ++ List.replicate m x := by
 rw [List.set_append_right _ _ (Nat.le_refl _), Nat.sub_self, List.replicate_succ, List.set_cons_zero]; simp
abbrev nilM : MC := .d (.s (.slice none 0 0))
def spR : List (List UInt8) := [spT]
def allR (rows : Tss) : Tss := rows.map withRoomT ++ List.replicate (room rows.length) spR
def lensR (rows : Tss) : List Nat := rows.map List.length ++ List.replicate (room rows.length) 1
theorem lensR_len (rows : Tss) : (lensR rows).length = rows.length + room rows.length := by simp [lensR]
theorem spare_step (IX : List MC) (b j m : Nat) (h : j < m) : ((IX ++ ixF b (List.replicate j 1)) ++ List.replicate (m - j) nilM).set (IX.length + j) (.r (b + j) 0 1) = (IX ++ ixF b (List.replicate (j + 1) 1)) ++ List.replicate (m - (j + 1)) nilM := by
 have e := put_rep (IX ++ ixF b (List.replicate j 1)) (m - (j + 1)) nilM (.r (b + j) 0 1)
 rw [List.length_append, ixF_len, List.length_replicate, show m - (j + 1) + 1 = m - j by omega] at e
 rw [e, List.replicate_succ', ixF_snoc, List.length_replicate, List.append_assoc IX]
theorem matD_data (R : List (List (List C))) (cs : List C) : matD R (cs.map MC.d) = cs.map fun c => [c] := by
 induction cs with
 | nil => rfl
 | cons c cs ih => show [c] :: matD R (cs.map MC.d) = _; rw [ih]; rfl
theorem matD_append (R : List (List (List C))) (a b : List MC) : matD R (a ++ b) = matD R a ++ matD R b := by
 induction a with
 | nil => rfl
 | cons c cs ih => cases c <;> (show _ :: matD R (cs ++ b) = _; rw [ih]; rfl)
theorem fn_toSS (rows : Tss) (hi : ChIn rows) : Fn Tryz.prog 43 [.d (.sl (cTT rows)), B false] [] (.ls 0 0 rows.length 1) [(0, .mat 1 (ixF 0 (lensR rows)) ((allR rows).map cT))] := by
 have hl := hi.l
 unfold allR lensR
 have hr := room_le rows.length
 generalize hm : room rows.length = m at hr
 have c1 := fn_room rows.length hi.l
 rw [hm] at c1
 refine Fn.intro (ks := [0,1,4,5,6,7,13,24,41]) hty rfl rfl rfl rfl rfl ?_
 conv => whnf
 rw [cTT_len]
 refine VCall.of_data c1 (nd _) ?_
 conv => whnf
 refine Wr.i64 (y := ((rows.length + m : Nat) : Int)) rfl (by omega) (by have := hi.l; omega) ?_
 conv => whnf
 refine ⟨⟨by omega, by omega, by show ((rows.length + m : Nat) : Int) * ((24 : Nat) : Int) ≤ _; have := hi.l; omega, by have := hi.l; omega⟩, ?_⟩
 conv => whnf
 refine VLoop.toMat 20 1 (cs := List.replicate (rows.length + m) (.s (.slice none 0 0))) (by rw [List.map_replicate]; rfl) rfl ?_
 refine VLoop.inv hty (S := Nat) (fun k => [(6, I k), (5, .ls 20 0 (rows.length + m) 1), (1, B false), (0, .d (.sl (cTT rows)))])
  (fun k => [(20, .mat 1 (ixF 0 ((rows.take k).map List.length) ++ List.replicate (rows.length + m - k) nilM) ((rows.take k).map fun r => cT (withRoomT r)))])
  (fun k => k ≤ rows.length) (fun k => rows.length - k) 0 (Nat.zero_le _) ⟨rfl, rfl, rfl, rfl, trivial⟩ ⟨by show Ob.mat 1 (List.map MC.d _) [] = Ob.mat 1 _ _; rw [List.map_replicate]; rfl, trivial⟩ ?_
 intro k hk
 conv => whnf
 rw [cTT_len]
 refine Br.mk (fun h => ?_) (fun h => ?_)
 ·have h : k < rows.length := by simp only [decide_eq_true_eq] at h; omega
  obtain ⟨r, er⟩ : ∃ r, rows.getD k [] = r := ⟨_, rfl⟩
  have hmr : r ∈ rows := by rw [← er]; exact getD_mem h
  have ct := fn_toT r false (.inl rfl) (hi.r r hmr)
  have et : rows.take (k + 1) = rows.take k ++ [r] := by rw [List.take_succ_eq_append_getElem h, ← er, List.getD_eq_getElem?_getD, List.getElem?_eq_getElem h]; rfl
  have hA : (ixF 0 ((rows.take k).map List.length)).length = k := by rw [ixF_len, List.length_map, List.length_take]; omega
  have hB : ((rows.take k).map fun r => cT (withRoomT r)).length = k := by rw [List.length_map, List.length_take]; omega
  conv => whnf
  refine ⟨⟨⟨by omega, by rw [cTT_len]; omega⟩, cTT_sz _⟩, ?_⟩
  conv => whnf
  refine ⟨_, cTT_as h er, ?_⟩
  conv => whnf
  refine VCall.of_ls (k := 34) ct rfl ?_
  conv => whnf
  refine ⟨by omega, ?_⟩
  conv => whnf
  refine ⟨by show k + 0 < (ixF 0 ((rows.take k).map List.length) ++ List.replicate (rows.length + m - k) nilM).length; rw [List.length_append, hA, List.length_replicate]; omega, ?_⟩
  conv => whnf
  refine Wr.i64 (y := ((k + 1 : Nat) : Int)) (by omega) (by omega) (by omega) ?_
  conv => whnf
  refine ⟨k + 1, h, by show rows.length - (k + 1) < rows.length - k; omega, ⟨rfl, rfl, rfl, rfl, trivial⟩, ?_, trivial⟩
  have e1 := put_rep (ixF 0 ((rows.take k).map List.length)) (rows.length + m - (k + 1)) nilM (.r k 0 r.length)
  rw [hA, show rows.length + m - (k + 1) + 1 = rows.length + m - k by omega] at e1
  show Ob.mat 1 (List.set _ _ (MC.r (List.length _) 0 r.length)) (_ ++ [cT (withRoomT r)]) = Ob.mat 1 _ _
  rw [et, List.map_append, List.map_append]
  show Ob.mat 1 (List.set _ _ (MC.r (List.length _) 0 r.length)) (_ ++ [cT (withRoomT r)]) = Ob.mat 1 (ixF 0 (_ ++ [r.length]) ++ _) (_ ++ [cT (withRoomT r)])
  rw [hB, ixF_snoc, List.length_map, List.length_take, show 0 + min k rows.length = k by omega]
  congr 1
 ·have h : k = rows.length := by simp only [decide_eq_false_iff_not] at h; omega
  subst h
  rw [List.take_length, show rows.length + m - rows.length = m by omega]
  conv => whnf
  obtain ⟨IX, eIX⟩ : ∃ z, ixF 0 (rows.map List.length) = z := ⟨_, rfl⟩
  obtain ⟨R0, eR⟩ : ∃ z, (rows.map fun r => cT (withRoomT r)) = z := ⟨_, rfl⟩
  have hR0 : R0.length = rows.length := by rw [← eR, List.length_map]
  rw [eIX, eR]
  have hbase : (IX).length = rows.length := by rw [← eIX, ixF_len, List.length_map]
  rw [cTT_len]
  refine VLoop.inv hty (S := Nat) (fun j => [(7, I ((rows.length + j : Nat) : Int)), (5, .ls 20 0 (rows.length + m) 1), (0, .d (.sl (cTT rows)))])
   (fun j => [(20, .mat 1 ((IX ++ ixF (R0).length (List.replicate j 1)) ++ List.replicate (m - j) nilM) (R0 ++ List.replicate j (cT spR)))])
   (fun j => j ≤ m) (fun j => m - j) 0 (Nat.zero_le _) ⟨rfl, rfl, rfl, trivial⟩ ⟨?_, trivial⟩ ?_
  ·show Ob.mat 1 _ _ = Ob.mat 1 _ _
   simp [ixF]
  intro j hj
  conv => whnf
  refine Br.mk (fun h => ?_) (fun h => ?_)
  ·have h : j < m := by simp only [decide_eq_true_eq] at h; omega
   have hA : (IX ++ ixF (R0).length (List.replicate j 1)).length = rows.length + j := by rw [List.length_append, hbase, ixF_len, List.length_replicate]
   conv => whnf
   refine ⟨by omega, ?_⟩
   conv => whnf
   refine ⟨by show (rows.length + j) + 0 < ((IX ++ ixF (R0).length (List.replicate j 1)) ++ List.replicate (m - j) nilM).length; rw [List.length_append, hA, List.length_replicate]; omega, ?_⟩
   conv => whnf
   refine Wr.i64 (y := ((rows.length + (j + 1) : Nat) : Int)) (by omega) (by omega) (by omega) ?_
   conv => whnf
   refine ⟨j + 1, h, by show m - (j + 1) < m - j; omega, ⟨rfl, rfl, rfl, trivial⟩, ?_, trivial⟩
   have e1 := spare_step (IX) (R0).length j m h
   rw [hbase] at e1
   show Ob.mat 1 (List.set _ _ (MC.r _ 0 1)) (_ ++ [cT spR]) = Ob.mat 1 _ _
   congr 1
   ·rw [List.length_append, List.length_replicate]
    exact e1
   ·rw [List.append_assoc, ← List.replicate_succ']
  ·have h : j = m := by simp only [decide_eq_false_iff_not] at h; omega
   subst h
   conv => whnf
   rw [cTT_len]
   refine ⟨⟨by omega, by omega, by show rows.length + 0 ≤ ((IX ++ ixF (R0).length (List.replicate j 1)) ++ List.replicate (j - j) nilM).length; rw [List.length_append, List.length_append, hbase]; omega⟩, ?_⟩
   conv => whnf
   refine ⟨⟨rfl, rfl, rfl, by omega, rfl⟩, [], ?_, trivial, rfl⟩
   rw [show j - j = 0 by omega]
   show [(0, Ob.mat 1 _ _)] = [(0, Ob.mat 1 _ _)]
   congr 3
   ·rw [ixF_append, eIX, List.length_map, hR0, Nat.zero_add, List.replicate_zero, List.append_nil]
   ·rw [List.map_append, List.map_map, List.map_replicate, ← eR]; rfl
theorem fn_toSSd (rows : Tss) (b : Bool) (hi : ChIn rows) : Fn Tryz.prog 43 [.d (.sl (cTT rows)), B b] [] (.d (.sl (cTT rows))) [] := by
 have hl := hi.l
 by_cases hb : b = true ∧ rows = []
 ·obtain ⟨rfl, rfl⟩ := hb
  refine Fn.intro (ks := [0,1,4,5,6,7,13,24,41]) hty rfl rfl rfl rfl rfl ?_
  conv => whnf
  exact ⟨trivial, rfl⟩
 ·
  have hr := room_le rows.length
  generalize hm : room rows.length = m at hr
  have c1 := fn_room rows.length hi.l
  rw [hm] at c1
  refine Fn.intro (ks := [0,1,4,5,6,7,13,24,41]) hty rfl rfl rfl rfl rfl ?_
  cases b
  case' true =>
   conv => whnf
   refine Br.mk (fun h => absurd h ?_) (fun _ => ?_)
   ·rw [cTT_len]
    have : ¬ rows = [] := fun e => hb ⟨rfl, e⟩
    have := List.length_pos_iff.2 this
    simp; omega
  all_goals
   clear hb
   conv => whnf
   rw [cTT_len]
   refine VCall.of_data c1 (nd _) ?_
   conv => whnf
   refine Wr.i64 (y := ((rows.length + m : Nat) : Int)) rfl (by omega) (by have := hi.l; omega) ?_
   conv => whnf
   refine ⟨⟨by omega, by omega, by show ((rows.length + m : Nat) : Int) * ((24 : Nat) : Int) ≤ _; have := hi.l; omega, by have := hi.l; omega⟩, ?_⟩
   conv => whnf
   refine VLoop.toMat 20 1 (cs := List.replicate (rows.length + m) (.s (.slice none 0 0))) (by rw [List.map_replicate]; rfl) rfl ?_
   refine VLoop.inv hty (S := Nat) (fun k => [(6, I k), (5, .ls 20 0 (rows.length + m) 1), (1, B _), (0, .d (.sl (cTT rows)))])
    (fun k => [(20, .mat 1 (((rows.take k).map fun r => MC.d (.sl (cT r))) ++ List.replicate (rows.length + m - k) nilM) [])])
    (fun k => k ≤ rows.length) (fun k => rows.length - k) 0 (Nat.zero_le _) ⟨rfl, rfl, rfl, rfl, trivial⟩ ⟨by show Ob.mat 1 (List.map MC.d _) [] = Ob.mat 1 _ _; rw [List.map_replicate]; rfl, trivial⟩ ?_
   intro k hk
   conv => whnf
   rw [cTT_len]
   refine Br.mk (fun h => ?_) (fun h => ?_)
   ·have h : k < rows.length := by simp only [decide_eq_true_eq] at h; omega
    obtain ⟨r, er⟩ : ∃ r, rows.getD k [] = r := ⟨_, rfl⟩
    have hmr : r ∈ rows := by rw [← er]; exact getD_mem h
    have ct := fun b => fn_toTd r b (hi.r r hmr)
    have et : rows.take (k + 1) = rows.take k ++ [r] := by rw [List.take_succ_eq_append_getElem h, ← er, List.getD_eq_getElem?_getD, List.getElem?_eq_getElem h]; rfl
    have hA : ((rows.take k).map fun r => MC.d (.sl (cT r))).length = k := by rw [List.length_map, List.length_take]; omega
    conv => whnf
    refine ⟨⟨⟨by omega, by rw [cTT_len]; omega⟩, cTT_sz _⟩, ?_⟩
    conv => whnf
    refine ⟨_, cTT_as h er, ?_⟩
    conv => whnf
    refine VCall.of_data (ct _) (nd _) ?_
    conv => whnf
    refine ⟨by omega, ?_⟩
    conv => whnf
    refine ⟨by show k + 0 < (((rows.take k).map fun r => MC.d (.sl (cT r))) ++ List.replicate (rows.length + m - k) nilM).length; rw [List.length_append, hA, List.length_replicate]; omega, ?_⟩
    conv => whnf
    refine Wr.i64 (y := ((k + 1 : Nat) : Int)) (by omega) (by omega) (by omega) ?_
    conv => whnf
    refine ⟨k + 1, h, by show rows.length - (k + 1) < rows.length - k; omega, ⟨rfl, rfl, rfl, rfl, trivial⟩, ?_, trivial⟩
    have e1 := put_rep ((rows.take k).map fun r => MC.d (.sl (cT r))) (rows.length + m - (k + 1)) nilM (.d (.sl (cT r)))
    rw [hA, show rows.length + m - (k + 1) + 1 = rows.length + m - k by omega] at e1
    show Ob.mat 1 (List.set _ _ (MC.d (.sl (cT r)))) [] = Ob.mat 1 _ []
    rw [et, List.map_append]
    congr 1
   ·have h : k = rows.length := by simp only [decide_eq_false_iff_not] at h; omega
    subst h
    rw [List.take_length, show rows.length + m - rows.length = m by omega]
    conv => whnf
    obtain ⟨IX, eIX⟩ : ∃ z, (rows.map fun r => MC.d (.sl (cT r))) = z := ⟨_, rfl⟩
    rw [eIX]
    have hbase : (IX).length = rows.length := by rw [← eIX, List.length_map]
    rw [cTT_len]
    refine VLoop.inv hty (S := Nat) (fun j => [(7, I ((rows.length + j : Nat) : Int)), (5, .ls 20 0 (rows.length + m) 1), (0, .d (.sl (cTT rows)))])
     (fun j => [(20, .mat 1 ((IX ++ ixF (([] : List (List (List C)))).length (List.replicate j 1)) ++ List.replicate (m - j) nilM) (([] : List (List (List C))) ++ List.replicate j (cT spR)))])
     (fun j => j ≤ m) (fun j => m - j) 0 (Nat.zero_le _) ⟨rfl, rfl, rfl, trivial⟩ ⟨?_, trivial⟩ ?_
    ·show Ob.mat 1 _ _ = Ob.mat 1 _ _
     simp [ixF]
    intro j hj
    conv => whnf
    refine Br.mk (fun h => ?_) (fun h => ?_)
    ·have h : j < m := by simp only [decide_eq_true_eq] at h; omega
     have hA : (IX ++ ixF (([] : List (List (List C)))).length (List.replicate j 1)).length = rows.length + j := by rw [List.length_append, hbase, ixF_len, List.length_replicate]
     conv => whnf
     refine ⟨by omega, ?_⟩
     conv => whnf
     refine ⟨by show (rows.length + j) + 0 < ((IX ++ ixF (([] : List (List (List C)))).length (List.replicate j 1)) ++ List.replicate (m - j) nilM).length; rw [List.length_append, hA, List.length_replicate]; omega, ?_⟩
     conv => whnf
     refine Wr.i64 (y := ((rows.length + (j + 1) : Nat) : Int)) (by omega) (by omega) (by omega) ?_
     conv => whnf
     refine ⟨j + 1, h, by show m - (j + 1) < m - j; omega, ⟨rfl, rfl, rfl, trivial⟩, ?_, trivial⟩
     have e1 := spare_step (IX) (([] : List (List (List C)))).length j m h
     rw [hbase] at e1
     show Ob.mat 1 (List.set _ _ (MC.r _ 0 1)) (_ ++ [cT spR]) = Ob.mat 1 _ _
     congr 1
     ·rw [List.length_append, List.length_replicate]
      exact e1
     ·rw [List.append_assoc, ← List.replicate_succ']
    ·have h : j = m := by simp only [decide_eq_false_iff_not] at h; omega
     subst h
     conv => whnf
     rw [cTT_len]
     refine ⟨⟨by omega, by omega, by show rows.length + 0 ≤ ((IX ++ ixF (([] : List (List (List C)))).length (List.replicate j 1)) ++ List.replicate (j - j) nilM).length; rw [List.length_append, List.length_append, hbase]; omega⟩, ?_⟩
     conv => whnf
     refine ⟨⟨rfl, ?_, ?_, ?_⟩, trivial, rfl⟩
     ·show rows.length + 0 ≤ List.length _
      rw [List.length_append, List.length_append, hbase]; omega
     ·intro i lo n hmem
      rw [show j - j = 0 by omega, List.replicate_zero, List.append_nil, ← eIX] at hmem
      rcases List.mem_append.1 hmem with hmem | hmem
      ·obtain ⟨r, _, hr⟩ := List.mem_map.1 hmem
       cases hr
      ·obtain ⟨q, hq, hg⟩ := List.mem_iff_getElem.1 hmem
       rw [ixF_len, List.length_replicate] at hq
       have := ixF_get (k := ([] : List (List (List C))).length) (ns := List.replicate j 1) (i := q) (n := 1) (by rw [List.length_replicate]; exact hq) (by rw [List.getD_eq_getElem?_getD, List.getElem?_replicate, if_pos hq]; rfl)
       rw [List.getElem?_eq_getElem (by rw [ixF_len, List.length_replicate]; exact hq), hg] at this
       cases this
       show 1 + 0 ≤ _
       rw [List.getD_eq_getElem?_getD, List.nil_append, List.getElem?_replicate, if_pos (by simpa using hq)]
       decide
     ·show List.take ((rows.length : Int) - 0).toNat (matD _ _) = _
      rw [show ((rows.length : Int) - 0).toNat = rows.length by omega, matD_append, matD_append, ← eIX]
      rw [show (rows.map fun r => MC.d (.sl (cT r))) = (rows.map fun r => C.sl (cT r)).map MC.d by rw [List.map_map]; rfl, matD_data, List.append_assoc, List.take_append_of_le_length (by rw [List.length_map, List.length_map]; exact Nat.le_refl _), List.take_of_length_le (by rw [List.length_map, List.length_map]; exact Nat.le_refl _), List.map_map]
      rfl
end Go.V
namespace Go.V
open Go.Proofs Go.RowKit
set_option maxRecDepth 10000
set_option maxHeartbeats 1000000
theorem fn_eqSS (xs ys : Tss) (hl : xs.length ≤ 3000000) (hl' : ys.length ≤ 3000000) (hr : ∀ r, r ∈ xs → r.length ≤ 3000000) (hr' : ∀ r, r ∈ ys → r.length ≤ 3000000) :
  Fn Tryz.prog 80 [.d (.sl (cTT xs)), .d (.sl (cTT ys))] [] (B (decide (xs = ys))) [] := by
 refine Fn.intro (ks := [0,1,4,5,10,14,26]) hty rfl rfl rfl rfl rfl ?_
 conv => whnf
 rw [cTT_len, cTT_len]
 refine Br.mk (fun h => ?_) (fun h => ?_)
 ·have h : ¬ xs.length = ys.length := by simp at h; omega
  conv => whnf
  refine ⟨?_, trivial, rfl⟩
  rw [decide_eq_false fun e => h (by rw [e])]
 ·have hxy : xs.length = ys.length := by simp at h; omega
  conv => whnf
  refine VLoop.inv hty (S := Nat) (fun k => [(5, I k), (1, .d (.sl (cTT ys))), (0, .d (.sl (cTT xs)))]) (fun _ => []) (fun k => k ≤ xs.length ∧ xs.take k = ys.take k) (fun k => xs.length - k) 0 ⟨Nat.zero_le _, rfl⟩
   ⟨rfl, rfl, rfl, trivial⟩ trivial ?_
  rintro k ⟨hk, hp⟩
  conv => whnf
  rw [cTT_len]
  refine Br.mk (fun h => ?_) (fun h => ?_)
  ·have hk' : k < xs.length := by simp at h; omega
   obtain ⟨x, ex⟩ : ∃ x, xs.getD k [] = x := ⟨_, rfl⟩
   obtain ⟨y, ey⟩ : ∃ y, ys.getD k [] = y := ⟨_, rfl⟩
   have ex' : xs[k] = x := by rw [← ex, List.getD_eq_getElem?_getD, List.getElem?_eq_getElem hk']; rfl
   have ey' : ys[k]'(by omega) = y := by rw [← ey, List.getD_eq_getElem?_getD, List.getElem?_eq_getElem (by omega)]; rfl
   have c := fn_eqS x y (hr x (by rw [← ex]; exact getD_mem hk')) (hr' y (by rw [← ey]; exact getD_mem (by omega)))
   conv => whnf
   refine VDraw.go hmo hty 10 [] rfl ?_
   conv => whnf
   refine ⟨⟨⟨by omega, by rw [cTT_len]; omega⟩, cTT_sz _⟩, ?_⟩
   conv => whnf
   refine ⟨_, cTT_as hk' ex, ?_⟩
   conv => whnf
   refine ⟨⟨⟨by omega, by rw [cTT_len]; omega⟩, cTT_sz _⟩, ?_⟩
   conv => whnf
   refine ⟨_, cTT_as (by omega) ey, ?_⟩
   conv => whnf
   refine QCall.of_data c (nd _) ?_
   conv => whnf
   by_cases h2 : x = y
   ·rw [decide_eq_true h2]
    conv => whnf
    refine Wr.fit (wrap_i64 (by omega) (by omega)) ?_
    conv => whnf
    refine ⟨k + 1, ⟨hk', ?_⟩, by omega, ⟨rfl, rfl, rfl, trivial⟩, trivial⟩
    rw [List.take_succ_eq_append_getElem hk', List.take_succ_eq_append_getElem (by omega), hp, ex', ey', h2]
   ·rw [decide_eq_false h2]
    conv => whnf
    refine ⟨?_, trivial, rfl⟩
    rw [decide_eq_false fun e => h2 (by subst e; exact ex.symm.trans ey)]
  ·have hk' : k = xs.length := by simp at h; omega
   conv => whnf
   refine ⟨?_, trivial, rfl⟩
   subst hk'
   rw [List.take_length, List.take_of_length_le (by omega)] at hp
   rw [decide_eq_true hp]
theorem matD_ixF (R : List (List (List C))) : ∀ (k : Nat) (ns : List Nat) (vis : Tss), ns.length = vis.length → (∀ i, i < ns.length → ((R.getD (k + i) []).drop 0).take (ns.getD i 0) = cT (vis.getD i [])) → matD R (ixF k ns) = cTT vis
 | k, [], [], _, _ => rfl
 | k, [], _ :: _, h, _ => by simp at h
 | k, _ :: _, [], h, _ => by simp at h
 | k, n :: ns, v :: vis, h, hi => by
  have h0 := hi 0 (by simp)
  have ih := matD_ixF R (k + 1) ns vis (by simpa using h) fun i hh => by
   have := hi (i + 1) (by simp; omega)
   rw [show k + 1 + i = k + (i + 1) by omega]
   simpa using this
  show [C.sl (((R.getD k []).drop 0).take n)] :: matD R (ixF (k + 1) ns) = [C.sl (cT v)] :: cTT vis
  rw [ih]
  have h0' : ((R.getD k []).drop 0).take n = cT v := h0
  rw [h0']
theorem ixF_mem : ∀ {k : Nat} {ns : List Nat} {i lo n : Nat}, MC.r i lo n ∈ ixF k ns → lo = 0 ∧ k ≤ i ∧ i - k < ns.length ∧ n = ns.getD (i - k) 0
 | k, [], i, lo, n, h => by cases h
 | k, a :: ns, i, lo, n, h => by
  rcases List.mem_cons.1 h with h | h
  ·cases h; exact ⟨rfl, Nat.le_refl _, by simp, by simp⟩
  ·obtain ⟨h1, h2, h3, h4⟩ := ixF_mem (k := k + 1) h
   refine ⟨h1, by omega, by simp; omega, ?_⟩
   rw [h4, show i - k = (i - (k + 1)) + 1 by omega]; simp
theorem matIn_ixF {R : List (List (List C))} {ns : List Nat} (h : ∀ i, i < ns.length → ns.getD i 0 ≤ (R.getD i []).length) : matIn R (ixF 0 ns) := fun i lo n hm => by
 obtain ⟨rfl, _, h3, rfl⟩ := ixF_mem hm
 have := h i (by simpa using h3)
 simpa using this
def visR (rows : Tss) : Tss := rows ++ List.replicate (room rows.length) spR
theorem visR_len (rows : Tss) : (visR rows).length = rows.length + room rows.length := by simp [visR]
theorem laid_at (rows : Tss) {i : Nat} (h : i < rows.length + room rows.length) : ∃ full seen : List (List UInt8), (allR rows).getD i [] = full ∧ (visR rows).getD i [] = seen ∧ (lensR rows).getD i 0 = seen.length ∧ ∃ more, full = seen ++ more := by
 by_cases hi : i < rows.length
 ·refine ⟨withRoomT (rows.getD i []), rows.getD i [], ?_, ?_, ?_, _, rfl⟩
  ·unfold allR; rw [List.getD_eq_getElem?_getD, List.getElem?_append_left (by simpa using hi), List.getElem?_map, List.getD_eq_getElem?_getD, List.getElem?_eq_getElem hi]; rfl
  ·unfold visR; rw [List.getD_eq_getElem?_getD, List.getElem?_append_left hi, List.getD_eq_getElem?_getD]
  ·unfold lensR; rw [List.getD_eq_getElem?_getD, List.getElem?_append_left (by simpa using hi), List.getElem?_map, List.getD_eq_getElem?_getD, List.getElem?_eq_getElem hi]; rfl
 ·have hr : i - rows.length < room rows.length := by omega
  refine ⟨spR, spR, ?_, ?_, ?_, [], by simp⟩
  ·unfold allR; rw [List.getD_eq_getElem?_getD, List.getElem?_append_right (by simp; omega), List.length_map, List.getElem?_replicate, if_pos hr]; rfl
  ·unfold visR; rw [List.getD_eq_getElem?_getD, List.getElem?_append_right (by omega), List.getElem?_replicate, if_pos hr]; rfl
  ·unfold lensR; rw [List.getD_eq_getElem?_getD, List.getElem?_append_right (by simp; omega), List.length_map, List.getElem?_replicate, if_pos hr]; rfl
theorem getD_map_cT (R : Tss) (i : Nat) : (R.map cT).getD i [] = cT (R.getD i []) := by
 rw [List.getD_eq_getElem?_getD, List.getD_eq_getElem?_getD, List.getElem?_map]
 cases R[i]? <;> rfl
theorem laid_data (rows : Tss) : matD ((allR rows).map cT) (ixF 0 (lensR rows)) = cTT (visR rows) := by
 refine matD_ixF _ 0 _ _ (by rw [lensR_len, visR_len]) fun i hi => ?_
 rw [lensR_len] at hi
 obtain ⟨full, seen, h1, h2, h3, more, h4⟩ := laid_at rows hi
 rw [Nat.zero_add, getD_map_cT, h1, h2, h3, List.drop_zero, h4]
 simp [cT]
theorem laid_in (rows : Tss) : matIn ((allR rows).map cT) (ixF 0 (lensR rows)) := matIn_ixF fun i hi => by
 rw [lensR_len] at hi
 obtain ⟨full, seen, h1, h2, h3, more, h4⟩ := laid_at rows hi
 rw [getD_map_cT, h1, h3, h4, cT_len, List.length_append]; omega
theorem laid_ix (rows : Tss) : (ixF 0 (lensR rows)).length = rows.length + room rows.length := by rw [ixF_len, lensR_len]
abbrev laidM (rows : Tss) : Ob := .mat 1 (ixF 0 (lensR rows)) ((allR rows).map cT)
theorem lend1_mat {l : LL} {id lo n sz : Nat} {ix : List MC} {rows : List (List (List C))} {r : List (List C)} (h : lget id l = .mat sz ix rows) (h1 : n + lo ≤ ix.length) (h2 : matIn rows ix) (h3 : ((matD rows ix).drop lo).take n = r) : lend1 l (.ls id lo n 1) (.d (.sl r)) := by
 show (match lget id l with
  | .row _ sz' rows => 1 = sz' ∧ n + lo ≤ rows.length ∧ (rows.drop lo).take n = r
  | .mat _ ix rows => 1 = 1 ∧ n + lo ≤ ix.length ∧ matIn rows ix ∧ ((matD rows ix).drop lo).take n = r
  | _ => False)
 rw [h]
 exact ⟨rfl, h1, h2, h3⟩
theorem fn_intactSS (rows : Tss) (hi : ChIn rows) : Fn Tryz.prog 50 [.ls 1000000 0 rows.length 1, .ls 1000001 0 rows.length 1] [(1000000, laidM rows), (1000001, laidM rows)] (B true) [(1000000, laidM rows), (1000001, laidM rows)] := by
 have hl := hi.l
 have hrm := room_le rows.length
 have c1 := fn_room rows.length hi.l
 have ceq := fn_eqSS (List.replicate (room rows.length) spR) (List.replicate (room rows.length) spR) (by rw [List.length_replicate]; omega) (by rw [List.length_replicate]; omega)
  (fun r hr => by rw [List.eq_of_mem_replicate hr]; decide) (fun r hr => by rw [List.eq_of_mem_replicate hr]; decide)
 rw [decide_eq_true rfl] at ceq
 have hix := laid_ix rows
 have hmd := laid_data rows
 have hmi := laid_in rows
 refine Fn.intro (ks := [0,1,4,5,6,17,21,33]) hty rfl rfl rfl rfl rfl ?_
 conv => whnf
 refine VCall.of_data c1 (nd _) ?_
 conv => whnf
 refine Wr.i64 (y := ((rows.length + room rows.length : Nat) : Int)) rfl (by omega) (by omega) ?_
 conv => whnf
 rw [decide_eq_true (rfl : ((rows.length : Nat) : Int) = ((rows.length : Nat) : Int))]
 conv => whnf
 refine VLoop.inv hty (S := Nat) (fun k => [(6, I k), (5, I ((rows.length + room rows.length : Nat) : Int)), (1, .ls 1000001 0 rows.length 1), (0, .ls 1000000 0 rows.length 1)]) (fun _ => [(1000000, laidM rows), (1000001, laidM rows)])
  (fun k => k ≤ rows.length) (fun k => rows.length - k) 0 (Nat.zero_le _) ⟨rfl, rfl, rfl, rfl, trivial⟩ ⟨rfl, rfl, trivial⟩ ?_
 intro k hk
 conv => whnf
 refine Br.mk (fun h => ?_) (fun h => ?_)
 ·have h : k < rows.length := by simp only [decide_eq_true_eq] at h; omega
  obtain ⟨r, er⟩ : ∃ r, rows.getD k [] = r := ⟨_, rfl⟩
  have hmr : r ∈ rows := by rw [← er]; exact getD_mem h
  have ci := fn_intactT r (hi.r r hmr)
  have e1 : (ixF 0 (lensR rows))[k + 0]? = some (.r k 0 r.length) := by
   rw [ixF_get (n := r.length) (by rw [lensR_len]; omega), Nat.zero_add]; rfl
   unfold lensR
   rw [List.getD_eq_getElem?_getD, List.getElem?_append_left (by simpa using h), List.getElem?_map]
   rw [List.getD_eq_getElem?_getD] at er
   cases hq : rows[k]? with
   | none => rw [List.getElem?_eq_none_iff] at hq; omega
   | some v => rw [hq] at er; simp at er; rw [← er]; rfl
  have e2 : ((allR rows).map cT)[k]? = some (cT (withRoomT r)) := by
   unfold allR
   rw [List.map_append, List.getElem?_append_left (by simpa using h), List.getElem?_map, List.getElem?_map]
   rw [List.getD_eq_getElem?_getD] at er
   cases hq : rows[k]? with
   | none => rw [List.getElem?_eq_none_iff] at hq; omega
   | some v => rw [hq] at er; simp at er; rw [← er]; rfl
  conv => whnf
  refine VDraw.go hmo hty 10 [] rfl ?_
  conv => whnf
  refine ⟨by omega, ?_⟩
  conv => whnf
  refine ⟨_, e1, ?_⟩
  conv => whnf
  refine ⟨by omega, ?_⟩
  conv => whnf
  refine ⟨_, e1, ?_⟩
  conv => whnf
  refine QCall.parMM 1000000 k 1000001 k ci (by decide) rfl e2 rfl e2 ⟨⟨.inl ⟨rfl, rfl, rfl⟩, rfl, rfl, rfl⟩, ⟨.inr ⟨rfl, rfl, rfl⟩, rfl, rfl, rfl⟩, trivial⟩ rfl rfl rfl ?_
  conv => whnf
  refine Wr.i64 (y := ((k + 1 : Nat) : Int)) rfl (by omega) (by omega) ?_
  conv => whnf
  exact ⟨k + 1, h, by show rows.length - (k + 1) < rows.length - k; omega, ⟨rfl, rfl, rfl, rfl, trivial⟩, ⟨rfl, rfl, trivial⟩⟩
 ·have h : k = rows.length := by simp only [decide_eq_false_iff_not] at h; omega
  conv => whnf
  refine VDraw.go hmo hty 12 [] rfl ?_
  conv => whnf
  refine ⟨⟨by omega, by omega, by show rows.length + room rows.length + 0 ≤ _; omega⟩, ?_⟩
  conv => whnf
  refine ⟨⟨by omega, by omega, by show rows.length + room rows.length + 0 ≤ _; omega⟩, ?_⟩
  conv => whnf
  have lend : ∀ (l : LL) (id : Nat), lget id l = laidM rows → lend1 l (.ls id (((rows.length : Nat) : Int).toNat + 0) (((rows.length + room rows.length : Nat) : Int) - ((rows.length : Nat) : Int)).toNat 1) (.d (.sl (cTT (List.replicate (room rows.length) spR)))) := fun l id hg => by
   refine lend1_mat hg (by rw [hix]; omega) hmi ?_
   rw [hmd, show (((rows.length : Nat) : Int).toNat + 0) = rows.length from rfl, show (((rows.length + room rows.length : Nat) : Int) - ((rows.length : Nat) : Int)).toNat = room rows.length by omega]
   unfold visR cTT
   rw [List.map_append, List.drop_append_of_le_length (by simp), List.drop_of_length_le (by simp), List.nil_append, List.take_of_length_le (by simp)]
  refine QCall.lend ceq ⟨lend _ _ rfl, lend _ _ rfl, trivial⟩ rfl ?_
  conv => whnf
  exact ⟨rfl, ⟨rfl, rfl, trivial⟩, rfl⟩
theorem namesCh {rows : Tss} : namesIn [(0, laidM rows)] (.ag [.ls 0 0 rows.length 1]) := fun j hj => by
 have : Nat.beq 0 j = true := by
  have : (AV.ment j (.ag [.ls 0 0 rows.length 1])) = (Nat.beq 0 j || false) := rfl
  rw [this] at hj; simpa using hj
 have e := Nat.eq_of_beq_eq_true this
 rw [lget_cons, if_pos e.symm]; exact fun e => by cases e
theorem fn_toChain (rows : Tss) (hi : ChIn rows) : Fn Tryz.prog 13 [chI rows, B false] [] (.ag [.ls 0 0 rows.length 1]) [(0, laidM rows)] := by
 have c := fn_toSS rows hi
 refine Fn.intro (ks := [0,1,2,4,5]) hty rfl rfl rfl rfl rfl ?_
 conv => whnf
 refine VCall.of_fn (k := 9) c (namesIn_ls (by simp)) rfl ?_
 conv => whnf
 exact ⟨⟨rfl, rfl, rfl, rfl, rfl⟩, [], rfl, trivial, rfl⟩
theorem fn_toChaind (rows : Tss) (b : Bool) (hi : ChIn rows) : Fn Tryz.prog 13 [chI rows, B b] [] (chI rows) [] := by
 have c := fn_toSSd rows b hi
 refine Fn.intro (ks := [0,1,2,4,5]) hty rfl rfl rfl rfl rfl ?_
 conv => whnf
 refine VCall.of_data c (nd _) ?_
 conv => whnf
 exact ⟨rfl, trivial, rfl⟩
theorem fn_intactChain (rows : Tss) (hi : ChIn rows) : Fn Tryz.prog 15 [.ag [.ls 1000000 0 rows.length 1], .ag [.ls 1000001 0 rows.length 1]] [(1000000, laidM rows), (1000001, laidM rows)] (B true) [(1000000, laidM rows), (1000001, laidM rows)] := by
 have c := fn_intactSS rows hi
 refine Fn.intro (ks := [0,1,2,3,4,10]) hty rfl rfl rfl rfl rfl ?_
 conv => whnf
 refine VCall.parN [(1000000, 1000000), (1000001, 1000001)] c ⟨⟨rfl, rfl, rfl, rfl⟩, ⟨rfl, rfl, rfl, rfl⟩, trivial⟩ ⟨⟨rfl, rfl⟩, ⟨rfl, rfl⟩, trivial⟩ rfl rfl rfl rfl ?_
 conv => whnf
 exact ⟨rfl, ⟨rfl, rfl, trivial⟩, rfl⟩
theorem lend_ch {l : LL} {id : Nat} {rows : Tss} (h : lget id l = laidM rows) : lends1 l [.ls id 0 rows.length 1] [.d (.sl (cTT rows))] := by
 refine ⟨?_, trivial⟩
 refine lend1_mat h (by rw [laid_ix]; omega) (laid_in rows) ?_
 rw [laid_data]
 unfold visR cTT
 rw [List.drop_zero, List.map_append, List.take_append_of_le_length (by simp), List.take_of_length_le (by simp)]
end Go.V
namespace Go.V
open Go.Proofs Go.RowKit
set_option maxRecDepth 10000
set_option maxHeartbeats 1000000
theorem fit_T' {c : C} (h : Fit c (.sl [.s])) : ∃ xs : List (List UInt8), c = .sl (cT xs) ∧ xs.length < 2 ^ 47 ∧ ∀ x, x ∈ xs → x.length < 2 ^ 47 := by
 obtain ⟨ys, rfl, h1, h2⟩ := fit_strs h
 refine ⟨ys.map fun y => y.data.toList, by simp [cT], by simpa using h1, fun x hx => ?_⟩
 obtain ⟨y, hy, rfl⟩ := List.mem_map.1 hx
 have := h2 y hy
 rwa [Array.length_toList]
theorem fit_TT {c : C} (h : Fit c (.sl [.sl [.s]])) : ∃ rows : Tss, c = .sl (cTT rows) ∧ rows.length < 2 ^ 47 ∧ (∀ r, r ∈ rows → r.length < 2 ^ 47) ∧ ∀ r, r ∈ rows → ∀ x, x ∈ r → x.length < 2 ^ 47 := by
 cases h with
 | sl rows _ h hl hf =>
  obtain ⟨xs, h1⟩ := rows_one (α := { r : List (List UInt8) // r.length < 2 ^ 47 ∧ ∀ x, x ∈ r → x.length < 2 ^ 47 }) (p := fun c => Fit c (.sl [.s])) (g := fun n => .sl (cT n.1)) (fun c hc => by
   obtain ⟨n, h1, h2⟩ := fit_T' hc; exact ⟨⟨n, h2⟩, h1⟩) hl (fun r hr c hc => hf r hr 0 c _ hc rfl)
  subst h1
  refine ⟨xs.map (·.1), by simp [cTT], by have := reach_lt; simp at h ⊢; omega, fun r hr => ?_, fun r hr => ?_⟩
  ·obtain ⟨y, _, rfl⟩ := List.mem_map.1 hr
   exact y.2.1
  ·obtain ⟨y, _, rfl⟩ := List.mem_map.1 hr
   exact y.2.2
theorem fit_chain {rs : List C} (hl : rs.length = 1) (h : ∀ (i : Nat) c k, rs[i]? = some c → ([K.sl [.sl [.s]]] : List K)[i]? = some k → Fit c k) :
  ∃ rows : Tss, rs = [.sl (cTT rows)] ∧ rows.length < 2 ^ 47 ∧ (∀ r, r ∈ rows → r.length < 2 ^ 47) ∧ ∀ r, r ∈ rows → ∀ x, x ∈ r → x.length < 2 ^ 47 := by
 match rs, hl with
 | [a], _ =>
  obtain ⟨us, rfl, h1, h2, h3⟩ := fit_TT (h 0 a _ rfl rfl)
  exact ⟨us, rfl, h1, h2, h3⟩
theorem commonShare_both (rows : Tss) (hi : ChIn rows) : ∃ r1 r2, Fn Tryz.prog 23 [chI rows] [] (.tup [Str r1, B r2]) [] ∧ Fn Tryz.prog 24 [chI rows] [] (.tup [Str r1, B r2]) [] :=
 ⟨_, _, fn_sCommonShare rows hi, fn_CommonShare rows hi⟩
theorem widestRows_both (rows : Tss) (hi : ChIn rows) : ∃ r1 r2, Fn Tryz.prog 25 [chI rows] [] (.tup [Str r1, B r2]) [] ∧ Fn Tryz.prog 26 [chI rows] [] (.tup [Str r1, B r2]) [] :=
 ⟨_, _, fn_sWidestRows rows hi, fn_WidestRows rows hi⟩
theorem law_commonShare (rows : Tss) (h0 : rows.length < 2 ^ 47) (hr0 : ∀ r, r ∈ rows → r.length < 2 ^ 47) (hs0 : ∀ r, r ∈ rows → ∀ x, x ∈ r → x.length < 2 ^ 47) : Fn Tryz.prog 6 [chI rows] [] (B true) [] := by
 have c0 := fn_szChain rows 1000000 (by omega) (fun r hr => by have := hr0 r hr; omega) (fun r hr x hx => by have := hs0 r hr x hx; omega) (by decide) (by decide)
 refine Fn.intro (ks := [0,1,2,3,4,5,6,7,8,9,10,15,36,41,55]) hty rfl rfl rfl rfl rfl ?_
 conv => whnf
 refine VCall.of_data c0 (nd _) ?_
 obtain ⟨m, em⟩ : ∃ m, szRR 1000000 rows = m := ⟨_, rfl⟩
 rw [em]
 conv => whnf
 refine Br.mk (fun h => ?_) (fun h => ?_)
 ·conv => whnf
  exact ⟨rfl, trivial, rfl⟩
 ·have h : 0 ≤ m := by simpa using h
  have hi := szRR_in (em ▸ h) (by decide)
  obtain ⟨r1, r2, cs, ci⟩ := commonShare_both rows hi
  conv => whnf
  refine VCall.of_data (fn_toChaind rows false hi) (ndA fun k => rfl) ?_
  conv => whnf
  refine VCall.of_data cs (ndT fun _ => rfl) ?_
  conv => whnf
  refine VCall.of_fn (k := 23) (fn_toChain rows hi) namesCh rfl ?_
  conv => whnf
  refine VCall.lend ci ⟨lend_ch rfl, trivial⟩ rfl ?_
  conv => whnf
  rw [show ((⟨r1.toArray⟩ : ByteArray).toList == (⟨r1.toArray⟩ : ByteArray).toList) = true by simp]
  conv => whnf
  rw [show (r2 == r2) = true by simp]
  conv => whnf
  refine VDraw.canon [(41, B false), (5, B r2), (4, Str r1), (1, .lp 1 0)] [(1, .box true [.d (.sl (cTT rows))])] ?_ ?_
  ·refine VDraw.go hmo hty 0 [] rfl ?_
   conv => whnf
   refine ⟨?_, ?_⟩
   ·
    conv => whnf
    refine VCall.of_fn (k := 39) (fn_toChain rows hi) namesCh rfl ?_
    conv => whnf
    refine VCall.parN [(1000000, 23), (1000001, 39)] (fn_intactChain rows hi) ⟨⟨⟨rfl, rfl, rfl, rfl⟩, trivial⟩, ⟨⟨rfl, rfl, rfl, rfl⟩, trivial⟩, trivial⟩ ⟨⟨rfl, rfl⟩, ⟨rfl, rfl⟩, trivial⟩ rfl rfl rfl rfl ?_
    conv => whnf
    exact ⟨⟨rfl, rfl, rfl, rfl, trivial⟩, rfl, trivial⟩
   ·conv => whnf
    refine ⟨?_, ?_⟩
    ·
     conv => whnf
     refine VCall.of_fn (k := 39) (fn_toChain rows hi) namesCh rfl ?_
     conv => whnf
     refine VCall.parN [(1000000, 23), (1000001, 39)] (fn_intactChain rows hi) ⟨⟨⟨rfl, rfl, rfl, rfl⟩, trivial⟩, ⟨⟨rfl, rfl, rfl, rfl⟩, trivial⟩, trivial⟩ ⟨⟨rfl, rfl⟩, ⟨rfl, rfl⟩, trivial⟩ rfl rfl rfl rfl ?_
     conv => whnf
     exact ⟨⟨rfl, rfl, rfl, rfl, trivial⟩, rfl, trivial⟩
    ·
     conv => whnf
     refine VCall.of_fn (k := 39) (fn_toChain rows hi) namesCh rfl ?_
     conv => whnf
     refine VCall.parN [(1000000, 23), (1000001, 39)] (fn_intactChain rows hi) ⟨⟨⟨rfl, rfl, rfl, rfl⟩, trivial⟩, ⟨⟨rfl, rfl, rfl, rfl⟩, trivial⟩, trivial⟩ ⟨⟨rfl, rfl⟩, ⟨rfl, rfl⟩, trivial⟩ rfl rfl rfl rfl ?_
     conv => whnf
     exact ⟨⟨rfl, rfl, rfl, rfl, trivial⟩, rfl, trivial⟩
  conv => whnf
  refine VCall.of_data (fn_toChaind rows true hi) (ndA fun k => rfl) ?_
  conv => whnf
  refine VCall.of_data ci (ndT fun _ => rfl) ?_
  conv => whnf
  rw [show ((⟨r1.toArray⟩ : ByteArray).toList == (⟨r1.toArray⟩ : ByteArray).toList) = true by simp]
  conv => whnf
  rw [show (r2 == r2) = true by simp]
  conv => whnf
  exact ⟨rfl, trivial, rfl⟩
theorem law_widestRows (rows : Tss) (h0 : rows.length < 2 ^ 47) (hr0 : ∀ r, r ∈ rows → r.length < 2 ^ 47) (hs0 : ∀ r, r ∈ rows → ∀ x, x ∈ r → x.length < 2 ^ 47) : Fn Tryz.prog 7 [chI rows] [] (B true) [] := by
 have c0 := fn_szChain rows 1000000 (by omega) (fun r hr => by have := hr0 r hr; omega) (fun r hr x hx => by have := hs0 r hr x hx; omega) (by decide) (by decide)
 refine Fn.intro (ks := [0,1,2,3,4,5,6,7,8,9,10,15,36,41,55]) hty rfl rfl rfl rfl rfl ?_
 conv => whnf
 refine VCall.of_data c0 (nd _) ?_
 obtain ⟨m, em⟩ : ∃ m, szRR 1000000 rows = m := ⟨_, rfl⟩
 rw [em]
 conv => whnf
 refine Br.mk (fun h => ?_) (fun h => ?_)
 ·conv => whnf
  exact ⟨rfl, trivial, rfl⟩
 ·have h : 0 ≤ m := by simpa using h
  have hi := szRR_in (em ▸ h) (by decide)
  obtain ⟨r1, r2, cs, ci⟩ := widestRows_both rows hi
  conv => whnf
  refine VCall.of_data (fn_toChaind rows false hi) (ndA fun k => rfl) ?_
  conv => whnf
  refine VCall.of_data cs (ndT fun _ => rfl) ?_
  conv => whnf
  refine VCall.of_fn (k := 23) (fn_toChain rows hi) namesCh rfl ?_
  conv => whnf
  refine VCall.lend ci ⟨lend_ch rfl, trivial⟩ rfl ?_
  conv => whnf
  rw [show ((⟨r1.toArray⟩ : ByteArray).toList == (⟨r1.toArray⟩ : ByteArray).toList) = true by simp]
  conv => whnf
  rw [show (r2 == r2) = true by simp]
  conv => whnf
  refine VDraw.canon [(41, B false), (5, B r2), (4, Str r1), (1, .lp 1 0)] [(1, .box true [.d (.sl (cTT rows))])] ?_ ?_
  ·refine VDraw.go hmo hty 0 [] rfl ?_
   conv => whnf
   refine ⟨?_, ?_⟩
   ·
    conv => whnf
    refine VCall.of_fn (k := 39) (fn_toChain rows hi) namesCh rfl ?_
    conv => whnf
    refine VCall.parN [(1000000, 23), (1000001, 39)] (fn_intactChain rows hi) ⟨⟨⟨rfl, rfl, rfl, rfl⟩, trivial⟩, ⟨⟨rfl, rfl, rfl, rfl⟩, trivial⟩, trivial⟩ ⟨⟨rfl, rfl⟩, ⟨rfl, rfl⟩, trivial⟩ rfl rfl rfl rfl ?_
    conv => whnf
    exact ⟨⟨rfl, rfl, rfl, rfl, trivial⟩, rfl, trivial⟩
   ·conv => whnf
    refine ⟨?_, ?_⟩
    ·
     conv => whnf
     refine VCall.of_fn (k := 39) (fn_toChain rows hi) namesCh rfl ?_
     conv => whnf
     refine VCall.parN [(1000000, 23), (1000001, 39)] (fn_intactChain rows hi) ⟨⟨⟨rfl, rfl, rfl, rfl⟩, trivial⟩, ⟨⟨rfl, rfl, rfl, rfl⟩, trivial⟩, trivial⟩ ⟨⟨rfl, rfl⟩, ⟨rfl, rfl⟩, trivial⟩ rfl rfl rfl rfl ?_
     conv => whnf
     exact ⟨⟨rfl, rfl, rfl, rfl, trivial⟩, rfl, trivial⟩
    ·
     conv => whnf
     refine VCall.of_fn (k := 39) (fn_toChain rows hi) namesCh rfl ?_
     conv => whnf
     refine VCall.parN [(1000000, 23), (1000001, 39)] (fn_intactChain rows hi) ⟨⟨⟨rfl, rfl, rfl, rfl⟩, trivial⟩, ⟨⟨rfl, rfl, rfl, rfl⟩, trivial⟩, trivial⟩ ⟨⟨rfl, rfl⟩, ⟨rfl, rfl⟩, trivial⟩ rfl rfl rfl rfl ?_
     conv => whnf
     exact ⟨⟨rfl, rfl, rfl, rfl, trivial⟩, rfl, trivial⟩
  conv => whnf
  refine VCall.of_data (fn_toChaind rows true hi) (ndA fun k => rfl) ?_
  conv => whnf
  refine VCall.of_data ci (ndT fun _ => rfl) ?_
  conv => whnf
  rw [show ((⟨r1.toArray⟩ : ByteArray).toList == (⟨r1.toArray⟩ : ByteArray).toList) = true by simp]
  conv => whnf
  rw [show (r2 == r2) = true by simp]
  conv => whnf
  exact ⟨rfl, trivial, rfl⟩
theorem law_restBound (rows : Tss) (n : Int) (h0 : rows.length < 2 ^ 47) (hr0 : ∀ r, r ∈ rows → r.length < 2 ^ 47) (hs0 : ∀ r, r ∈ rows → ∀ x, x ∈ r → x.length < 2 ^ 47) : Fn Tryz.prog 8 [chI rows, I n] [] (B true) [] := by
 have c0 := fn_szChain rows 1000000 (by omega) (fun r hr => by have := hr0 r hr; omega) (fun r hr x hx => by have := hs0 r hr x hx; omega) (by decide) (by decide)
 refine Fn.intro (ks := [0,1,2,4,5,6,7,8,9,10,11,12,17,40,45,60]) hty rfl rfl rfl rfl rfl ?_
 conv => whnf
 refine VCall.of_data c0 (nd _) ?_
 obtain ⟨m, em⟩ : ∃ m, szRR 1000000 rows = m := ⟨_, rfl⟩
 rw [em]
 conv => whnf
 refine Br.mk (fun h => ?_) (fun h => ?_)
 ·conv => whnf
  exact ⟨rfl, trivial, rfl⟩
 ·have h : 0 ≤ m := by simpa using h
  have hi := szRR_in (em ▸ h) (by decide)
  have cs := fn_sRestBound rows n hi
  have ci := fn_RestBound rows n hi
  generalize toldO (boundO rows n) = r at cs ci
  obtain ⟨r1, r2⟩ := r
  replace cs : Fn Tryz.prog 27 [chI rows, I n] [] (.tup [Str r1, B r2]) [] := cs
  replace ci : Fn Tryz.prog 28 [chI rows, I n] [] (.tup [Str r1, B r2]) [] := ci
  conv => whnf
  refine VCall.of_data (fn_toChaind rows false hi) (ndA fun k => rfl) ?_
  conv => whnf
  refine VCall.of_data cs (ndT fun _ => rfl) ?_
  conv => whnf
  refine VCall.of_fn (k := 26) (fn_toChain rows hi) namesCh rfl ?_
  conv => whnf
  refine VCall.lend ci ⟨lend_ch rfl, rfl, trivial⟩ rfl ?_
  conv => whnf
  rw [show ((⟨r1.toArray⟩ : ByteArray).toList == (⟨r1.toArray⟩ : ByteArray).toList) = true by simp]
  conv => whnf
  rw [show (r2 == r2) = true by simp]
  conv => whnf
  refine VDraw.canon [(45, B false), (7, B r2), (6, Str r1), (2, .lp 2 0), (1, I n)] [(2, .box true [.d (.sl (cTT rows))])] ?_ ?_
  ·refine VDraw.go hmo hty 0 [] rfl ?_
   conv => whnf
   refine ⟨?_, ?_⟩
   ·
    conv => whnf
    refine VCall.of_fn (k := 43) (fn_toChain rows hi) namesCh rfl ?_
    conv => whnf
    refine VCall.parN [(1000000, 26), (1000001, 43)] (fn_intactChain rows hi) ⟨⟨⟨rfl, rfl, rfl, rfl⟩, trivial⟩, ⟨⟨rfl, rfl, rfl, rfl⟩, trivial⟩, trivial⟩ ⟨⟨rfl, rfl⟩, ⟨rfl, rfl⟩, trivial⟩ rfl rfl rfl rfl ?_
    conv => whnf
    exact ⟨⟨rfl, rfl, rfl, rfl, rfl, trivial⟩, rfl, trivial⟩
   ·conv => whnf
    refine ⟨?_, ?_⟩
    ·
     conv => whnf
     refine VCall.of_fn (k := 43) (fn_toChain rows hi) namesCh rfl ?_
     conv => whnf
     refine VCall.parN [(1000000, 26), (1000001, 43)] (fn_intactChain rows hi) ⟨⟨⟨rfl, rfl, rfl, rfl⟩, trivial⟩, ⟨⟨rfl, rfl, rfl, rfl⟩, trivial⟩, trivial⟩ ⟨⟨rfl, rfl⟩, ⟨rfl, rfl⟩, trivial⟩ rfl rfl rfl rfl ?_
     conv => whnf
     exact ⟨⟨rfl, rfl, rfl, rfl, rfl, trivial⟩, rfl, trivial⟩
    ·
     conv => whnf
     refine VCall.of_fn (k := 43) (fn_toChain rows hi) namesCh rfl ?_
     conv => whnf
     refine VCall.parN [(1000000, 26), (1000001, 43)] (fn_intactChain rows hi) ⟨⟨⟨rfl, rfl, rfl, rfl⟩, trivial⟩, ⟨⟨rfl, rfl, rfl, rfl⟩, trivial⟩, trivial⟩ ⟨⟨rfl, rfl⟩, ⟨rfl, rfl⟩, trivial⟩ rfl rfl rfl rfl ?_
     conv => whnf
     exact ⟨⟨rfl, rfl, rfl, rfl, rfl, trivial⟩, rfl, trivial⟩
  conv => whnf
  refine VCall.of_data (fn_toChaind rows true hi) (ndA fun k => rfl) ?_
  conv => whnf
  refine VCall.of_data ci (ndT fun _ => rfl) ?_
  conv => whnf
  rw [show ((⟨r1.toArray⟩ : ByteArray).toList == (⟨r1.toArray⟩ : ByteArray).toList) = true by simp]
  conv => whnf
  rw [show (r2 == r2) = true by simp]
  conv => whnf
  exact ⟨rfl, trivial, rfl⟩
theorem law_stepsToRest (rows : Tss) (near : List UInt8) (hn0 : near.length < 2 ^ 47) (h0 : rows.length < 2 ^ 47) (hr0 : ∀ r, r ∈ rows → r.length < 2 ^ 47) (hs0 : ∀ r, r ∈ rows → ∀ x, x ∈ r → x.length < 2 ^ 47) : Fn Tryz.prog 3 [chI rows, Str near] [] (B true) [] := by
 refine Fn.intro (ks := [0,1,2,4,5,6,7,8,9,10,11,12,20,43,48,63]) hty rfl rfl rfl rfl rfl ?_
 conv => whnf
 rw [bsize]
 obtain ⟨n, en⟩ : ∃ n : Int, 1000000 - ((near.length : Nat) : Int) = n := ⟨_, rfl⟩
 have c0 := fn_szChain rows n (by omega) (fun r hr => by have := hr0 r hr; omega) (fun r hr x hx => by have := hs0 r hr x hx; omega) (by omega) (by omega)
 refine Wr.i64 (y := n) en (by omega) (by omega) ?_
 conv => whnf
 refine VCall.of_data c0 (nd _) ?_
 obtain ⟨m, em⟩ : ∃ m, szRR n rows = m := ⟨_, rfl⟩
 rw [em]
 conv => whnf
 refine Br.mk (fun h => ?_) (fun h => ?_)
 ·conv => whnf
  exact ⟨rfl, trivial, rfl⟩
 ·have h : 0 ≤ m := by simpa using h
  have hi := szRR_in (em ▸ h) (by omega)
  have hle := szRR_le (em ▸ h)
  have cs := fn_sStepsToRest rows near hi (by omega)
  have ci := fn_StepsToRest rows near hi (by omega)
  obtain ⟨r1, e1⟩ : ∃ r : Int, (((stepsO rows near).getD 0 : Nat) : Int) = r := ⟨_, rfl⟩
  obtain ⟨r2, e2⟩ : ∃ r : Bool, (stepsO rows near).isSome = r := ⟨_, rfl⟩
  rw [e1, e2] at cs ci
  conv => whnf
  refine VCall.of_data (fn_toChaind rows false hi) (ndA fun k => rfl) ?_
  conv => whnf
  refine VCall.of_data cs (ndT fun _ => rfl) ?_
  conv => whnf
  refine VCall.of_fn (k := 29) (fn_toChain rows hi) namesCh rfl ?_
  conv => whnf
  refine VCall.lend ci ⟨lend_ch rfl, rfl, trivial⟩ rfl ?_
  conv => whnf
  rw [decide_eq_true (rfl : r1 = r1)]
  conv => whnf
  rw [show (r2 == r2) = true by simp]
  conv => whnf
  refine VDraw.canon [(48, B false), (7, B r2), (6, I r1), (2, .lp 2 0), (1, Str near)] [(2, .box true [.d (.sl (cTT rows))])] ?_ ?_
  ·refine VDraw.go hmo hty 0 [] rfl ?_
   conv => whnf
   refine ⟨?_, ?_⟩
   ·
    conv => whnf
    refine VCall.of_fn (k := 46) (fn_toChain rows hi) namesCh rfl ?_
    conv => whnf
    refine VCall.parN [(1000000, 29), (1000001, 46)] (fn_intactChain rows hi) ⟨⟨⟨rfl, rfl, rfl, rfl⟩, trivial⟩, ⟨⟨rfl, rfl, rfl, rfl⟩, trivial⟩, trivial⟩ ⟨⟨rfl, rfl⟩, ⟨rfl, rfl⟩, trivial⟩ rfl rfl rfl rfl ?_
    conv => whnf
    exact ⟨⟨rfl, rfl, rfl, rfl, rfl, trivial⟩, rfl, trivial⟩
   ·conv => whnf
    refine ⟨?_, ?_⟩
    ·
     conv => whnf
     refine VCall.of_fn (k := 46) (fn_toChain rows hi) namesCh rfl ?_
     conv => whnf
     refine VCall.parN [(1000000, 29), (1000001, 46)] (fn_intactChain rows hi) ⟨⟨⟨rfl, rfl, rfl, rfl⟩, trivial⟩, ⟨⟨rfl, rfl, rfl, rfl⟩, trivial⟩, trivial⟩ ⟨⟨rfl, rfl⟩, ⟨rfl, rfl⟩, trivial⟩ rfl rfl rfl rfl ?_
     conv => whnf
     exact ⟨⟨rfl, rfl, rfl, rfl, rfl, trivial⟩, rfl, trivial⟩
    ·
     conv => whnf
     refine VCall.of_fn (k := 46) (fn_toChain rows hi) namesCh rfl ?_
     conv => whnf
     refine VCall.parN [(1000000, 29), (1000001, 46)] (fn_intactChain rows hi) ⟨⟨⟨rfl, rfl, rfl, rfl⟩, trivial⟩, ⟨⟨rfl, rfl, rfl, rfl⟩, trivial⟩, trivial⟩ ⟨⟨rfl, rfl⟩, ⟨rfl, rfl⟩, trivial⟩ rfl rfl rfl rfl ?_
     conv => whnf
     exact ⟨⟨rfl, rfl, rfl, rfl, rfl, trivial⟩, rfl, trivial⟩
  conv => whnf
  refine VCall.of_data (fn_toChaind rows true hi) (ndA fun k => rfl) ?_
  conv => whnf
  refine VCall.of_data ci (ndT fun _ => rfl) ?_
  conv => whnf
  rw [decide_eq_true (rfl : r1 = r1)]
  conv => whnf
  rw [show (r2 == r2) = true by simp]
  conv => whnf
  exact ⟨rfl, trivial, rfl⟩
end Go.V
