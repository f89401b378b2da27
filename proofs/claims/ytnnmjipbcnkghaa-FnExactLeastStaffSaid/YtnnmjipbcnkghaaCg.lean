/- LeastStaff. -/
import Derived.Test.YtnnmjipbcnkghaaCf
set_option linter.unusedVariables false
namespace Go.V
open Go.Proofs
set_option maxRecDepth 10000

def lackAt (xs : List Int) (n : Int) (s : List Int) (h : Nat) : Int := xs.getD h 0 - staff s n h
def atI (xs : List Int) (n : Int) (h : Nat) : Nat := (min (h : Int) ((xs.length : Int) - n)).toNat
def stepL (xs : List Int) (n : Int) (s : List Int) (h : Nat) : List Int := if 0 < lackAt xs n s h then s.set (atI xs n h) (s.getD (atI xs n h) 0 + lackAt xs n s h) else s
def least' (xs : List Int) (n : Int) : Nat → List Int
  | 0 => List.replicate xs.length 0
  | k + 1 => stepL xs n (least' xs n k) k

theorem getD_set (s : List Int) (a i : Nat) (v : Int) : (s.set a v).getD i 0 = if a = i ∧ a < s.length then v else s.getD i 0 := by
  simp only [List.getD_eq_getElem?_getD, List.getElem?_set]
  by_cases h : a = i
  · subst h
    by_cases h2 : a < s.length
    · simp [h2]
    · simp [h2]
  · simp [h]

theorem sum_set : ∀ (s : List Int) (a : Nat) (v : Int), a < s.length → (s.set a v).sum = s.sum - s.getD a 0 + v
  | [], a, v, h => by simp at h
  | x :: r, 0, v, _ => by simp; omega
  | x :: r, a + 1, v, h => by
    have := sum_set r a v (by simpa using h)
    simp only [List.set_cons_succ, List.sum_cons, List.getD_cons_succ, this]; omega

theorem getD_mem {s : List Int} {p : Int → Prop} (h : ∀ x, x ∈ s → p x) {i : Nat} (hi : i < s.length) : p (s.getD i 0) := by
  rw [show s.getD i 0 = s[i] by simp [List.getD_eq_getElem?_getD, hi]]
  exact h _ (by simp)

theorem mem_getD {s : List Int} {p : Int → Prop} (h : ∀ i, i < s.length → p (s.getD i 0)) : ∀ x, x ∈ s → p x := by
  intro x hx
  obtain ⟨i, hi, rfl⟩ := List.mem_iff_getElem.1 hx
  have := h i hi
  rwa [show s.getD i 0 = s[i] by simp [List.getD_eq_getElem?_getD, hi]] at this

section
variable {xs : List Int} {n : Int} (hn : 1 ≤ n ∧ n ≤ xs.length) (hx : ∀ x, x ∈ xs → 0 ≤ x ∧ x ≤ 1000)

theorem least_len (k : Nat) : (least' xs n k).length = xs.length := by
  induction k with
  | zero => simp [least']
  | succ k ih => unfold least' stepL; split <;> simp [ih]

theorem staff_nn {s : List Int} (h : ∀ x, x ∈ s → 0 ≤ x) (k : Nat) : 0 ≤ staff s n k := by
  unfold staff
  have : ∀ l : List Int, (∀ x, x ∈ l → 0 ≤ x) → 0 ≤ l.sum := by
    intro l
    induction l with
    | nil => intro _; simp
    | cons x r ih => intro h; have := h x (by simp); have := ih fun y hy => h y (by simp [hy]); simp; omega
  exact this _ fun x hx => h x (List.mem_of_mem_take (List.mem_of_mem_drop hx))

theorem least_mono (k : Nat) (i : Nat) : (least' xs n k).getD i 0 ≤ (least' xs n (k + 1)).getD i 0 := by
  show _ ≤ (stepL xs n (least' xs n k) k).getD i 0
  unfold stepL
  split
  · rw [getD_set]
    split
    · rename_i he; rw [he.1]; omega
    · omega
  · omega

theorem least_mono' {k m : Nat} (hkm : k ≤ m) (i : Nat) : (least' xs n k).getD i 0 ≤ (least' xs n m).getD i 0 := by
  induction m with
  | zero => have : k = 0 := by omega
            subst this; omega
  | succ m ih =>
    rcases Nat.lt_or_ge m k with h | h
    · have : k = m + 1 := by omega
      subst this; omega
    · have := ih h
      have := least_mono (xs := xs) (n := n) m i
      omega

include hn

theorem atI_lt {k : Nat} : atI xs n k ≤ k ∧ (atI xs n k : Int) ≤ (xs.length : Int) - n := by
  unfold atI; omega

theorem least_tail (k : Nat) (i : Nat) (hi : (xs.length : Int) - n < i) : (least' xs n k).getD i 0 = 0 := by
  induction k with
  | zero => simp [least', List.getD_eq_getElem?_getD, List.getElem?_replicate]; split <;> rfl
  | succ k ih =>
    unfold least' stepL
    split
    · rw [getD_set, if_neg]
      · exact ih
      · rintro ⟨h, _⟩
        have := (atI_lt hn (k := k)).2
        omega
    · exact ih

omit hn in
include hx in
theorem least_bd (k : Nat) (hk : k ≤ xs.length) : ∀ x, x ∈ least' xs n k → 0 ≤ x ∧ x ≤ 1000 * k := by
  induction k with
  | zero => intro x hx; simp [least'] at hx; omega
  | succ k ih =>
    have ih := ih (by omega)
    have hs := staff_nn (n := n) (s := least' xs n k) (fun x h => (ih x h).1) k
    have hk' : k < xs.length := by omega
    have hxk := getD_mem hx hk'
    have hl := least_len (xs := xs) (n := n) k
    refine mem_getD fun i hi => ?_
    rw [least_len] at hi
    have hi' := getD_mem ih (i := i) (by omega)
    unfold least' stepL
    split
    · rename_i hp
      rw [getD_set]
      split
      · rename_i he
        have ha := getD_mem ih (i := atI xs n k) (by omega)
        unfold lackAt at hp ⊢
        omega
      · omega
    · omega

include hx in
theorem least_startsB (hl : xs.length ≤ 48) : startsB (least' xs n xs.length) n = true ↔ ∀ i, i < xs.length → (least' xs n xs.length).getD i 0 ≤ 1000 := by
  have hlen := least_len (xs := xs) (n := n) xs.length
  have hb := least_bd (n := n) hx xs.length (Nat.le_refl _)
  rw [starts_eq]
  unfold startsS
  simp only [Bool.and_eq_true, numsB_iff, decide_eq_true_eq, zerosFrom, List.all_eq_true, List.mem_range, Bool.or_eq_true, hlen]
  constructor
  · rintro ⟨⟨⟨_, h⟩, _⟩, _⟩ i hi
    exact (getD_mem h (i := i) (by omega)).2
  · intro h
    refine ⟨⟨⟨⟨by omega, hl⟩, mem_getD fun i hi => ⟨(getD_mem hb hi).1, h i (by omega)⟩⟩, by omega⟩, fun j hj => ?_⟩
    by_cases h2 : j < ((xs.length : Int) - n + 1).toNat
    · exact .inl h2
    · exact .inr (least_tail hn _ j (by omega))

end

theorem fn_l00Min (a b : Int) : Fn Try.prog 52 [I a, I b] [] (I (min a b)) [] := by
  refine Fn.intro (ks := [0,1,4,7]) hty rfl rfl rfl rfl rfl ?_
  conv => whnf
  refine Br.mk (fun h => ?_) (fun h => ?_)
  · conv => whnf
    have : a < b := by simpa using h
    exact ⟨by rw [show min a b = a by omega], trivial, rfl⟩
  · conv => whnf
    have : ¬ a < b := by simpa using h
    exact ⟨by rw [show min a b = b by omega], trivial, rfl⟩

theorem lend_I {id : Nat} {l : LL} {s : List Int} {m : Nat} (h : lget id l = .row true 1 (cI s)) (hm : s.length = m) : lend1 l (.ls id 0 m 1) (.d (.sl (cI s))) := by
  subst hm; exact lend_all h

/-- What is handed back. -/
abbrev okL (xs : List Int) (n : Int) : Bool := startsB (least' xs n xs.length) n

theorem staff_row (s : List Int) (n : Int) : (List.drop 0 (cI ((List.range s.length).map (staff s n)))).take s.length = cI (staffs s n) := by
  rw [List.drop_zero, List.take_of_length_le (by simp [cI_len])]; rfl

theorem fn_LeastStaff (xs : List Int) (n : Int) (h : hoursB xs n = true) :
    (okL xs n = true → Fn Try.prog 25 [.d (.sl (cI xs)), I n] [] (.tup [.ls 0 0 xs.length 1, I (least' xs n xs.length).sum, B true]) [(0, .row true 1 (cI (least' xs n xs.length)))]) ∧
    (okL xs n = false → Fn Try.prog 25 [.d (.sl (cI xs)), I n] [] (.tup [.d (.sl []), I 0, B false]) []) := by
  obtain ⟨h1, h2, h3, h4, h5⟩ := hoursB_n h
  have hn : 1 ≤ n ∧ n ≤ xs.length := ⟨h3, h4⟩
  have c1 := fn_hoursOk xs n (by omega)
  rw [h] at c1
  have c2 := fn_startsOk (least' xs n xs.length) n (by rw [least_len]; omega)
  constructor
  all_goals
    intro hb
    change startsB (least' xs n xs.length) n = _ at hb
    rw [hb] at c2
    refine Fn.intro (ks := [0,1,4,5,6,7,8,9,10,11,15,20,21,22,23,36,52]) hty rfl rfl rfl rfl rfl ?_
    conv => whnf
    refine VCall.of_data c1 (nd _) ?_
    conv => whnf
    rw [cI_len]
    refine ⟨⟨by omega, by omega, by show (xs.length : Int) * ((8 : Nat) : Int) ≤ _; omega, by omega⟩, ?_⟩
    conv => whnf
    refine VLoop.inv hty (S := Nat) (fun k => [(22, I k), (21, I xs.length), (20, .d (.sl (cI xs))), (8, .ls 19 0 xs.length 1), (7, I xs.length), (1, I n), (0, .d (.sl (cI xs)))])
      (fun k => [(19, .row true 1 (cI (least' xs n k)))]) (fun k => k ≤ xs.length) (fun k => xs.length - k) 0 (Nat.zero_le _)
      ⟨rfl, by show AV.d (.s (.int .i64 ((cI xs).length : Int))) = _; rw [cI_len], rfl, rfl, rfl, rfl, rfl, trivial⟩ ⟨by show Ob.row true 1 (List.replicate (xs.length : Int).toNat [.s (.int .i64 0)]) = _; simp [cI, least'], trivial⟩ ?_
    intro k hk
    conv => whnf
    have hlen := least_len (xs := xs) (n := n) k
    have hbd := least_bd (n := n) h5 k hk
    have hbd' : ∀ x, x ∈ least' xs n k → 0 ≤ x ∧ x ≤ 1000000 := fun x hx => by have := hbd x hx; omega
    refine Br.mk (fun hc => ?_) (fun hc => ?_)
    · have hk' : k < xs.length := by simp at hc; omega
      conv => whnf
      refine ⟨⟨⟨by omega, by rw [cI_len]; omega⟩, cI_sz _⟩, ?_⟩
      conv => whnf
      refine ⟨[.s (.int .i64 xs[k])], by simp [cI, hk'], ?_⟩
      conv => whnf
      have c3 := fn_staffAt (least' xs n k) n hbd' (by omega) (by omega)
      refine VCall.lendD c3 ⟨lend_I rfl hlen, rfl, trivial⟩ (cI_flat _) (by simp [cI_len]) ?_
      rw [staff_row]
      conv => whnf
      refine ⟨⟨⟨by omega, by rw [cI_len, staffs_len]; omega⟩, cI_sz _⟩, ?_⟩
      conv => whnf
      refine ⟨[.s (.int .i64 (staff (least' xs n k) n k))], by simp [cI, staffs, hlen, hk'], ?_⟩
      conv => whnf
      have hs := staff_nn (n := n) (s := least' xs n k) (fun x h => (hbd x h).1) k
      have hs2 : staff (least' xs n k) n k ≤ 48000000 := by
        unfold staff
        have := sum_le (xs := ((least' xs n k).take (k + 1)).drop (max ((k : Int) - n + 1) 0).toNat) (m := 1000000) fun x hx => hbd' x (List.mem_of_mem_take (List.mem_of_mem_drop hx))
        have h2 : (((least' xs n k).take (k + 1)).drop (max ((k : Int) - n + 1) 0).toNat).length ≤ 48 := by simp; omega
        omega
      have hxk : xs.getD k 0 = xs[k] := by simp [List.getD_eq_getElem?_getD, hk']
      have hx0 := h5 xs[k] (by simp)
      have hlack : xs[k] - staff (least' xs n k) n k = lackAt xs n (least' xs n k) k := by unfold lackAt; rw [hxk]
      refine Wr.fit (wrap_i64 (by omega) (by omega)) ?_
      rw [hlack]
      conv => whnf
      refine Br.mk (fun hp => ?_) (fun hp => ?_)
      · have hp : 0 < lackAt xs n (least' xs n k) k := by simpa using hp
        conv => whnf
        refine Wr.fit (wrap_i64 (by omega) (by omega)) ?_
        conv => whnf
        have ha := atI_lt hn (k := k)
        have ha' : atI xs n k < (least' xs n k).length := by omega
        refine ⟨by omega, ?_⟩
        conv => whnf
        refine ⟨[.s (.int .i64 ((least' xs n k).getD (atI xs n k) 0))], by
          rw [show (min (k : Int) ((xs.length : Int) - n)).toNat + 0 = atI xs n k from rfl]
          simp [cI, List.getD_eq_getElem?_getD, ha'], ?_⟩
        conv => whnf
        have hb1 := getD_mem hbd ha'
        refine Wr.fit (wrap_i64 (by omega) (by omega)) ?_
        conv => whnf
        refine ⟨by omega, ?_⟩
        conv => whnf
        refine ⟨[.s (.int .i64 ((least' xs n k).getD (atI xs n k) 0))], by
          rw [show (min (k : Int) ((xs.length : Int) - n)).toNat + 0 = atI xs n k from rfl]
          simp [cI, List.getD_eq_getElem?_getD, ha'], ?_⟩
        conv => whnf
        refine Wr.fit (wrap_i64 (by omega) (by omega)) ?_
        conv => whnf
        refine ⟨k + 1, hk', by omega, ⟨rfl, rfl, rfl, rfl, rfl, rfl, rfl, trivial⟩, ?_, trivial⟩
        show Ob.row true 1 ((cI _).set (atI xs n k) [.s (.int .i64 _)]) = _
        rw [cI_set]
        show _ = Ob.row true 1 (cI (stepL xs n (least' xs n k) k))
        unfold stepL
        rw [if_pos hp]
      · have hp : ¬ 0 < lackAt xs n (least' xs n k) k := by simpa using hp
        conv => whnf
        refine Wr.fit (wrap_i64 (by omega) (by omega)) ?_
        conv => whnf
        refine ⟨k + 1, hk', by omega, ⟨rfl, rfl, rfl, rfl, rfl, rfl, rfl, trivial⟩, ?_, trivial⟩
        show Ob.row true 1 (cI _) = Ob.row true 1 (cI (stepL xs n (least' xs n k) k))
        unfold stepL
        rw [if_neg hp]
    · have hk' : k = xs.length := by simp at hc; omega
      subst hk'
      conv => whnf
      refine VCall.lend c2 ⟨lend_I rfl hlen, rfl, trivial⟩ rfl ?_
      conv => whnf
      first
        | exact ⟨rfl, rfl, trivial, rfl⟩
        | (refine VCall.lend (fn_total (least' xs n xs.length) hbd' (by omega)) ⟨lend_I rfl hlen, trivial⟩ rfl ?_
           conv => whnf
           exact ⟨⟨rfl, rfl, rfl, rfl, rfl, rfl⟩, [], rfl, rfl, rfl, trivial, rfl⟩)

theorem fn_l10Least (xs : List Int) (n : Int) (h : hoursB xs n = true) :
    (okL xs n = true → Fn Try.prog 42 [.d (.sl (cI xs)), I n] [] (.tup [.ls 0 0 xs.length 1, I (least' xs n xs.length).sum, B true]) [(0, .row true 1 (cI (least' xs n xs.length)))]) ∧
    (okL xs n = false → Fn Try.prog 42 [.d (.sl (cI xs)), I n] [] (.tup [.d (.sl []), I 0, B false]) []) := by
  obtain ⟨h1, h2, h3, h4, h5⟩ := hoursB_n h
  have hn : 1 ≤ n ∧ n ≤ xs.length := ⟨h3, h4⟩
  have hst := least_startsB hn h5 h2
  constructor
  all_goals
    intro hb
    change startsB (least' xs n xs.length) n = _ at hb
    refine Fn.intro (ks := [0,1,4,5,6,7,8,9,10,11,12,19,34,54]) hty rfl rfl rfl rfl rfl ?_
    conv => whnf
    rw [cI_len]
    refine ⟨⟨by omega, by omega, by show (xs.length : Int) * ((8 : Nat) : Int) ≤ _; omega, by omega⟩, ?_⟩
    conv => whnf
    refine VLoop.inv hty (S := Nat) (fun k => [(10, I k), (9, I (least' xs n k).sum), (8, .ls 16 0 xs.length 1), (7, I xs.length), (1, I n), (0, .d (.sl (cI xs)))])
      (fun k => [(16, .row true 1 (cI (least' xs n k)))]) (fun k => k ≤ xs.length ∧ ∀ i, i < xs.length → (least' xs n k).getD i 0 ≤ 1000) (fun k => xs.length - k) 0
      ⟨Nat.zero_le _, fun i hi => by simp [least', List.getD_eq_getElem?_getD, hi]⟩
      ⟨rfl, by simp [least']; rfl, rfl, rfl, rfl, rfl, trivial⟩ ⟨by show Ob.row true 1 (List.replicate (xs.length : Int).toNat [.s (.int .i64 0)]) = _; simp [cI, least'], trivial⟩ ?_
    rintro k ⟨hk, hsm⟩
    conv => whnf
    have hlen := least_len (xs := xs) (n := n) k
    have hbd := least_bd (n := n) h5 k hk
    have hbd' : ∀ x, x ∈ least' xs n k → 0 ≤ x ∧ x ≤ 1000000 := fun x hx => by have := hbd x hx; omega
    refine Br.mk (fun hc => ?_) (fun hc => ?_)
    · have hk' : k < xs.length := by simp at hc; omega
      conv => whnf
      refine VDraw.go hmo hty 12 [] rfl ?_
      conv => whnf
      refine ⟨⟨⟨by omega, by rw [cI_len]; omega⟩, cI_sz _⟩, ?_⟩
      conv => whnf
      refine ⟨[.s (.int .i64 xs[k])], by simp [cI, hk'], ?_⟩
      conv => whnf
      have c3 := fn_l10Staff (least' xs n k) n hbd' (by omega) (by omega)
      refine QCall.lendD c3 ⟨lend_I rfl hlen, rfl, trivial⟩ (cI_flat _) (by simp [cI_len]) ?_
      rw [staff_row]
      conv => whnf
      refine ⟨⟨⟨by omega, by rw [cI_len, staffs_len]; omega⟩, cI_sz _⟩, ?_⟩
      conv => whnf
      refine ⟨[.s (.int .i64 (staff (least' xs n k) n k))], by simp [cI, staffs, hlen, hk'], ?_⟩
      conv => whnf
      have hs := staff_nn (s := least' xs n k) (n := n) (fun x h => (hbd x h).1) k
      have hs2 : staff (least' xs n k) n k ≤ 48000000 := by
        unfold staff
        have := sum_le (xs := ((least' xs n k).take (k + 1)).drop (max ((k : Int) - n + 1) 0).toNat) (m := 1000000) fun x hx => hbd' x (List.mem_of_mem_take (List.mem_of_mem_drop hx))
        have h2 : (((least' xs n k).take (k + 1)).drop (max ((k : Int) - n + 1) 0).toNat).length ≤ 48 := by simp; omega
        omega
      have hsum := sum_le hbd'
      have hxk : xs.getD k 0 = xs[k] := by simp [List.getD_eq_getElem?_getD, hk']
      have hx0 := h5 xs[k] (by simp)
      have hlack : xs[k] - staff (least' xs n k) n k = lackAt xs n (least' xs n k) k := by unfold lackAt; rw [hxk]
      refine Wr.fit (wrap_i64 (by omega) (by omega)) ?_
      rw [hlack]
      conv => whnf
      refine Br.mk (fun hp => ?_) (fun hp => ?_)
      · have hp : ¬ 0 < lackAt xs n (least' xs n k) k := by simp at hp; omega
        conv => whnf
        refine Wr.fit (wrap_i64 (by omega) (by omega)) ?_
        conv => whnf
        have e : least' xs n (k + 1) = least' xs n k := by show stepL xs n (least' xs n k) k = _; unfold stepL; rw [if_neg hp]
        refine ⟨k + 1, ⟨hk', by rw [e]; exact hsm⟩, by omega, ⟨rfl, by rw [e]; rfl, rfl, rfl, rfl, rfl, trivial⟩, by rw [e]; rfl, trivial⟩
      · have hp : 0 < lackAt xs n (least' xs n k) k := by simp at hp; omega
        have ha := atI_lt hn (k := k)
        have ha' : atI xs n k < (least' xs n k).length := by omega
        have hb1 := getD_mem hbd ha'
        have e : least' xs n (k + 1) = (least' xs n k).set (atI xs n k) ((least' xs n k).getD (atI xs n k) 0 + lackAt xs n (least' xs n k) k) := by show stepL xs n (least' xs n k) k = _; unfold stepL; rw [if_pos hp]
        have e2 : (least' xs n (k + 1)).sum = (least' xs n k).sum + lackAt xs n (least' xs n k) k := by rw [e, sum_set _ _ _ ha']; omega
        have e3 : (least' xs n (k + 1)).getD (atI xs n k) 0 = (least' xs n k).getD (atI xs n k) 0 + lackAt xs n (least' xs n k) k := by rw [e, getD_set, if_pos ⟨rfl, ha'⟩]
        conv => whnf
        refine Wr.fit (wrap_i64 (by omega) (by omega)) ?_
        conv => whnf
        refine VCall.of_data (fn_l00Min k ((xs.length : Int) - n)) (nd _) ?_
        conv => whnf
        refine ⟨by omega, ?_⟩
        conv => whnf
        refine ⟨[.s (.int .i64 ((least' xs n k).getD (atI xs n k) 0))], by
          rw [show (min (k : Int) ((xs.length : Int) - n)).toNat + 0 = atI xs n k from rfl]
          simp [cI, List.getD_eq_getElem?_getD, ha'], ?_⟩
        conv => whnf
        refine Wr.fit (wrap_i64 (by omega) (by omega)) ?_
        conv => whnf
        refine ⟨by omega, ?_⟩
        conv => whnf
        refine ⟨[.s (.int .i64 ((least' xs n k).getD (atI xs n k) 0))], by
          rw [show (min (k : Int) ((xs.length : Int) - n)).toNat + 0 = atI xs n k from rfl]
          simp [cI, List.getD_eq_getElem?_getD, ha'], ?_⟩
        conv => whnf
        refine Wr.fit (wrap_i64 (by omega) (by omega)) ?_
        conv => whnf
        refine ⟨by omega, ?_⟩
        conv => whnf
        refine ⟨[.s (.int .i64 ((least' xs n k).getD (atI xs n k) 0 + lackAt xs n (least' xs n k) k))], by
          rw [show (min (k : Int) ((xs.length : Int) - n)).toNat + 0 = atI xs n k from rfl]
          show ((cI _).set (atI xs n k) [.s (.int .i64 _)])[atI xs n k]? = _
          simp [cI, ha'], ?_⟩
        conv => whnf
        refine Br.mk (fun hq => ?_) (fun hq => ?_)
        · have hq : 1000 < (least' xs n k).getD (atI xs n k) 0 + lackAt xs n (least' xs n k) k := by simpa using hq
          conv => whnf
          have hbad : startsB (least' xs n xs.length) n = false := by
            cases hcase : startsB (least' xs n xs.length) n
            · rfl
            · have := hst.1 hcase (atI xs n k) (by omega)
              have := least_mono' (xs := xs) (n := n) (k := k + 1) (m := xs.length) hk' (atI xs n k)
              omega
          first
            | (rw [hbad] at hb; cases hb; done)
            | exact ⟨rfl, rfl, trivial, rfl⟩
        · have hq : ¬ 1000 < (least' xs n k).getD (atI xs n k) 0 + lackAt xs n (least' xs n k) k := by simpa using hq
          conv => whnf
          refine Wr.fit (wrap_i64 (by omega) (by omega)) ?_
          conv => whnf
          refine ⟨k + 1, ⟨hk', fun i hi => ?_⟩, by omega, ⟨rfl, by rw [e2]; rfl, rfl, rfl, rfl, rfl, trivial⟩, ?_, trivial⟩
          · rw [e, getD_set]
            split
            · omega
            · exact hsm i hi
          · show Ob.row true 1 ((cI _).set (atI xs n k) [.s (.int .i64 _)]) = Ob.row true 1 (cI (least' xs n (k + 1)))
            rw [cI_set, e]
    · have hk' : k = xs.length := by simp at hc; omega
      subst hk'
      conv => whnf
      have hgood := hst.2 hsm
      first
        | (rw [hgood] at hb; cases hb; done)
        | exact ⟨⟨rfl, rfl, rfl, rfl, rfl, rfl⟩, [], rfl, rfl, rfl, trivial, rfl⟩

theorem hoursB_nums (xs : List Int) (n : Int) : hoursB xs n = (numsB xs && (decide (1 ≤ n) && decide (n ≤ (xs.length : Int)))) := by
  rw [Bool.eq_iff_iff]
  simp only [Bool.and_eq_true, hoursB_iff, numsB_iff, decide_eq_true_eq]
  constructor
  · rintro ⟨h1, h2, h3⟩; exact ⟨⟨h1, h3⟩, h2⟩
  · rintro ⟨⟨h1, h3⟩, h2⟩; exact ⟨h1, h2, h3⟩

/-- What both come to. -/
abbrev goodL (xs : List Int) (n : Int) : Bool := hoursB xs n && okL xs n

theorem fn_LeastStaff1 (xs : List Int) (n : Int) (h : goodL xs n = true) :
    Fn Try.prog 25 [.d (.sl (cI xs)), I n] [] (.tup [.ls 0 0 xs.length 1, I (least' xs n xs.length).sum, B true]) [(0, .row true 1 (cI (least' xs n xs.length)))] := by
  simp only [goodL, Bool.and_eq_true] at h
  exact (fn_LeastStaff xs n h.1).1 h.2

theorem fn_LeastStaff0 (xs : List Int) (n : Int) (hl : xs.length ≤ 1000000) (h : goodL xs n = false) : Fn Try.prog 25 [.d (.sl (cI xs)), I n] [] (.tup [.d (.sl []), I 0, B false]) [] := by
  cases hh : hoursB xs n
  · refine Fn.intro (ks := [0,1,4,5,6,7,8,9,10,11,15,20,21,22,23,36,52]) hty rfl rfl rfl rfl rfl ?_
    conv => whnf
    have c1 := fn_hoursOk xs n hl
    rw [hh] at c1
    refine VCall.of_data c1 (nd _) ?_
    conv => whnf
    exact ⟨rfl, rfl, trivial, rfl⟩
  · rw [goodL, hh, Bool.true_and] at h
    exact (fn_LeastStaff xs n hh).2 h

theorem fn_sLeastStaff (xs : List Int) (n : Int) (hl : xs.length ≤ 1000000) :
    (goodL xs n = true → Fn Try.prog 24 [.d (.sl (cI xs)), I n] [] (.tup [.ls 0 0 xs.length 1, I (least' xs n xs.length).sum, B true]) [(0, .row true 1 (cI (least' xs n xs.length)))]) ∧
    (goodL xs n = false → Fn Try.prog 24 [.d (.sl (cI xs)), I n] [] (.tup [.d (.sl []), I 0, B false]) []) := by
  have c1 := fn_l10Numbers xs hl
  have c2 := fn_l00In n 1 xs.length
  have e := hoursB_nums xs n
  constructor
  · intro h
    simp only [goodL, Bool.and_eq_true] at h
    have h0 := h.1
    rw [e, Bool.and_eq_true] at h0
    rw [h0.1] at c1
    rw [h0.2] at c2
    refine Fn.intro (ks := [0,1,4,5,6,16]) hty rfl rfl rfl rfl rfl ?_
    conv => whnf
    refine VCall.of_data c1 (nd _) ?_
    conv => whnf
    rw [cI_len]
    refine VCall.of_data c2 (nd _) ?_
    conv => whnf
    refine VCall.of_fnT (k := 19) ((fn_l10Least xs n h.1).1 h.2) rfl rfl ?_
    conv => whnf
    exact ⟨⟨rfl, rfl, rfl, rfl, rfl, rfl⟩, [], rfl, rfl, rfl, trivial, rfl⟩
  · intro h
    refine Fn.intro (ks := [0,1,4,5,6,16]) hty rfl rfl rfl rfl rfl ?_
    conv => whnf
    generalize hb1 : numsB xs = b1 at c1 e
    generalize hb2 : (decide (1 ≤ n) && decide (n ≤ (xs.length : Int))) = b2 at c2 e
    refine VCall.of_data c1 (nd _) ?_
    conv => whnf
    cases b1
    · conv => whnf
      exact ⟨rfl, rfl, trivial, rfl⟩
    · conv => whnf
      rw [cI_len]
      refine VCall.of_data c2 (nd _) ?_
      conv => whnf
      cases b2
      · conv => whnf
        exact ⟨rfl, rfl, trivial, rfl⟩
      · conv => whnf
        have e' : hoursB xs n = true := e
        rw [goodL, e', Bool.true_and] at h
        refine VCall.of_data ((fn_l10Least xs n e').2 h) (ndT fun _ => rfl) ?_
        conv => whnf
        exact ⟨rfl, rfl, rfl, trivial, rfl⟩

end Go.V
