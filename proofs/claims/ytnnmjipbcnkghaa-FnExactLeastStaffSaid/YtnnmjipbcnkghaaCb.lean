/- Contracts: staff. -/
import Derived.Test.YtnnmjipbcnkghaaCa
set_option linter.unusedVariables false
namespace Go.V
open Go.Proofs
set_option maxRecDepth 10000

theorem fn_in (n a b : Int) : Fn Try.prog 43 [I n, I a, I b] [] (B (decide (a ≤ n) && decide (n ≤ b))) [] := by
  refine Fn.intro (ks := [0,1,2,6]) hty rfl rfl rfl rfl rfl ?_
  conv => whnf
  refine Br.mk (fun h => ?_) (fun h => ?_)
  · conv => whnf
    exact ⟨by rw [h]; rfl, trivial, rfl⟩
  · conv => whnf
    exact ⟨by rw [h]; rfl, trivial, rfl⟩

theorem sum_take (xs : List Int) (hs : ∀ x, x ∈ xs → 0 ≤ x ∧ x ≤ 1000000) : ∀ k, k ≤ xs.length → 0 ≤ (xs.take k).sum ∧ (xs.take k).sum ≤ 1000000 * k
  | 0, _ => by simp
  | k + 1, h => by
    have ih := sum_take xs hs k (by omega)
    rw [List.take_succ_eq_append_getElem (by omega), List.sum_append]
    have := hs xs[k] (by simp)
    simp
    omega

theorem fn_total (xs : List Int) (hs : ∀ x, x ∈ xs → 0 ≤ x ∧ x ≤ 1000000) (hl : xs.length ≤ 1000000) : Fn Try.prog 33 [.d (.sl (cI xs))] [] (I xs.sum) [] := by
  refine Fn.intro (ks := [0,2,3,5,6,7,8,9]) hty rfl rfl rfl rfl rfl ?_
  conv => whnf
  refine VLoop.inv hty (S := Nat) (fun k => [(8, I k), (7, I (cI xs).length), (6, .d (.sl (cI xs))), (3, I (xs.take k).sum)]) (fun _ => []) (fun k => k ≤ xs.length) (fun k => xs.length - k) 0 (Nat.zero_le _) ⟨rfl, rfl, rfl, rfl, trivial⟩ trivial ?_
  intro k hk
  conv => whnf
  refine Br.mk (fun h => ?_) (fun h => ?_)
  · have hk' : k < xs.length := by simp [cI_len] at h; omega
    conv => whnf
    refine ⟨⟨⟨by omega, by rw [cI_len]; omega⟩, cI_sz xs⟩, ?_⟩
    conv => whnf
    refine ⟨[.s (.int .i64 xs[k])], by simp [cI, hk'], ?_⟩
    conv => whnf
    have h0 := sum_take xs hs k (by omega)
    have h1 := sum_take xs hs (k + 1) (by omega)
    have e : (xs.take k).sum + xs[k] = (xs.take (k + 1)).sum := by rw [List.take_succ_eq_append_getElem hk', List.sum_append]; simp
    refine Wr.fit (wrap_i64 (by omega) (by omega)) ?_
    conv => whnf
    refine Wr.fit (wrap_i64 (by omega) (by omega)) ?_
    conv => whnf
    refine ⟨k + 1, hk', by omega, ⟨rfl, rfl, rfl, ?_, trivial⟩, trivial⟩
    rw [← e]; rfl
  · have hk' : k = xs.length := by simp [cI_len] at h; omega
    conv => whnf
    refine ⟨?_, trivial, rfl⟩
    rw [hk', List.take_length]

def staff (xs : List Int) (n : Int) (h : Nat) : Int := ((xs.take (h + 1)).drop (max ((h : Int) - n + 1) 0).toNat).sum

theorem fn_staffAt (xs : List Int) (n : Int) (hs : ∀ x, x ∈ xs → 0 ≤ x ∧ x ≤ 1000000) (hl : xs.length ≤ 1000000) (hn : 1 ≤ n ∧ n ≤ 1000000) :
    Fn Try.prog 30 [.d (.sl (cI xs)), I n] [] (.ls 0 0 xs.length 1) [(0, .row true 1 (cI ((List.range xs.length).map (staff xs n))))] := by
  refine Fn.intro (ks := [0,1,4,5,6,9,10,11]) hty rfl rfl rfl rfl rfl ?_
  conv => whnf
  refine VLoop.ren 7 25 rfl ?_
  refine VLoop.inv hty (S := Nat) (fun k => [(10, I k), (9, I (cI xs).length), (0, .d (.sl (cI xs))), (1, I n), (5, .ls 25 0 k 1)])
    (fun k => [(25, .row true 1 (cI ((List.range k).map (staff xs n))))]) (fun k => k ≤ xs.length) (fun k => xs.length - k) 0 (Nat.zero_le _) ⟨rfl, rfl, rfl, rfl, rfl, trivial⟩ ⟨rfl, trivial⟩ ?_
  intro k hk
  conv => whnf
  refine Br.mk (fun h => ?_) (fun h => ?_)
  · have hk' : k < xs.length := by simp [cI_len] at h; omega
    conv => whnf
    refine Wr.fit (wrap_i64 (by omega) (by omega)) ?_
    conv => whnf
    refine Wr.fit (wrap_i64 (by omega) (by omega)) ?_
    conv => whnf
    refine Wr.fit (wrap_i64 (by omega) (by omega)) ?_
    conv => whnf
    refine ⟨⟨by rw [cI_len]; omega, cI_sz xs⟩, ?_⟩
    conv => whnf
    have hstaff : staff xs n k = (List.drop (max ((k : Int) - n + 1) 0).toNat (List.take ((k : Int) + 1).toNat xs)).sum := by
      unfold staff; rw [show ((k : Int) + 1).toNat = k + 1 by omega]
    have hcall := fn_total (List.drop (max ((k : Int) - n + 1) 0).toNat (List.take ((k : Int) + 1).toNat xs)) (fun x hx => hs x (List.mem_of_mem_take (List.mem_of_mem_drop hx))) (by simp; omega)
    rw [← hstaff] at hcall
    have e : cI (List.drop (max ((k : Int) - n + 1) 0).toNat (List.take ((k : Int) + 1).toNat xs)) = List.drop (max ((k : Int) - n + 1) 0).toNat (List.take ((k : Int) + 1).toNat (cI xs)) := by simp [cI, List.map_drop, List.map_take]
    rw [e] at hcall
    refine VCall.of_data hcall (fun j h => by cases h) ?_
    conv => whnf
    refine ⟨_, rfl, Nat.le_refl _, ?_⟩
    conv => whnf
    refine ⟨_, rfl, by simp [cI], ?_⟩
    conv => whnf
    refine ⟨by show (k + 1) * 8 ≤ _; omega, ?_⟩
    conv => whnf
    refine Wr.fit (wrap_i64 (by omega) (by omega)) ?_
    conv => whnf
    refine ⟨k + 1, hk', by omega, ⟨rfl, rfl, rfl, rfl, rfl, trivial⟩, ?_, trivial⟩
    show Ob.row true 1 (List.take k (cI (List.map (staff xs n) (List.range k))) ++ [[C.s (Value.int IntKind.i64 (staff xs n k))]]) = _
    have h1 : List.take k (cI (List.map (staff xs n) (List.range k))) = cI (List.map (staff xs n) (List.range k)) := List.take_of_length_le (by simp [cI])
    rw [h1]
    congr 1
    simp [cI, List.range_succ]
  · have hk' : k = xs.length := by simp [cI_len] at h; omega
    subst hk'
    conv => whnf
    exact ⟨⟨rfl, rfl, rfl, rfl, rfl, rfl⟩, [], rfl, trivial, rfl⟩

theorem fn_hours1 (n : Int) : Fn Try.prog 45 [I n] [] (B (!(decide (0 ≤ n) && decide (n ≤ 1000)))) [] := by
  refine Fn.intro (ks := [0,2]) hty rfl rfl rfl rfl rfl ?_
  conv => whnf
  refine VCall.of_data (fn_in n 0 1000) (fun j h => by cases h) ?_
  conv => whnf
  exact ⟨rfl, trivial, rfl⟩

def idx (p : Int → Bool) (xs : List Int) : Int := if xs.any p then xs.findIdx p else -1

theorem fn_index (g : Nat) (p : Int → Bool) (xs : List Int) (hl : xs.length ≤ 1000000) (hg : ∀ x, x ∈ xs → Fn Try.prog g [I x] [] (B (p x)) []) : Fn Try.prog 53 [.d (.sl (cI xs)), .d (.fn g [])] [] (I (idx p xs)) [] := by
  refine Fn.intro (ks := [0,1,4,5,7,8,9,16]) hty rfl rfl rfl rfl rfl ?_
  conv => whnf
  refine VLoop.inv hty (S := Nat) (fun k => [(8, I k), (7, I (cI xs).length), (0, .d (.sl (cI xs))), (1, .d (.fn g []))]) (fun _ => []) (fun k => k ≤ xs.length ∧ ∀ j (h : j < xs.length), j < k → p xs[j] = false) (fun k => xs.length - k) 0 ⟨Nat.zero_le _, fun j _ h => by omega⟩ ⟨rfl, rfl, rfl, rfl, trivial⟩ trivial ?_
  rintro k ⟨hk, hp⟩
  conv => whnf
  refine Br.mk (fun h => ?_) (fun h => ?_)
  · have hk' : k < xs.length := by simp [cI_len] at h; omega
    conv => whnf
    refine ⟨⟨⟨by omega, by rw [cI_len]; omega⟩, cI_sz xs⟩, ?_⟩
    conv => whnf
    refine ⟨[.s (.int .i64 xs[k])], by simp [cI, hk'], ?_⟩
    conv => whnf
    refine VCall.of_data (hg xs[k] (by simp)) (fun j h => by cases h) ?_
    conv => whnf
    refine Br.mk (fun h2 => ?_) (fun h2 => ?_)
    · conv => whnf
      refine ⟨?_, trivial, rfl⟩
      have h3 : xs.any p = true := List.any_eq_true.2 ⟨xs[k], by simp, h2⟩
      have h4 : xs.findIdx p = k := (List.findIdx_eq hk').2 ⟨h2, fun j hj => hp j (by omega) hj⟩
      simp [idx, h3, h4]
    · conv => whnf
      refine Wr.fit (wrap_i64 (by omega) (by omega)) ?_
      conv => whnf
      exact ⟨k + 1, ⟨hk', fun j hj hjk => by
        rcases Nat.lt_or_ge j k with h5 | h5
        · exact hp j hj h5
        · have : j = k := by omega
          subst this; exact h2⟩, by omega, ⟨rfl, rfl, rfl, rfl, trivial⟩, trivial⟩
  · have hk' : k = xs.length := by simp [cI_len] at h; omega
    conv => whnf
    refine ⟨?_, trivial, rfl⟩
    have h3 : xs.any p = false := List.any_eq_false.2 fun x hx => by
      obtain ⟨j, hj, rfl⟩ := List.mem_iff_getElem.1 hx
      simp [hp j hj (by omega)]
    simp [idx, h3]

theorem fn_contains (g : Nat) (p : Int → Bool) (xs : List Int) (hl : xs.length ≤ 1000000) (hg : ∀ x, x ∈ xs → Fn Try.prog g [I x] [] (B (p x)) []) : Fn Try.prog 44 [.d (.sl (cI xs)), .d (.fn g [])] [] (B (xs.any p)) [] := by
  refine Fn.intro (ks := [0,1,4]) hty rfl rfl rfl rfl rfl ?_
  conv => whnf
  refine VCall.of_data (fn_index g p xs hl hg) (fun j h => by cases h) ?_
  conv => whnf
  refine ⟨?_, trivial, rfl⟩
  unfold idx
  cases xs.any p <;> simp


def hoursB (xs : List Int) (n : Int) : Bool := ((decide (1 ≤ (xs.length : Int)) && decide ((xs.length : Int) ≤ 48)) && (decide (1 ≤ n) && decide (n ≤ xs.length))) && !(xs.any fun x => !(decide (0 ≤ x) && decide (x ≤ 1000)))

theorem fn_hoursOk (xs : List Int) (n : Int) (hl : xs.length ≤ 1000000) : Fn Try.prog 28 [.d (.sl (cI xs)), I n] [] (B (hoursB xs n)) [] := by
  refine Fn.intro (ks := [0,1,4,5]) hty rfl rfl rfl rfl rfl ?_
  conv => whnf
  rw [cI_len]
  have c1 := fn_in xs.length 1 48
  have c2 := fn_in n 1 xs.length
  have c3 := fn_contains 45 _ xs hl (fun x _ => fn_hours1 x)
  generalize h1 : (decide (1 ≤ (xs.length : Int)) && decide ((xs.length : Int) ≤ 48)) = b1 at c1
  generalize h2 : (decide (1 ≤ n) && decide (n ≤ (xs.length : Int))) = b2 at c2
  generalize h3 : (xs.any fun x => !(decide (0 ≤ x) && decide (x ≤ 1000))) = b3 at c3
  have hB : hoursB xs n = ((b1 && b2) && !b3) := by rw [hoursB, h1, h2, h3]
  refine VCall.of_data c1 (fun j h => by cases h) ?_
  conv => whnf
  refine Br.mk (fun e1 => ?_) (fun e1 => ?_)
  · conv => whnf
    refine VCall.of_data c2 (fun j h => by cases h) ?_
    conv => whnf
    subst e1
    conv => whnf
    refine Br.mk (fun e2 => ?_) (fun e2 => ?_)
    · conv => whnf
      refine VCall.of_data c3 (fun j h => by cases h) ?_
      conv => whnf
      exact ⟨by rw [hB, e2]; cases b3 <;> rfl, trivial, rfl⟩
    · conv => whnf
      exact ⟨by rw [hB, e2]; rfl, trivial, rfl⟩
  · conv => whnf
    exact ⟨by rw [hB, e1]; rfl, trivial, rfl⟩

theorem fn_starts1 (n : Int) : Fn Try.prog 46 [I n] [] (B (decide (0 < n))) [] := by
  refine Fn.intro (ks := [0,2]) hty rfl rfl rfl rfl rfl ?_
  conv => whnf
  exact ⟨rfl, trivial, rfl⟩

def startsB (xs : List Int) (n : Int) : Bool := hoursB xs n && !((xs.drop ((xs.length : Int) - n + 1).toNat).any fun x => decide (0 < x))

theorem hoursB_n {xs : List Int} {n : Int} (h : hoursB xs n = true) : 1 ≤ xs.length ∧ xs.length ≤ 48 ∧ 1 ≤ n ∧ n ≤ xs.length ∧ ∀ x, x ∈ xs → 0 ≤ x ∧ x ≤ 1000 := by
  simp [hoursB] at h
  obtain ⟨⟨⟨h1, h2⟩, h3, h4⟩, h5⟩ := h
  exact ⟨by omega, by omega, h3, h4, fun x hx => h5 x hx⟩

theorem fn_startsOk (xs : List Int) (n : Int) (hl : xs.length ≤ 1000000) : Fn Try.prog 29 [.d (.sl (cI xs)), I n] [] (B (startsB xs n)) [] := by
  refine Fn.intro (ks := [0,1,4,7,8]) hty rfl rfl rfl rfl rfl ?_
  conv => whnf
  have c1 := fn_hoursOk xs n hl
  generalize h1 : hoursB xs n = b1 at c1
  refine VCall.of_data c1 (fun j h => by cases h) ?_
  conv => whnf
  cases b1 with
  | false =>
    conv => whnf
    exact ⟨by rw [startsB, h1]; rfl, trivial, rfl⟩
  | true =>
    obtain ⟨g1, g2, g3, g4, g5⟩ := hoursB_n h1
    conv => whnf
    rw [cI_len]
    refine Wr.fit (wrap_i64 (by omega) (by omega)) ?_
    conv => whnf
    refine Wr.fit (wrap_i64 (by omega) (by omega)) ?_
    conv => whnf
    refine ⟨⟨by rw [cI_len]; omega, cI_sz xs⟩, ?_⟩
    conv => whnf
    have c2 := fn_contains 46 _ (xs.drop ((xs.length : Int) - n + 1).toNat) (by simp; omega) (fun x _ => fn_starts1 x)
    generalize h2 : ((xs.drop ((xs.length : Int) - n + 1).toNat).any fun x => decide (0 < x)) = b2 at c2
    have e : cI (xs.drop ((xs.length : Int) - n + 1).toNat) = List.drop ((xs.length : Int) - n + 1).toNat (List.take ((cI xs).length : Int).toNat (cI xs)) := by
      rw [List.take_of_length_le (by simp)]; simp [cI, List.map_drop]
    rw [e] at c2
    refine VCall.of_data c2 (fun j h => by cases h) ?_
    conv => whnf
    exact ⟨by rw [startsB, h1, h2]; rfl, trivial, rfl⟩


def staffedB (xs ys : List Int) (n : Int) : Bool := hoursB xs n && decide (xs.length = ys.length) && startsB ys n && (List.range ys.length).all fun h => decide (xs.getD h 0 ≤ staff ys n h)

theorem fn_IsStaffed (xs ys : List Int) (n : Int) (hl : xs.length ≤ 1000000) (hl' : ys.length ≤ 1000000) : Fn Try.prog 10 [.d (.sl (cI xs)), .d (.sl (cI ys)), I n] [] (B (staffedB xs ys n)) [] := by
  refine Fn.intro (ks := [0,1,2,6,7,8,25,28,29,30,31,40]) hty rfl rfl rfl rfl rfl ?_
  conv => whnf
  have c1 := fn_hoursOk xs n hl
  have c2 := fn_startsOk ys n hl'
  generalize h1 : hoursB xs n = b1 at c1
  generalize h2 : startsB ys n = b2 at c2
  refine VCall.of_data c1 (fun j h => by cases h) ?_
  conv => whnf
  cases b1 with
  | false =>
    conv => whnf
    exact ⟨by rw [staffedB, h1]; rfl, trivial, rfl⟩
  | true =>
    obtain ⟨g1, g2, g3, g4, g5⟩ := hoursB_n h1
    conv => whnf
    rw [cI_len, cI_len]
    refine Br.mk (fun e1 => ?_) (fun e1 => ?_)
    · conv => whnf
      exact ⟨by have : ¬ xs.length = ys.length := fun e => by rw [e] at e1; simp at e1
                rw [staffedB]; simp [this], trivial, rfl⟩
    · have hxy : xs.length = ys.length := by simp at e1; omega
      conv => whnf
      refine VCall.of_data c2 (fun j h => by cases h) ?_
      conv => whnf
      cases b2 with
      | false =>
        conv => whnf
        exact ⟨by rw [staffedB, h2]; simp, trivial, rfl⟩
      | true =>
        have hb : hoursB ys n = true := by
          have := h2; unfold startsB at this; simp at this; exact this.1
        obtain ⟨k1, k2, k3, k4, k5⟩ := hoursB_n hb
        conv => whnf
        have c3 := fn_staffAt ys n (fun x hx => by have := k5 x hx; omega) hl' (by omega)
        refine VCall.of_fn (k := 28) c3 (namesIn_ls (by simp)) rfl ?_
        conv => whnf
        refine VLoop.inv hty (S := Nat) (fun k => [(30, I k), (29, I ys.length), (28, .ls 28 0 ys.length 1), (0, .d (.sl (cI xs)))])
          (fun _ => [(28, .row true 1 (cI ((List.range ys.length).map (staff ys n))))]) (fun k => k ≤ ys.length ∧ ∀ j, j < k → xs.getD j 0 ≤ staff ys n j) (fun k => ys.length - k) 0 ⟨Nat.zero_le _, fun j h => by omega⟩ ⟨rfl, rfl, rfl, rfl, trivial⟩ ⟨rfl, trivial⟩ ?_
        rintro k ⟨hk, hp⟩
        conv => whnf
        refine Br.mk (fun h => ?_) (fun h => ?_)
        · have hk' : k < ys.length := by simp at h; omega
          conv => whnf
          refine ⟨by omega, ?_⟩
          conv => whnf
          refine ⟨[.s (.int .i64 (staff ys n k))], by simp [cI, hk'], ?_⟩
          conv => whnf
          refine ⟨⟨⟨by omega, by rw [cI_len]; omega⟩, cI_sz xs⟩, ?_⟩
          conv => whnf
          refine ⟨[.s (.int .i64 xs[k])], by simp [cI, hxy, hk'], ?_⟩
          conv => whnf
          have hx : xs.getD k 0 = xs[k] := by simp [List.getD_eq_getElem?_getD, hxy, hk']
          refine Br.mk (fun h3 => ?_) (fun h3 => ?_)
          · conv => whnf
            refine ⟨?_, trivial, rfl⟩
            have h4 : staff ys n k < xs[k] := by simpa using h3
            have : staffedB xs ys n = false := by
              unfold staffedB
              have : ((List.range ys.length).all fun h => decide (xs.getD h 0 ≤ staff ys n h)) = false := by
                rw [List.all_eq_false]
                exact ⟨k, by simpa using hk', by rw [hx]; simp; omega⟩
              rw [this]; simp
            rw [this]
          · have h4 : xs[k] ≤ staff ys n k := by simpa using h3
            conv => whnf
            refine Wr.fit (wrap_i64 (by omega) (by omega)) ?_
            conv => whnf
            refine ⟨k + 1, ⟨hk', fun j hj => ?_⟩, by omega, ⟨rfl, rfl, rfl, rfl, trivial⟩, ⟨rfl, trivial⟩⟩
            rcases Nat.lt_or_ge j k with h5 | h5
            · exact hp j h5
            · have : j = k := by omega
              subst this; rw [hx]; exact h4
        · have hk' : k = ys.length := by simp at h; omega
          conv => whnf
          refine ⟨?_, trivial, rfl⟩
          have : staffedB xs ys n = true := by
            unfold staffedB
            rw [h1, h2, decide_eq_true hxy, List.all_eq_true.2 fun j hj => by
              have := hp j (by simp at hj; omega); simpa using this]
            rfl
          rw [this]

theorem fn_l00In (n a b : Int) : Fn Try.prog 41 [I n, I a, I b] [] (B (decide (a ≤ n) && decide (n ≤ b))) [] := by
  refine Fn.intro (ks := [0,1,2,6]) hty rfl rfl rfl rfl rfl ?_
  conv => whnf
  refine Br.mk (fun h => ?_) (fun h => ?_)
  · conv => whnf
    exact ⟨by rw [h]; rfl, trivial, rfl⟩
  · conv => whnf
    exact ⟨by rw [h]; rfl, trivial, rfl⟩

theorem fn_l00Max (a b : Int) : Fn Try.prog 47 [I a, I b] [] (I (max a b)) [] := by
  refine Fn.intro (ks := [0,1,4,7]) hty rfl rfl rfl rfl rfl ?_
  conv => whnf
  refine Br.mk (fun h => ?_) (fun h => ?_)
  · conv => whnf
    have : b < a := by simpa using h
    exact ⟨by rw [show max a b = a by omega], trivial, rfl⟩
  · conv => whnf
    have : ¬ b < a := by simpa using h
    exact ⟨by rw [show max a b = b by omega], trivial, rfl⟩

def numsB (xs : List Int) : Bool := (decide (1 ≤ (xs.length : Int)) && decide ((xs.length : Int) ≤ 48)) && xs.all fun x => (decide (0 ≤ x) && decide (x ≤ 1000))

theorem fn_l10Numbers (xs : List Int) (hl : xs.length ≤ 1000000) : Fn Try.prog 40 [.d (.sl (cI xs))] [] (B (numsB xs)) [] := by
  refine Fn.intro (ks := [0,2,3,11,15,23]) hty rfl rfl rfl rfl rfl ?_
  conv => whnf
  rw [cI_len]
  have small : ¬ (1 ≤ (xs.length : Int) ∧ (xs.length : Int) ≤ 48) → numsB xs = false := fun h => by
    have : (decide (1 ≤ (xs.length : Int)) && decide ((xs.length : Int) ≤ 48)) = false := by
      simp only [Bool.and_eq_false_iff, decide_eq_false_iff_not]; omega
    rw [numsB, this]; rfl
  have loop : 1 ≤ (xs.length : Int) → (xs.length : Int) ≤ 48 → ∀ Q : Ex → TL → LL → Prop, True := fun _ _ _ => trivial
  refine Br.mk (fun h => ?_) (fun h => ?_)
  · conv => whnf
    have h : (xs.length : Int) < 1 := by simpa using h
    exact ⟨by rw [small (by omega)], trivial, rfl⟩
  · have h : ¬ (xs.length : Int) < 1 := by simpa using h
    conv => whnf
    rw [cI_len]
    refine Br.mk (fun h2 => ?_) (fun h2 => ?_)
    · conv => whnf
      have h2 : 48 < (xs.length : Int) := by simpa using h2
      exact ⟨by rw [small (by omega)], trivial, rfl⟩
    · have h2 : ¬ 48 < (xs.length : Int) := by simpa using h2
      conv => whnf
      refine VLoop.inv hty (S := Nat) (fun k => [(3, I k), (0, .d (.sl (cI xs)))]) (fun _ => []) (fun k => k ≤ xs.length ∧ ∀ j (h : j < xs.length), j < k → (decide (0 ≤ xs[j]) && decide (xs[j] ≤ 1000)) = true) (fun k => xs.length - k) 0 ⟨Nat.zero_le _, fun j _ h => by omega⟩ ⟨rfl, rfl, trivial⟩ trivial ?_
      rintro k ⟨hk, hp⟩
      conv => whnf
      rw [cI_len]
      refine Br.mk (fun h3 => ?_) (fun h3 => ?_)
      · have hk' : k < xs.length := by simp at h3; omega
        conv => whnf
        refine ⟨⟨⟨by omega, by rw [cI_len]; omega⟩, cI_sz xs⟩, ?_⟩
        conv => whnf
        refine ⟨[.s (.int .i64 xs[k])], by simp [cI, hk'], ?_⟩
        conv => whnf
        have c1 := fn_l00In xs[k] 0 1000
        generalize h4 : (decide (0 ≤ xs[k]) && decide (xs[k] ≤ 1000)) = b at c1
        refine VCall.of_data c1 (fun j h => by cases h) ?_
        conv => whnf
        cases b with
        | false =>
          conv => whnf
          refine ⟨?_, trivial, rfl⟩
          have : (xs.all fun x => (decide (0 ≤ x) && decide (x ≤ 1000))) = false := by
            rw [List.all_eq_false]; exact ⟨xs[k], by simp, by rw [h4]; simp⟩
          rw [numsB, this, Bool.and_false]
        | true =>
          conv => whnf
          refine Wr.fit (wrap_i64 (by omega) (by omega)) ?_
          conv => whnf
          refine ⟨k + 1, ⟨hk', fun j hj hjk => ?_⟩, by omega, ⟨rfl, rfl, trivial⟩, trivial⟩
          rcases Nat.lt_or_ge j k with h5 | h5
          · exact hp j hj h5
          · have : j = k := by omega
            subst this; exact h4
      · have hk' : k = xs.length := by simp at h3; omega
        conv => whnf
        refine ⟨?_, trivial, rfl⟩
        have e1 : (xs.all fun x => (decide (0 ≤ x) && decide (x ≤ 1000))) = true := List.all_eq_true.2 fun x hx => by
          obtain ⟨j, hj, rfl⟩ := List.mem_iff_getElem.1 hx
          exact hp j hj (by omega)
        have e2 : (decide (1 ≤ (xs.length : Int)) && decide ((xs.length : Int) ≤ 48)) = true := by simp; omega
        rw [numsB, e1, e2]; rfl

def zerosFrom (xs : List Int) (i : Nat) : Bool := (List.range xs.length).all fun j => decide (j < i) || decide (xs.getD j 0 = 0)
def startsS (xs : List Int) (n : Int) : Bool := (numsB xs && (decide (1 ≤ n) && decide (n ≤ (xs.length : Int)))) && zerosFrom xs ((xs.length : Int) - n + 1).toNat

theorem numsB_n {xs : List Int} (h : numsB xs = true) : 1 ≤ xs.length ∧ xs.length ≤ 48 ∧ ∀ x, x ∈ xs → 0 ≤ x ∧ x ≤ 1000 := by
  simp [numsB] at h
  obtain ⟨⟨h1, h2⟩, h5⟩ := h
  exact ⟨by omega, by omega, fun x hx => h5 x hx⟩

theorem fn_l10Starts (xs : List Int) (n : Int) (hl : xs.length ≤ 1000000) : Fn Try.prog 31 [.d (.sl (cI xs)), I n] [] (B (startsS xs n)) [] := by
  refine Fn.intro (ks := [0,1,4,5,6,17,24,31]) hty rfl rfl rfl rfl rfl ?_
  conv => whnf
  have c1 := fn_l10Numbers xs hl
  have c2 := fn_l00In n 1 xs.length
  generalize h1 : numsB xs = b1 at c1
  generalize h2 : (decide (1 ≤ n) && decide (n ≤ (xs.length : Int))) = b2 at c2
  refine VCall.of_data c1 (fun j h => by cases h) ?_
  conv => whnf
  cases b1 with
  | false =>
    conv => whnf
    exact ⟨by rw [startsS, h1]; rfl, trivial, rfl⟩
  | true =>
    obtain ⟨g1, g2, g5⟩ := numsB_n h1
    conv => whnf
    rw [cI_len]
    refine VCall.of_data c2 (fun j h => by cases h) ?_
    conv => whnf
    cases b2 with
    | false =>
      conv => whnf
      exact ⟨by rw [startsS, h1, h2]; rfl, trivial, rfl⟩
    | true =>
      have hn : 1 ≤ n ∧ n ≤ xs.length := by simpa using h2
      conv => whnf
      refine Wr.fit (wrap_i64 (by omega) (by omega)) ?_
      conv => whnf
      refine Wr.fit (wrap_i64 (by omega) (by omega)) ?_
      conv => whnf
      refine VLoop.inv hty (S := Nat) (fun k => [(6, I k), (5, I xs.length), (0, .d (.sl (cI xs)))]) (fun _ => []) (fun k => k ≤ xs.length ∧ ((xs.length : Int) - n + 1).toNat ≤ k ∧ ∀ j, j < k → ((xs.length : Int) - n + 1).toNat ≤ j → xs.getD j 0 = 0) (fun k => xs.length - k) ((xs.length : Int) - n + 1).toNat ⟨by omega, Nat.le_refl _, fun j h h' => by omega⟩ ⟨by show I _ = I _; rw [Int.toNat_of_nonneg (by omega)], rfl, rfl, trivial⟩ trivial ?_
      rintro k ⟨hk, hk0, hp⟩
      conv => whnf
      refine Br.mk (fun h3 => ?_) (fun h3 => ?_)
      · have hk' : k < xs.length := by simp at h3; omega
        have hx : xs.getD k 0 = xs[k] := by simp [List.getD_eq_getElem?_getD, hk']
        conv => whnf
        refine ⟨⟨⟨by omega, by rw [cI_len]; omega⟩, cI_sz xs⟩, ?_⟩
        conv => whnf
        refine ⟨[.s (.int .i64 xs[k])], by simp [cI, hk'], ?_⟩
        conv => whnf
        refine Br.mk (fun h4 => ?_) (fun h4 => ?_)
        · have h4 : xs[k] ≠ 0 := by simpa using h4
          conv => whnf
          refine ⟨?_, trivial, rfl⟩
          have : zerosFrom xs ((xs.length : Int) - n + 1).toNat = false := by
            rw [zerosFrom, List.all_eq_false]
            exact ⟨k, by simpa using hk', by rw [hx]; simp; exact ⟨by omega, h4⟩⟩
          rw [startsS, this, Bool.and_false]
        · have h4 : xs[k] = 0 := by simpa using h4
          conv => whnf
          refine Wr.fit (wrap_i64 (by omega) (by omega)) ?_
          conv => whnf
          refine ⟨k + 1, ⟨hk', by omega, fun j hj hj0 => ?_⟩, by omega, ⟨rfl, rfl, rfl, trivial⟩, trivial⟩
          rcases Nat.lt_or_ge j k with h5 | h5
          · exact hp j h5 hj0
          · have : j = k := by omega
            subst this; rw [hx]; exact h4
      · have hk' : k = xs.length := by simp at h3; omega
        conv => whnf
        refine ⟨?_, trivial, rfl⟩
        have : zerosFrom xs ((xs.length : Int) - n + 1).toNat = true := by
          rw [zerosFrom, List.all_eq_true]
          intro j hj
          simp at hj
          rcases Nat.lt_or_ge j ((xs.length : Int) - n + 1).toNat with h5 | h5
          · simp [h5]
          · simp only [Bool.or_eq_true, decide_eq_true_eq]; exact .inr (hp j (by omega) h5)
        rw [startsS, h1, h2, this]; rfl

theorem part_succ (xs : List Int) (a i : Nat) (ha : a ≤ i) (hi : i < xs.length) : ((xs.take (i + 1)).drop a).sum = ((xs.take i).drop a).sum + xs[i] := by
  rw [List.take_succ_eq_append_getElem hi, List.drop_append_of_le_length (by simp; omega), List.sum_append]; simp

theorem part_bound (xs : List Int) (hs : ∀ x, x ∈ xs → 0 ≤ x ∧ x ≤ 1000000) (a i : Nat) : 0 ≤ ((xs.take i).drop a).sum ∧ ((xs.take i).drop a).sum ≤ 1000000 * xs.length := by
  have h := sum_take ((xs.take i).drop a) (fun x hx => hs x (List.mem_of_mem_take (List.mem_of_mem_drop hx))) _ (Nat.le_refl _)
  rw [List.take_length] at h
  have : ((xs.take i).drop a).length ≤ xs.length := by simp; omega
  omega

theorem fn_l10Staff (xs : List Int) (n : Int) (hs : ∀ x, x ∈ xs → 0 ≤ x ∧ x ≤ 1000000) (hl : xs.length ≤ 1000000) (hn : 1 ≤ n ∧ n ≤ 1000000) :
    Fn Try.prog 32 [.d (.sl (cI xs)), I n] [] (.ls 0 0 xs.length 1) [(0, .row true 1 (cI ((List.range xs.length).map (staff xs n))))] := by
  refine Fn.intro (ks := [0,1,4,5,6,7,8,13,23]) hty rfl rfl rfl rfl rfl ?_
  conv => whnf
  refine VLoop.ren 9 35 rfl ?_
  refine VLoop.inv hty (S := Nat) (fun k => [(6, I k), (0, .d (.sl (cI xs))), (1, I n), (5, .ls 35 0 k 1)])
    (fun k => [(35, .row true 1 (cI ((List.range k).map (staff xs n))))]) (fun k => k ≤ xs.length) (fun k => xs.length - k) 0 (Nat.zero_le _) ⟨rfl, rfl, rfl, rfl, trivial⟩ ⟨rfl, trivial⟩ ?_
  intro k hk
  conv => whnf
  rw [cI_len]
  refine Br.mk (fun h => ?_) (fun h => ?_)
  · have hk' : k < xs.length := by simp at h; omega
    conv => whnf
    refine Wr.fit (wrap_i64 (by omega) (by omega)) ?_
    conv => whnf
    refine Wr.fit (wrap_i64 (by omega) (by omega)) ?_
    conv => whnf
    refine VCall.of_data (fn_l00Max 0 ((k : Int) - n + 1)) (fun j h => by cases h) ?_
    conv => whnf
    refine VLoop.inv hty (S := Nat) (fun i => [(8, I i), (7, I ((xs.take i).drop (max ((k : Int) - n + 1) 0).toNat).sum), (6, I k), (0, .d (.sl (cI xs))), (1, I n), (5, .ls 35 0 k 1)])
      (fun _ => [(35, .row true 1 (cI ((List.range k).map (staff xs n))))]) (fun i => i ≤ k + 1 ∧ (max ((k : Int) - n + 1) 0).toNat ≤ i) (fun i => k + 1 - i) (max ((k : Int) - n + 1) 0).toNat ⟨by omega, Nat.le_refl _⟩
      ⟨by show I _ = I _; congr 3; omega, by show I 0 = I _; rw [List.drop_of_length_le (by simp; omega)]; rfl, rfl, rfl, rfl, rfl, trivial⟩ ⟨rfl, trivial⟩ ?_
    rintro i ⟨hi, ha⟩
    conv => whnf
    refine Br.mk (fun h2 => ?_) (fun h2 => ?_)
    · have hi' : i ≤ k := by simp at h2; omega
      conv => whnf
      refine ⟨⟨⟨by omega, by rw [cI_len]; omega⟩, cI_sz xs⟩, ?_⟩
      conv => whnf
      refine ⟨[.s (.int .i64 xs[i])], by simp [cI], ?_⟩
      conv => whnf
      have e := part_succ xs (max ((k : Int) - n + 1) 0).toNat i ha (by omega)
      have b := part_bound xs hs (max ((k : Int) - n + 1) 0).toNat (i + 1)
      refine Wr.fit (wrap_i64 (by omega) (by omega)) ?_
      conv => whnf
      refine Wr.fit (wrap_i64 (by omega) (by omega)) ?_
      conv => whnf
      refine ⟨i + 1, ⟨by omega, by omega⟩, by omega, ⟨rfl, ?_, rfl, rfl, rfl, rfl, trivial⟩, ⟨rfl, trivial⟩⟩
      rw [e]; rfl
    · have hi' : i = k + 1 := by simp at h2; omega
      subst hi'
      conv => whnf
      refine ⟨_, rfl, Nat.le_refl _, ?_⟩
      conv => whnf
      refine ⟨_, rfl, by simp [cI], ?_⟩
      conv => whnf
      refine ⟨by show (k + 1) * 8 ≤ _; omega, ?_⟩
      conv => whnf
      refine Wr.fit (wrap_i64 (by omega) (by omega)) ?_
      conv => whnf
      refine ⟨k + 1, hk', by omega, ⟨rfl, rfl, rfl, rfl, trivial⟩, ?_, trivial⟩
      show Ob.row true 1 (List.take k (cI (List.map (staff xs n) (List.range k))) ++ [[C.s (Value.int IntKind.i64 (staff xs n k))]]) = _
      have h1 : List.take k (cI (List.map (staff xs n) (List.range k))) = cI (List.map (staff xs n) (List.range k)) := List.take_of_length_le (by simp [cI])
      rw [h1]
      congr 1
      simp [cI, List.range_succ]
  · have hk' : k = xs.length := by simp at h; omega
    subst hk'
    conv => whnf
    exact ⟨⟨rfl, rfl, rfl, rfl, rfl, rfl⟩, [], rfl, trivial, rfl⟩

def metB (xs ys : List Int) (n : Int) : Bool := numsB xs && decide (ys.length = xs.length) && startsS ys n && (List.range ys.length).all fun h => decide (xs.getD h 0 ≤ staff ys n h)

theorem fn_l10Met (xs ys : List Int) (n : Int) (hl : xs.length ≤ 1000000) (hl' : ys.length ≤ 1000000) : Fn Try.prog 26 [.d (.sl (cI xs)), .d (.sl (cI ys)), I n] [] (B (metB xs ys n)) [] := by
  refine Fn.intro (ks := [0,1,2,6,7,8,24,31,42]) hty rfl rfl rfl rfl rfl ?_
  conv => whnf
  have c1 := fn_l10Numbers xs hl
  have c2 := fn_l10Starts ys n hl'
  generalize h1 : numsB xs = b1 at c1
  generalize h2 : startsS ys n = b2 at c2
  refine VCall.of_data c1 (fun j h => by cases h) ?_
  conv => whnf
  cases b1 with
  | false =>
    conv => whnf
    exact ⟨by rw [metB, h1]; rfl, trivial, rfl⟩
  | true =>
    obtain ⟨g1, g2, g5⟩ := numsB_n h1
    conv => whnf
    rw [cI_len, cI_len]
    refine Br.mk (fun e1 => ?_) (fun e1 => ?_)
    · conv => whnf
      exact ⟨by have : ¬ ys.length = xs.length := fun e => by rw [e] at e1; simp at e1
                rw [metB]; simp [this], trivial, rfl⟩
    · have hxy : ys.length = xs.length := by simp at e1; omega
      conv => whnf
      refine VCall.of_data c2 (fun j h => by cases h) ?_
      conv => whnf
      cases b2 with
      | false =>
        conv => whnf
        exact ⟨by rw [metB, h2]; simp, trivial, rfl⟩
      | true =>
        have hb : numsB ys = true ∧ 1 ≤ n ∧ n ≤ ys.length := by
          have := h2; unfold startsS at this; simp at this; exact ⟨this.1.1, this.1.2⟩
        obtain ⟨k1, k2, k5⟩ := numsB_n hb.1
        conv => whnf
        have c3 := fn_l10Staff ys n (fun x hx => by have := k5 x hx; omega) hl' (by omega)
        refine VCall.of_fn (k := 27) c3 (namesIn_ls (by simp)) rfl ?_
        conv => whnf
        refine VLoop.inv hty (S := Nat) (fun k => [(8, I k), (7, .ls 27 0 ys.length 1), (0, .d (.sl (cI xs)))])
          (fun _ => [(27, .row true 1 (cI ((List.range ys.length).map (staff ys n))))]) (fun k => k ≤ ys.length ∧ ∀ j, j < k → xs.getD j 0 ≤ staff ys n j) (fun k => ys.length - k) 0 ⟨Nat.zero_le _, fun j h => by omega⟩ ⟨rfl, rfl, rfl, trivial⟩ ⟨rfl, trivial⟩ ?_
        rintro k ⟨hk, hp⟩
        conv => whnf
        refine Br.mk (fun h => ?_) (fun h => ?_)
        · have hk' : k < ys.length := by simp at h; omega
          conv => whnf
          refine VDraw.go hmo hty 9 [] rfl ?_
          conv => whnf
          refine ⟨by omega, ?_⟩
          conv => whnf
          refine ⟨[.s (.int .i64 (staff ys n k))], by simp [cI, hk'], ?_⟩
          conv => whnf
          refine ⟨⟨⟨by omega, by rw [cI_len]; omega⟩, cI_sz xs⟩, ?_⟩
          conv => whnf
          refine ⟨[.s (.int .i64 xs[k])], by simp [cI, ← hxy, hk'], ?_⟩
          conv => whnf
          have hx : xs.getD k 0 = xs[k] := by simp [List.getD_eq_getElem?_getD, ← hxy, hk']
          refine Br.mk (fun h3 => ?_) (fun h3 => ?_)
          · conv => whnf
            refine ⟨?_, trivial, rfl⟩
            have h4 : staff ys n k < xs[k] := by simpa using h3
            have : metB xs ys n = false := by
              unfold metB
              have : ((List.range ys.length).all fun h => decide (xs.getD h 0 ≤ staff ys n h)) = false := by
                rw [List.all_eq_false]
                exact ⟨k, by simpa using hk', by rw [hx]; simp; omega⟩
              rw [this]; simp
            rw [this]
          · have h4 : xs[k] ≤ staff ys n k := by simpa using h3
            conv => whnf
            refine Wr.fit (wrap_i64 (by omega) (by omega)) ?_
            conv => whnf
            refine ⟨k + 1, ⟨hk', fun j hj => ?_⟩, by omega, ⟨rfl, rfl, rfl, trivial⟩, ⟨rfl, trivial⟩⟩
            rcases Nat.lt_or_ge j k with h5 | h5
            · exact hp j h5
            · have : j = k := by omega
              subst this; rw [hx]; exact h4
        · have hk' : k = ys.length := by simp at h; omega
          conv => whnf
          refine ⟨?_, trivial, rfl⟩
          have : metB xs ys n = true := by
            unfold metB
            rw [h1, h2, decide_eq_true hxy, List.all_eq_true.2 fun j hj => by
              have := hp j (by simp at hj; omega); simpa using this]
            rfl
          rw [this]

theorem fn_specIsStaffed (xs ys : List Int) (n : Int) (hl : xs.length ≤ 1000000) (hl' : ys.length ≤ 1000000) : Fn Try.prog 8 [.d (.sl (cI xs)), .d (.sl (cI ys)), I n] [] (B (metB xs ys n)) [] := by
  refine Fn.intro (ks := [0,1,2,3,4,5,6,7,8,9,10,11,12]) hty rfl rfl rfl rfl rfl ?_
  conv => whnf
  refine VCall.of_data (fn_l10Met xs ys n hl hl') (fun j h => by cases h) ?_
  conv => whnf
  exact ⟨rfl, trivial, rfl⟩
end Go.V
