/- The law of IsStaffed. -/
import Derived.Test.YtnnmjipbcnkghaaCb
import Derived.Test.YtnnmjipbcnkghaaCc
set_option linter.unusedVariables false
namespace Go.V
open Go.Proofs
set_option maxRecDepth 10000

theorem hoursB_iff (xs : List Int) (n : Int) : hoursB xs n = true ↔ (1 ≤ xs.length ∧ xs.length ≤ 48) ∧ (1 ≤ n ∧ n ≤ xs.length) ∧ ∀ x, x ∈ xs → 0 ≤ x ∧ x ≤ 1000 := by
  simp only [hoursB, Bool.and_eq_true, decide_eq_true_eq, Bool.not_eq_true', List.any_eq_false]
  constructor
  · rintro ⟨⟨⟨h1, h2⟩, h3, h4⟩, h5⟩
    exact ⟨⟨by omega, by omega⟩, ⟨h3, h4⟩, fun x hx => by have := h5 x hx; simp at this; exact this⟩
  · rintro ⟨⟨h1, h2⟩, ⟨h3, h4⟩, h5⟩
    exact ⟨⟨⟨by omega, by omega⟩, h3, h4⟩, fun x hx => by have := h5 x hx; simp; exact this⟩

theorem numsB_iff (xs : List Int) : numsB xs = true ↔ (1 ≤ xs.length ∧ xs.length ≤ 48) ∧ ∀ x, x ∈ xs → 0 ≤ x ∧ x ≤ 1000 := by
  simp only [numsB, Bool.and_eq_true, decide_eq_true_eq, List.all_eq_true]
  constructor
  · rintro ⟨⟨h1, h2⟩, h5⟩
    exact ⟨⟨by omega, by omega⟩, h5⟩
  · rintro ⟨⟨h1, h2⟩, h5⟩
    exact ⟨⟨by omega, by omega⟩, h5⟩

theorem starts_eq (ys : List Int) (n : Int) : startsB ys n = startsS ys n := by
  rw [Bool.eq_iff_iff]
  unfold startsB startsS
  simp only [Bool.and_eq_true, hoursB_iff, numsB_iff, decide_eq_true_eq, Bool.not_eq_true', List.any_eq_false, zerosFrom, List.all_eq_true, List.mem_range, Bool.or_eq_true]
  constructor
  · rintro ⟨⟨h1, h2, h3⟩, h4⟩
    refine ⟨⟨⟨h1, h3⟩, h2⟩, fun j hj => ?_⟩
    by_cases hlt : j < ((ys.length : Int) - n + 1).toNat
    · exact .inl hlt
    · refine .inr ?_
      have hm : ys[j] ∈ ys.drop ((ys.length : Int) - n + 1).toNat := by
        rw [List.mem_iff_getElem]
        exact ⟨j - ((ys.length : Int) - n + 1).toNat, by simp; omega, by rw [List.getElem_drop]; congr 1; omega⟩
      have h5 := h4 _ hm
      have h6 := h3 ys[j] (by simp)
      have e : ys.getD j 0 = ys[j] := by simp [List.getD_eq_getElem?_getD, hj]
      rw [e]
      omega
  · rintro ⟨⟨⟨h1, h3⟩, h2⟩, h4⟩
    refine ⟨⟨h1, h2, h3⟩, fun x hx => ?_⟩
    rw [List.mem_iff_getElem] at hx
    obtain ⟨k, hk, rfl⟩ := hx
    rw [List.getElem_drop]
    have hk' : ((ys.length : Int) - n + 1).toNat + k < ys.length := by simp at hk; omega
    have := h4 _ hk'
    rw [show ys.getD (((ys.length : Int) - n + 1).toNat + k) 0 = ys[((ys.length : Int) - n + 1).toNat + k] by simp [List.getD_eq_getElem?_getD, hk']] at this
    rcases this with h | h
    · omega
    · omega

theorem staffed_eq (xs ys : List Int) (n : Int) : staffedB xs ys n = metB xs ys n := by
  unfold staffedB metB
  rw [starts_eq, Bool.eq_iff_iff]
  simp only [Bool.and_eq_true, hoursB_iff, numsB_iff, decide_eq_true_eq]
  constructor
  · rintro ⟨⟨⟨⟨h1, h2, h3⟩, h4⟩, h5⟩, h6⟩
    exact ⟨⟨⟨⟨h1, h3⟩, h4.symm⟩, h5⟩, h6⟩
  · rintro ⟨⟨⟨⟨h1, h3⟩, h4⟩, h5⟩, h6⟩
    refine ⟨⟨⟨⟨h1, ?_, h3⟩, h4.symm⟩, h5⟩, h6⟩
    unfold startsS at h5
    simp only [Bool.and_eq_true, decide_eq_true_eq] at h5
    omega

theorem law_isStaffed (xs ys : List Int) (n : Int) (hx : xs.length < 2 ^ 48) (hy : ys.length < 2 ^ 48) : Fn Try.prog 3 [.d (.sl (cI xs)), .d (.sl (cI ys)), I n] [] (B true) [] := by
  refine Fn.intro (ks := [0,1,2,6,7,8,9,10,11,17,34,39,44,53]) hty rfl rfl rfl rfl rfl ?_
  conv => whnf
  rw [cI_len, cI_len]
  refine Wr.fit (wrap_i64 (by omega) (by omega)) ?_
  conv => whnf
  refine Br.mk (fun h => ?_) (fun h => ?_)
  · conv => whnf
    exact ⟨rfl, trivial, rfl⟩
  · have h : (xs.length : Int) + ys.length ≤ 1000000 := by simpa using h
    conv => whnf
    refine VCall.of_data (fn_toId xs false (by omega)) (nd _) ?_
    conv => whnf
    refine VCall.of_data (fn_toId ys false (by omega)) (nd _) ?_
    conv => whnf
    refine VCall.of_data (fn_specIsStaffed xs ys n (by omega) (by omega)) (nd _) ?_
    conv => whnf
    refine VCall.of_fn (k := 25) (fn_toI xs false (.inl rfl) (by omega)) (namesIn_ls (by simp)) rfl ?_
    conv => whnf
    refine VCall.of_fn (k := 27) (fn_toI ys false (.inl rfl) (by omega)) (namesIn_ls (by simp)) rfl ?_
    conv => whnf
    have hw : ∀ xs : List Int, lend1 [(25, .row true 1 (cI (withRoom xs)))] (.ls 25 0 xs.length 1) (.d (.sl (cI xs))) := fun xs =>
      ⟨rfl, by simp [cI, withRoom], by simp [cI, withRoom]⟩
    refine VCall.lend (fn_IsStaffed xs ys n (by omega) (by omega)) ⟨hw xs, hw ys, rfl, trivial⟩ rfl ?_
    conv => whnf
    rw [staffed_eq]
    refine Br.mk (fun h => by simp at h) (fun _ => ?_)
    conv => whnf
    refine VCall.of_fn (k := 37) (fn_toI xs false (.inl rfl) (by omega)) (namesIn_ls (by simp)) rfl ?_
    conv => whnf
    refine VCall.par2 25 37 rfl (fn_intactI xs (by omega)) ⟨⟨rfl, rfl, rfl, rfl⟩, ⟨rfl, rfl, rfl, rfl⟩, trivial⟩ rfl rfl ?_
    conv => whnf
    refine VCall.of_fn (k := 42) (fn_toI ys false (.inl rfl) (by omega)) (namesIn_ls (by simp)) rfl ?_
    conv => whnf
    refine VCall.par2 27 42 rfl (fn_intactI ys (by omega)) ⟨⟨rfl, rfl, rfl, rfl⟩, ⟨rfl, rfl, rfl, rfl⟩, trivial⟩ rfl rfl ?_
    conv => whnf
    refine VCall.of_data (fn_toId xs true (by omega)) (nd _) ?_
    conv => whnf
    refine VCall.of_data (fn_toId ys true (by omega)) (nd _) ?_
    conv => whnf
    refine VCall.of_data (fn_IsStaffed xs ys n (by omega) (by omega)) (nd _) ?_
    conv => whnf
    rw [staffed_eq]
    refine Br.mk (fun h => by simp at h) (fun _ => ?_)
    conv => whnf
    exact ⟨rfl, trivial, rfl⟩
end Go.V
