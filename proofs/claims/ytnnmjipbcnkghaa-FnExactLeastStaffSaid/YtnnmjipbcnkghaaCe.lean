/- StaffAt. -/
import Derived.Test.YtnnmjipbcnkghaaCd
set_option linter.unusedVariables false
namespace Go.V
open Go.Proofs
set_option maxRecDepth 10000

/-- All hours' staff. -/
def staffs (xs : List Int) (n : Int) : List Int := (List.range xs.length).map (staff xs n)
theorem staffs_len (xs : List Int) (n : Int) : (staffs xs n).length = xs.length := by simp [staffs]

theorem cI_flat (xs : List Int) : ∀ q, q ∈ cI xs → ∀ c, c ∈ q → flatC c = true := by
  intro q hq c hc
  obtain ⟨n, _, rfl⟩ := List.mem_map.1 hq
  simp at hc; subst hc; rfl

theorem startsB_n {xs : List Int} {n : Int} (h : startsB xs n = true) : 1 ≤ xs.length ∧ xs.length ≤ 48 ∧ 1 ≤ n ∧ n ≤ xs.length ∧ ∀ x, x ∈ xs → 0 ≤ x ∧ x ≤ 1000 := by
  unfold startsB at h
  simp only [Bool.and_eq_true] at h
  exact hoursB_n h.1

theorem fn_StaffAt0 (xs : List Int) (n : Int) (hl : xs.length ≤ 1000000) (h : startsB xs n = false) : Fn Try.prog 13 [.d (.sl (cI xs)), I n] [] (.tup [.d (.sl []), B false]) [] := by
  refine Fn.intro (ks := [0,1,4,5,9]) hty rfl rfl rfl rfl rfl ?_
  conv => whnf
  have c := fn_startsOk xs n hl
  rw [h] at c
  refine VCall.of_data c (nd _) ?_
  conv => whnf
  exact ⟨rfl, trivial, rfl⟩

theorem fn_StaffAt1 (xs : List Int) (n : Int) (hl : xs.length ≤ 1000000) (h : startsB xs n = true) : Fn Try.prog 13 [.d (.sl (cI xs)), I n] [] (.tup [.ls 0 0 xs.length 1, B true]) [(0, .row true 1 (cI (staffs xs n)))] := by
  refine Fn.intro (ks := [0,1,4,5,9]) hty rfl rfl rfl rfl rfl ?_
  conv => whnf
  have c := fn_startsOk xs n hl
  rw [h] at c
  obtain ⟨h1, h2, h3, h4, h5⟩ := startsB_n h
  refine VCall.of_data c (nd _) ?_
  conv => whnf
  refine VCall.of_fn (k := 12) (fn_staffAt xs n (fun x hx => by have := h5 x hx; omega) hl (by omega)) (namesIn_ls (by simp)) rfl ?_
  conv => whnf
  exact ⟨⟨rfl, rfl, rfl, rfl, rfl, rfl⟩, [], rfl, rfl, trivial, rfl⟩

theorem fn_sStaffAt0 (xs : List Int) (n : Int) (hl : xs.length ≤ 1000000) (h : startsB xs n = false) : Fn Try.prog 12 [.d (.sl (cI xs)), I n] [] (.tup [.d (.sl []), B false]) [] := by
  refine Fn.intro (ks := [0,1,4,5,9]) hty rfl rfl rfl rfl rfl ?_
  conv => whnf
  have c := fn_l10Starts xs n hl
  rw [← starts_eq, h] at c
  refine VCall.of_data c (nd _) ?_
  conv => whnf
  exact ⟨rfl, trivial, rfl⟩

theorem fn_sStaffAt1 (xs : List Int) (n : Int) (hl : xs.length ≤ 1000000) (h : startsB xs n = true) : Fn Try.prog 12 [.d (.sl (cI xs)), I n] [] (.tup [.ls 0 0 xs.length 1, B true]) [(0, .row true 1 (cI (staffs xs n)))] := by
  refine Fn.intro (ks := [0,1,4,5,9]) hty rfl rfl rfl rfl rfl ?_
  conv => whnf
  have c := fn_l10Starts xs n hl
  rw [← starts_eq, h] at c
  obtain ⟨h1, h2, h3, h4, h5⟩ := startsB_n h
  refine VCall.of_data c (nd _) ?_
  conv => whnf
  refine VCall.of_fn (k := 12) (fn_l10Staff xs n (fun x hx => by have := h5 x hx; omega) hl (by omega)) (namesIn_ls (by simp)) rfl ?_
  conv => whnf
  exact ⟨⟨rfl, rfl, rfl, rfl, rfl, rfl⟩, [], rfl, rfl, trivial, rfl⟩

theorem fn_markI0 (k0 : Int) : Fn Try.prog 15 [.d (.sl []), I k0] [] (I k0) [] := by
  refine Fn.intro (ks := [0,1,4,5,9]) hty rfl rfl rfl rfl rfl ?_
  conv => whnf
  refine VLoop.inv hty (S := Nat) (fun _ => [(5, I 0), (1, I k0), (0, .d (.sl []))]) (fun _ => []) (fun _ => True) (fun _ => 0) 0 trivial ⟨rfl, rfl, rfl, trivial⟩ trivial ?_
  intro k _
  conv => whnf
  exact ⟨rfl, trivial, rfl⟩

theorem fn_eqT (xs : List Int) (hl : xs.length ≤ 3000000) : Fn Try.prog 14 [.d (.sl (cI xs)), .d (.sl (cI xs))] [] (B true) [] := by
  have := fn_eqI xs xs hl hl
  rwa [decide_eq_true rfl] at this

theorem lend_whole {id : Nat} {l : LL} {xs ys : List Int} (h : lget id l = .row true 1 (cI (xs ++ ys))) : lend1 l (.ls id 0 xs.length 1) (.d (.sl (cI xs))) := by
  unfold lend1
  simp only [h]
  exact ⟨trivial, by simp [cI], by simp [cI]⟩

theorem lend_all {id : Nat} {l : LL} {xs : List Int} (h : lget id l = .row true 1 (cI xs)) : lend1 l (.ls id 0 xs.length 1) (.d (.sl (cI xs))) := by
  have : xs = xs ++ [] := by simp
  rw [this] at h
  exact lend_whole h

theorem law_staffAt (xs : List Int) (n : Int) (hx : xs.length < 2 ^ 48) : Fn Try.prog 4 [.d (.sl (cI xs)), I n] [] (B true) [] := by
  refine Fn.intro (ks := [0,1,4,5,6,7,8,9,10,11,12,13,14,17,41,46,62,70,73,89,94,97]) hty rfl rfl rfl rfl rfl ?_
  conv => whnf
  rw [cI_len]
  refine Br.mk (fun h => ?_) (fun h => ?_)
  · conv => whnf
    exact ⟨rfl, trivial, rfl⟩
  · have h : (xs.length : Int) ≤ 1000000 := by simpa using h
    have hl : xs.length ≤ 1000000 := by omega
    conv => whnf
    refine VCall.of_data (fn_toId xs false hl) (nd _) ?_
    conv => whnf
    cases hb : startsB xs n
    · refine VCall.of_data (fn_sStaffAt0 xs n hl hb) (ndT fun _ => rfl) ?_
      conv => whnf
      refine VCall.of_ls (k := 26) (fn_toI xs false (.inl rfl) hl) rfl ?_
      conv => whnf
      refine VCall.lend (fn_StaffAt0 xs n hl hb) ⟨lend_whole rfl, rfl, trivial⟩ rfl ?_
      conv => whnf
      refine VCall.of_data (fn_eqT [] (by simp)) (nd _) ?_
      conv => whnf
      refine VCall.of_ls (k := 44) (fn_toI xs false (.inl rfl) hl) rfl ?_
      conv => whnf
      refine VCall.par2 26 44 rfl (fn_intactI xs hl) ⟨⟨rfl, rfl, rfl, rfl⟩, ⟨rfl, rfl, rfl, rfl⟩, trivial⟩ rfl rfl ?_
      conv => whnf
      refine VCall.par1 26 (fn_markI (withRoom xs) xs.length 101 (by simp [withRoom]) hl (by omega)) ⟨⟨rfl, rfl, rfl, rfl⟩, rfl, trivial⟩ rfl ?_
      conv => whnf
      refine VCall.of_data (fn_eqT [] (by simp)) (nd _) ?_
      conv => whnf
      refine VCall.of_data (fn_markI0 101) (nd _) ?_
      conv => whnf
      refine VCall.of_data (fn_heldI 0 101 (by omega) (by omega)) (nd _) ?_
      conv => whnf
      refine VCall.of_data (fn_toId xs true hl) (nd _) ?_
      conv => whnf
      refine VCall.of_data (fn_StaffAt0 xs n hl hb) (ndT fun _ => rfl) ?_
      conv => whnf
      refine VCall.of_data (fn_eqT [] (by simp)) (nd _) ?_
      conv => whnf
      refine VCall.of_data (fn_heldI 0 101 (by omega) (by omega)) (nd _) ?_
      conv => whnf
      exact ⟨rfl, trivial, rfl⟩
    · have c1 := (fn_sStaffAt1 xs n hl hb).freezeT (by simp [cI_len, staffs_len]) rfl
      rw [show (List.drop 0 (cI (staffs xs n))).take xs.length = cI (staffs xs n) by rw [List.drop_zero, List.take_of_length_le (by simp [cI_len, staffs_len])]] at c1
      have c2 := (fn_StaffAt1 xs n hl hb).freezeT (by simp [cI_len, staffs_len]) rfl
      rw [show (List.drop 0 (cI (staffs xs n))).take xs.length = cI (staffs xs n) by rw [List.drop_zero, List.take_of_length_le (by simp [cI_len, staffs_len])]] at c2
      have hsl := staffs_len xs n
      have c3 := fn_eqT (staffs xs n) (by omega)
      have c4 := fn_StaffAt1 xs n hl hb
      generalize staffs xs n = ys at c1 c2 c3 c4 hsl
      rw [← hsl] at c4
      refine VCall.of_data c1 (ndT fun _ => rfl) ?_
      conv => whnf
      refine VCall.of_ls (k := 26) (fn_toI xs false (.inl rfl) hl) rfl ?_
      conv => whnf
      refine VCall.lendT (k := 30) c4 ⟨lend_whole rfl, rfl, trivial⟩ (cI_flat _) rfl rfl ?_
      conv => whnf
      refine VCall.lend c3 ⟨lend_all rfl, rfl, trivial⟩ rfl ?_
      conv => whnf
      refine VCall.of_ls (k := 44) (fn_toI xs false (.inl rfl) hl) rfl ?_
      conv => whnf
      refine VCall.par2 26 44 rfl (fn_intactI xs hl) ⟨⟨rfl, rfl, rfl, rfl⟩, ⟨rfl, rfl, rfl, rfl⟩, trivial⟩ rfl rfl ?_
      conv => whnf
      refine VCall.par1 26 (fn_markI (withRoom xs) xs.length 101 (by simp [withRoom]) hl (by omega)) ⟨⟨rfl, rfl, rfl, rfl⟩, rfl, trivial⟩ rfl ?_
      conv => whnf
      refine VCall.lend c3 ⟨lend_all rfl, rfl, trivial⟩ rfl ?_
      conv => whnf
      refine VCall.par1 30 (fn_markI ys ys.length 101 (Nat.le_refl _) (by omega) (by omega)) ⟨⟨rfl, rfl, rfl, rfl⟩, rfl, trivial⟩ rfl ?_
      conv => whnf
      have hm : ∀ l : LL, lget 30 l = .row true 1 (cI (marks 101 ys.length ++ List.drop ys.length ys)) → lend1 l (.ls 30 0 ys.length 1) (.d (.sl (cI (marks 101 ys.length)))) := fun l h => by
        have := lend_whole (xs := marks 101 ys.length) h
        rwa [marks_len] at this
      refine VCall.lend (fn_heldI ys.length 101 (by omega) (by omega)) ⟨hm _ rfl, rfl, trivial⟩ rfl ?_
      conv => whnf
      refine Br.mk (fun h => by simp at h) (fun _ => ?_)
      conv => whnf
      refine VCall.of_data (fn_toId xs true hl) (nd _) ?_
      conv => whnf
      refine VCall.of_data c2 (ndT fun _ => rfl) ?_
      conv => whnf
      refine VCall.of_data c3 (nd _) ?_
      conv => whnf
      refine VCall.lend (fn_heldI ys.length 101 (by omega) (by omega)) ⟨hm _ rfl, rfl, trivial⟩ rfl ?_
      conv => whnf
      refine Br.mk (fun h => by simp at h) (fun _ => ?_)
      conv => whnf
      exact ⟨rfl, trivial, rfl⟩

end Go.V
