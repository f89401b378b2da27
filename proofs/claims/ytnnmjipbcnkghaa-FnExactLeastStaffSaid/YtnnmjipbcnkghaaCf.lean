/- IdleHours. -/
import Derived.Test.YtnnmjipbcnkghaaCe
set_option linter.unusedVariables false
namespace Go.V
open Go.Proofs
set_option maxRecDepth 10000

def idleOf (xs ys : List Int) (n : Int) : Int := (staffs ys n).sum - xs.sum

theorem sum_le {xs : List Int} {m : Int} (h : ∀ x, x ∈ xs → 0 ≤ x ∧ x ≤ m) : 0 ≤ xs.sum ∧ xs.sum ≤ m * xs.length := by
  induction xs with
  | nil => simp
  | cons x r ih =>
    obtain ⟨h1, h2⟩ := ih fun y hy => h y (by simp [hy])
    obtain ⟨h3, h4⟩ := h x (by simp)
    simp only [List.sum_cons, List.length_cons]
    refine ⟨by omega, ?_⟩
    have : m * ((r.length + 1 : Nat) : Int) = m * r.length + m := by rw [Int.natCast_add, Int.mul_add]; simp
    omega

theorem staff_le {ys : List Int} {n : Int} (h : ∀ x, x ∈ ys → 0 ≤ x ∧ x ≤ 1000) (hl : ys.length ≤ 48) (k : Nat) : 0 ≤ staff ys n k ∧ staff ys n k ≤ 48000 := by
  unfold staff
  have h1 := sum_le (xs := (ys.take (k + 1)).drop (max ((k : Int) - n + 1) 0).toNat) (m := 1000) fun x hx => h x (List.mem_of_mem_take (List.mem_of_mem_drop hx))
  have h2 : ((ys.take (k + 1)).drop (max ((k : Int) - n + 1) 0).toNat).length ≤ 48 := by simp; omega
  omega

theorem staffs_mem {ys : List Int} {n : Int} (h : ∀ x, x ∈ ys → 0 ≤ x ∧ x ≤ 1000) (hl : ys.length ≤ 48) : ∀ x, x ∈ staffs ys n → 0 ≤ x ∧ x ≤ 48000 := by
  intro x hx
  obtain ⟨k, _, rfl⟩ := List.mem_map.1 hx
  exact staff_le h hl k

theorem metB_n {xs ys : List Int} {n : Int} (h : metB xs ys n = true) : xs.length = ys.length ∧ xs.length ≤ 48 ∧ (∀ x, x ∈ xs → 0 ≤ x ∧ x ≤ 1000) ∧ startsB ys n = true := by
  unfold metB at h
  simp only [Bool.and_eq_true, decide_eq_true_eq] at h
  obtain ⟨⟨⟨h1, h2⟩, h3⟩, _⟩ := h
  obtain ⟨h4, h5, h6⟩ := numsB_n h1
  exact ⟨h2.symm, h5, h6, by rw [starts_eq]; exact h3⟩

theorem fn_IdleHours0 (xs ys : List Int) (n : Int) (hl : xs.length ≤ 1000000) (hl' : ys.length ≤ 1000000) (h : metB xs ys n = false) : Fn Try.prog 18 [.d (.sl (cI xs)), .d (.sl (cI ys)), I n] [] (.tup [I 0, B false]) [] := by
  refine Fn.intro (ks := [0,1,2,6,7,12]) hty rfl rfl rfl rfl rfl ?_
  conv => whnf
  have c := fn_IsStaffed xs ys n hl hl'
  rw [staffed_eq, h] at c
  refine VCall.of_data c (nd _) ?_
  conv => whnf
  exact ⟨rfl, rfl, trivial, rfl⟩

theorem fn_IdleHours1 (xs ys : List Int) (n : Int) (hl : xs.length ≤ 1000000) (hl' : ys.length ≤ 1000000) (h : metB xs ys n = true) : Fn Try.prog 18 [.d (.sl (cI xs)), .d (.sl (cI ys)), I n] [] (.tup [I (idleOf xs ys n), B true]) [] := by
  refine Fn.intro (ks := [0,1,2,6,7,12]) hty rfl rfl rfl rfl rfl ?_
  conv => whnf
  have c := fn_IsStaffed xs ys n hl hl'
  rw [staffed_eq, h] at c
  obtain ⟨h1, h2, h3, h4⟩ := metB_n h
  obtain ⟨g1, g2, g3, g4, g5⟩ := startsB_n h4
  have g6 := staffs_mem (n := n) g5 g2
  have s1 := sum_le g6
  have s2 := sum_le h3
  rw [staffs_len] at s1
  refine VCall.of_data c (nd _) ?_
  conv => whnf
  have c2 := (fn_staffAt ys n (fun x hx => by have := g5 x hx; omega) hl' (by omega)).freeze (by simp [cI_len])
  rw [List.drop_zero, List.take_of_length_le (by simp [cI_len])] at c2
  change Fn _ _ _ _ (.d (.sl (cI (staffs ys n)))) _ at c2
  refine VCall.of_data c2 (nd _) ?_
  conv => whnf
  refine VCall.of_data (fn_total (staffs ys n) (fun x hx => by have := g6 x hx; omega) (by rw [staffs_len]; exact hl')) (nd _) ?_
  conv => whnf
  refine VCall.of_data (fn_total xs (fun x hx => by have := h3 x hx; omega) hl) (nd _) ?_
  conv => whnf
  refine Wr.fit (wrap_i64 (by omega) (by omega)) ?_
  conv => whnf
  exact ⟨rfl, rfl, trivial, rfl⟩

theorem fn_sIdleHours0 (xs ys : List Int) (n : Int) (hl : xs.length ≤ 1000000) (hl' : ys.length ≤ 1000000) (h : metB xs ys n = false) : Fn Try.prog 17 [.d (.sl (cI xs)), .d (.sl (cI ys)), I n] [] (.tup [I 0, B false]) [] := by
  refine Fn.intro (ks := [0,1,2,6,7,8,9,10,15,22]) hty rfl rfl rfl rfl rfl ?_
  conv => whnf
  have c := fn_l10Met xs ys n hl hl'
  rw [h] at c
  refine VCall.of_data c (nd _) ?_
  conv => whnf
  exact ⟨rfl, rfl, trivial, rfl⟩

theorem fn_sIdleHours1 (xs ys : List Int) (n : Int) (hl : xs.length ≤ 1000000) (hl' : ys.length ≤ 1000000) (h : metB xs ys n = true) : Fn Try.prog 17 [.d (.sl (cI xs)), .d (.sl (cI ys)), I n] [] (.tup [I (idleOf xs ys n), B true]) [] := by
  refine Fn.intro (ks := [0,1,2,6,7,8,9,10,15,22]) hty rfl rfl rfl rfl rfl ?_
  conv => whnf
  have c := fn_l10Met xs ys n hl hl'
  rw [h] at c
  obtain ⟨h1, h2, h3, h4⟩ := metB_n h
  obtain ⟨g1, g2, g3, g4, g5⟩ := startsB_n h4
  have g6 := staffs_mem (n := n) g5 g2
  refine VCall.of_data c (nd _) ?_
  conv => whnf
  have c2 := (fn_l10Staff ys n (fun x hx => by have := g5 x hx; omega) hl' (by omega)).freeze (by simp [cI_len])
  rw [List.drop_zero, List.take_of_length_le (by simp [cI_len])] at c2
  change Fn _ _ _ _ (.d (.sl (cI (staffs ys n)))) _ at c2
  refine VCall.of_data c2 (nd _) ?_
  conv => whnf
  have hlen := staffs_len ys n
  unfold idleOf
  generalize staffs ys n = zs at *
  have bound : ∀ k, k ≤ ys.length → (0 ≤ (zs.take k).sum ∧ (zs.take k).sum ≤ 48000 * 48) ∧ (0 ≤ (xs.take k).sum ∧ (xs.take k).sum ≤ 1000 * 48) := fun k hk => by
    have s1 := sum_le (xs := zs.take k) (m := 48000) fun x hx => g6 x (List.mem_of_mem_take hx)
    have s2 := sum_le (xs := xs.take k) (m := 1000) fun x hx => h3 x (List.mem_of_mem_take hx)
    simp only [List.length_take] at s1 s2
    omega
  refine VLoop.inv hty (S := Nat) (fun k => [(10, I k), (9, I ((zs.take k).sum - (xs.take k).sum)), (8, .d (.sl (cI zs))), (0, .d (.sl (cI xs)))]) (fun _ => []) (fun k => k ≤ ys.length) (fun k => ys.length - k) 0 (Nat.zero_le _) ⟨rfl, rfl, rfl, rfl, trivial⟩ trivial ?_
  intro k hk
  conv => whnf
  rw [cI_len]
  refine Br.mk (fun h => ?_) (fun h => ?_)
  · have hk' : k < ys.length := by simp at h; omega
    have hkz : k < zs.length := by omega
    have hkx : k < xs.length := by omega
    conv => whnf
    refine VDraw.go hmo hty 11 [] rfl ?_
    conv => whnf
    refine ⟨⟨⟨by omega, by rw [cI_len]; omega⟩, cI_sz _⟩, ?_⟩
    conv => whnf
    refine ⟨[.s (.int .i64 zs[k])], by simp [cI, hkz], ?_⟩
    conv => whnf
    refine ⟨⟨⟨by omega, by rw [cI_len]; omega⟩, cI_sz _⟩, ?_⟩
    conv => whnf
    refine ⟨[.s (.int .i64 xs[k])], by simp [cI, hkx], ?_⟩
    conv => whnf
    have b1 := bound k hk
    have b2 := bound (k + 1) hk'
    have e1 : (zs.take (k + 1)).sum = (zs.take k).sum + zs[k] := by rw [List.take_succ_eq_append_getElem hkz, List.sum_append]; simp
    have e2 : (xs.take (k + 1)).sum = (xs.take k).sum + xs[k] := by rw [List.take_succ_eq_append_getElem hkx, List.sum_append]; simp
    refine Wr.fit (wrap_i64 (by omega) (by omega)) ?_
    conv => whnf
    refine Wr.fit (wrap_i64 (by omega) (by omega)) ?_
    conv => whnf
    refine Wr.fit (wrap_i64 (by omega) (by omega)) ?_
    conv => whnf
    refine ⟨k + 1, hk', by omega, ⟨rfl, ?_, rfl, rfl, trivial⟩, trivial⟩
    exact congrArg I (by omega)
  · have hk' : k = ys.length := by simp at h; omega
    subst hk'
    conv => whnf
    refine ⟨?_, rfl, trivial, rfl⟩
    rw [List.take_of_length_le (by omega), List.take_of_length_le (by omega)]

theorem law_idleHours (xs ys : List Int) (n : Int) (hx : xs.length < 2 ^ 48) (hy : ys.length < 2 ^ 48) : Fn Try.prog 5 [.d (.sl (cI xs)), .d (.sl (cI ys)), I n] [] (B true) [] := by
  refine Fn.intro (ks := [0,1,2,6,7,8,9,10,11,12,13,14,20,48,53,58,75]) hty rfl rfl rfl rfl rfl ?_
  conv => whnf
  rw [cI_len, cI_len]
  refine Wr.fit (wrap_i64 (by omega) (by omega)) ?_
  conv => whnf
  refine Br.mk (fun h => ?_) (fun h => ?_)
  · conv => whnf
    exact ⟨rfl, trivial, rfl⟩
  · have h : (xs.length : Int) + ys.length ≤ 1000000 := by simpa using h
    have hl : xs.length ≤ 1000000 := by omega
    have hl' : ys.length ≤ 1000000 := by omega
    obtain ⟨v, b, c1, c2⟩ : ∃ v b, Fn Try.prog 17 [.d (.sl (cI xs)), .d (.sl (cI ys)), I n] [] (.tup [I v, B b]) [] ∧ Fn Try.prog 18 [.d (.sl (cI xs)), .d (.sl (cI ys)), I n] [] (.tup [I v, B b]) [] := by
      cases hb : metB xs ys n
      · exact ⟨_, _, fn_sIdleHours0 xs ys n hl hl' hb, fn_IdleHours0 xs ys n hl hl' hb⟩
      · exact ⟨_, _, fn_sIdleHours1 xs ys n hl hl' hb, fn_IdleHours1 xs ys n hl hl' hb⟩
    conv => whnf
    refine VCall.of_data (fn_toId xs false hl) (nd _) ?_
    conv => whnf
    refine VCall.of_data (fn_toId ys false hl') (nd _) ?_
    conv => whnf
    refine VCall.of_data c1 (ndT fun _ => rfl) ?_
    conv => whnf
    refine VCall.of_ls (k := 31) (fn_toI xs false (.inl rfl) hl) rfl ?_
    conv => whnf
    refine VCall.of_ls (k := 33) (fn_toI ys false (.inl rfl) hl') rfl ?_
    conv => whnf
    refine VCall.lend c2 ⟨lend_whole rfl, lend_whole rfl, rfl, trivial⟩ rfl ?_
    conv => whnf
    rw [decide_eq_true rfl]
    conv => whnf
    refine Br.mk (fun h => by simp at h) (fun _ => ?_)
    conv => whnf
    refine VCall.of_ls (k := 51) (fn_toI xs false (.inl rfl) hl) rfl ?_
    conv => whnf
    refine VCall.par2 31 51 rfl (fn_intactI xs hl) ⟨⟨rfl, rfl, rfl, rfl⟩, ⟨rfl, rfl, rfl, rfl⟩, trivial⟩ rfl rfl ?_
    conv => whnf
    refine VCall.of_ls (k := 56) (fn_toI ys false (.inl rfl) hl') rfl ?_
    conv => whnf
    refine VCall.par2 33 56 rfl (fn_intactI ys hl') ⟨⟨rfl, rfl, rfl, rfl⟩, ⟨rfl, rfl, rfl, rfl⟩, trivial⟩ rfl rfl ?_
    conv => whnf
    refine VCall.of_data (fn_toId xs true hl) (nd _) ?_
    conv => whnf
    refine VCall.of_data (fn_toId ys true hl') (nd _) ?_
    conv => whnf
    refine VCall.of_data c2 (ndT fun _ => rfl) ?_
    conv => whnf
    rw [decide_eq_true rfl]
    conv => whnf
    refine Br.mk (fun h => by simp at h) (fun _ => ?_)
    conv => whnf
    exact ⟨rfl, trivial, rfl⟩

end Go.V
