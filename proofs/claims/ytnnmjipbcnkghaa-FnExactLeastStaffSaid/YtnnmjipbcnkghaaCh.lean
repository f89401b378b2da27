/- The law of LeastStaff. -/
import Derived.Test.YtnnmjipbcnkghaaCg
set_option linter.unusedVariables false
namespace Go.V
open Go.Proofs
set_option maxRecDepth 10000

theorem law_leastStaff (xs : List Int) (n : Int) (hx : xs.length < 2 ^ 48) : Fn Try.prog 7 [.d (.sl (cI xs)), I n] [] (B true) [] := by
  refine Fn.intro (ks := [0,1,4,5,6,7,8,9,10,11,12,13,14,15,16,17,20,51,56,77,85,88,110,115,118]) hty rfl rfl rfl rfl rfl ?_
  conv => whnf
  rw [cI_len]
  refine Br.mk (fun h => ?_) (fun h => ?_)
  · conv => whnf
    exact ⟨rfl, trivial, rfl⟩
  · have h : (xs.length : Int) ≤ 1000000 := by simpa using h
    have hl : xs.length ≤ 1000000 := by omega
    conv => whnf
    refine VCall.of_data (fn_toId xs false hl) (nd _) ?_
    conv => whnf
    cases hb : goodL xs n
    · refine VCall.of_data ((fn_sLeastStaff xs n hl).2 hb) (ndT fun _ => rfl) ?_
      conv => whnf
      refine VCall.of_ls (k := 30) (fn_toI xs false (.inl rfl) hl) rfl ?_
      conv => whnf
      refine VCall.lend (fn_LeastStaff0 xs n hl hb) ⟨lend_whole rfl, rfl, trivial⟩ rfl ?_
      conv => whnf
      refine VCall.of_data (fn_eqT [] (by simp)) (nd _) ?_
      conv => whnf
      refine VCall.of_ls (k := 54) (fn_toI xs false (.inl rfl) hl) rfl ?_
      conv => whnf
      refine VCall.par2 30 54 rfl (fn_intactI xs hl) ⟨⟨rfl, rfl, rfl, rfl⟩, ⟨rfl, rfl, rfl, rfl⟩, trivial⟩ rfl rfl ?_
      conv => whnf
      refine VCall.par1 30 (fn_markI (withRoom xs) xs.length 101 (by simp [withRoom]) hl (by omega)) ⟨⟨rfl, rfl, rfl, rfl⟩, rfl, trivial⟩ rfl ?_
      conv => whnf
      refine VCall.of_data (fn_eqT [] (by simp)) (nd _) ?_
      conv => whnf
      refine VCall.of_data (fn_markI0 101) (nd _) ?_
      conv => whnf
      refine VCall.of_data (fn_heldI 0 101 (by omega) (by omega)) (nd _) ?_
      conv => whnf
      refine VCall.of_data (fn_toId xs true hl) (nd _) ?_
      conv => whnf
      refine VCall.of_data (fn_LeastStaff0 xs n hl hb) (ndT fun _ => rfl) ?_
      conv => whnf
      refine VCall.of_data (fn_eqT [] (by simp)) (nd _) ?_
      conv => whnf
      refine VCall.of_data (fn_heldI 0 101 (by omega) (by omega)) (nd _) ?_
      conv => whnf
      exact ⟨rfl, trivial, rfl⟩
    · have hsl := least_len (xs := xs) (n := n) xs.length
      have c0 := (fn_sLeastStaff xs n hl).1 hb
      have c4 := fn_LeastStaff1 xs n hb
      generalize (least' xs n xs.length).sum = z at c0 c4
      generalize least' xs n xs.length = ys at c0 c4 hsl
      have c1 := c0.freezeT (by simp [cI_len, hsl]) rfl
      rw [List.drop_zero, List.take_of_length_le (by simp [cI_len, hsl])] at c1
      have c2 := c4.freezeT (by simp [cI_len, hsl]) rfl
      rw [List.drop_zero, List.take_of_length_le (by simp [cI_len, hsl])] at c2
      have c3 := fn_eqT ys (by omega)
      rw [← hsl] at c4
      refine VCall.of_data c1 (ndT fun _ => rfl) ?_
      conv => whnf
      refine VCall.of_ls (k := 30) (fn_toI xs false (.inl rfl) hl) rfl ?_
      conv => whnf
      refine VCall.lendT (k := 34) c4 ⟨lend_whole rfl, rfl, trivial⟩ (cI_flat _) rfl rfl ?_
      conv => whnf
      refine VCall.lend c3 ⟨lend_all rfl, rfl, trivial⟩ rfl ?_
      conv => whnf
      rw [decide_eq_true rfl]
      conv => whnf
      refine VCall.of_ls (k := 54) (fn_toI xs false (.inl rfl) hl) rfl ?_
      conv => whnf
      refine VCall.par2 30 54 rfl (fn_intactI xs hl) ⟨⟨rfl, rfl, rfl, rfl⟩, ⟨rfl, rfl, rfl, rfl⟩, trivial⟩ rfl rfl ?_
      conv => whnf
      refine VCall.par1 30 (fn_markI (withRoom xs) xs.length 101 (by simp [withRoom]) hl (by omega)) ⟨⟨rfl, rfl, rfl, rfl⟩, rfl, trivial⟩ rfl ?_
      conv => whnf
      refine VCall.lend c3 ⟨lend_all rfl, rfl, trivial⟩ rfl ?_
      conv => whnf
      rw [decide_eq_true rfl]
      conv => whnf
      refine VCall.par1 34 (fn_markI ys ys.length 101 (Nat.le_refl _) (by omega) (by omega)) ⟨⟨rfl, rfl, rfl, rfl⟩, rfl, trivial⟩ rfl ?_
      conv => whnf
      have hm : ∀ l : LL, lget 34 l = .row true 1 (cI (marks 101 ys.length ++ List.drop ys.length ys)) → lend1 l (.ls 34 0 ys.length 1) (.d (.sl (cI (marks 101 ys.length)))) := fun l h => by
        have := lend_whole (xs := marks 101 ys.length) h
        rwa [marks_len] at this
      refine VCall.lend (fn_heldI ys.length 101 (by omega) (by omega)) ⟨hm _ rfl, rfl, trivial⟩ rfl ?_
      conv => whnf
      refine Br.mk (fun h => by simp at h) (fun _ => ?_)
      conv => whnf
      refine VCall.of_data (fn_toId xs true hl) (nd _) ?_
      conv => whnf
      refine VCall.of_data c2 (ndT fun _ => rfl) ?_
      conv => whnf
      refine VCall.of_data c3 (nd _) ?_
      conv => whnf
      rw [decide_eq_true rfl]
      conv => whnf
      refine VCall.lend (fn_heldI ys.length 101 (by omega) (by omega)) ⟨hm _ rfl, rfl, trivial⟩ rfl ?_
      conv => whnf
      refine Br.mk (fun h => by simp at h) (fun _ => ?_)
      conv => whnf
      exact ⟨rfl, trivial, rfl⟩

end Go.V
