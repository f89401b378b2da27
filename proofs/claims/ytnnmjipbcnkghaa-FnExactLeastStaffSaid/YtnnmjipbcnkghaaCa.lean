/- The types' facts of this seat, short words. -/
import Derived.Test.YtnnmjipbcnkghaaV5
import Derived.KernelRfl
import Derived.Test.YtnnmjipbcnkghaaProg
set_option linter.unusedVariables false
namespace Go.V
open Go.Proofs
set_option maxRecDepth 10000
def tyTab : List (Nat × Ty) := [
  (2, ⟨1, false, [(.int .i64 0)], [], 0, 0, [], (some .i64), 2⟩),
  (3, ⟨1, false, [(.int .i64 0)], [], 0, 0, [], (some .i64), 2⟩),
  (4, ⟨1, false, [(.bool false)], [], 0, 0, [], none, 1⟩),
  (5, ⟨1, false, [(.int .u8 0)], [], 0, 0, [], (some .u8), 2⟩),
  (9, ⟨1, false, [(.string .empty)], [], 0, 0, [], none, 3⟩),
  (22, ⟨1, false, [(.slice none 0 0)], [], 1, 8, [(.int .i64 0)], none, 4⟩),
  (32, ⟨1, false, [(.slice none 0 0)], [], 1, 24, [(.slice none 0 0)], none, 4⟩),
  (34, ⟨1, true, [(.slice none 0 0)], [(0, 1, false)], 0, 0, [], none, 5⟩),
  (35, ⟨1, false, [(.slice none 0 0)], [], 3, 24, [(.int .i64 0), (.int .i64 0), (.int .i64 0)], none, 4⟩),
  (37, ⟨2, true, [(.slice none 0 0), (.slice none 0 0)], [(0, 1, true), (1, 1, false)], 0, 0, [], none, 5⟩),
  (47, ⟨1, false, [(.slice none 0 0)], [], 1, 16, [(.string .empty)], none, 4⟩),
  (55, ⟨1, false, [.nilFunc], [], 0, 0, [], none, 8⟩),
  (60, ⟨3, true, [(.int .i64 0), (.int .i64 0), (.int .i64 0)], [(0, 1, false), (1, 1, false), (2, 1, false)], 0, 0, [], none, 5⟩),
  (66, ⟨1, false, [(.slice none 0 0)], [], 1, 1, [(.int .u8 0)], none, 4⟩)]

abbrev ty (i : TypeId) : Ty := tyGet i tyTab
theorem tabOk : TabOk Try.prog tyTab := ⟨by kernel_rfl, by kernel_rfl, by kernel_rfl, by kernel_rfl, by kernel_rfl, by kernel_rfl, by kernel_rfl, by kernel_rfl, by kernel_rfl, by kernel_rfl, by kernel_rfl, by kernel_rfl, by kernel_rfl, by kernel_rfl, trivial⟩

theorem hty : TyOk Try.prog ty := tyOk_tab tabOk

theorem hmo : Try.prog.follows .mixedOrders = true := by kernel_rfl

abbrev I (n : Int) : AV := .d (.s (.int .i64 n))
abbrev B (b : Bool) : AV := .d (.s (.bool b))

def cI (xs : List Int) : List (List C) := xs.map fun n => [.s (.int .i64 n)]
theorem cI_len (xs : List Int) : (cI xs).length = xs.length := by simp [cI]
theorem cI_sz (xs : List Int) : ∀ r, r ∈ cI xs → r.length = 1 := by
  intro r hr; simp only [cI, List.mem_map] at hr; obtain ⟨n, _, rfl⟩ := hr; rfl

theorem namesIn_ls {j lo n sz : Nat} {o : Ob} {r : LL} (h : o ≠ .no) : namesIn ((j, o) :: r) (.ls j lo n sz) := fun i hi => by
  have : i = j := (Nat.eq_of_beq_eq_true hi).symm
  rw [lget_cons, if_pos this]; exact h

end Go.V
