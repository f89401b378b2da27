/-
  No cell of these rows narrows 'for every input' (looked for: loops, veiled, ifaces, maps, wideKeys, modest, calm, conditions, laid).
  DERIVED. THE GIVEN ROWS OF THIS SEAT. 5 by the template 'for every input the law returns true; each argument reads behind the call as it read before'; 0 by the template 'total and deterministic' (their statements: YtnnmjipbcnkghaaTotals.lean).
  GIVEN WITH THE SEED: the statements are not yours to turn. If you find one false, say at which input.
  Laid BY PROGRAM, IN A SANDBOX (cutbox-rows.mjs): the forced cells as the released guide's own fill.sh prints them over the translation ce643adb1423d853… (all of the seat's roots in one cut). By AI agents, Wed Nov 11 2026. No macro, syntax, notation, axiom, sorry.
-/
import Derived.Test.YtnnmjipbcnkghaaChecked
import GoSem.Claim
import GoSem.ClaimJoined
import GoSem.ClaimMapViews
import Derived.JoinedTies
import Derived.KernelRfl
namespace Go.Proofs.Ytnnmjipbcnkghaa
/- THE CELL 'sum', in the pinned program and in every row, IS THE sha256 OF THE DUMP (.gsa) THAT YtnnmjipbcnkghaaProg.lean LOADS. Nothing in Lean hashes anything: it is a label: what it is worth is what the hold of that sum in a sandbox is worth. -/
noncomputable def Try.pinned : Pinned := { name := "ytnnmjipbcnkghaa", sum := "ce643adb1423d85349e099fbb1c433df9f4c253d083171489ffb6277bee88476", checked := Try.checked }
namespace Rows
def none {H : Type} : Left H := { results := [], args := [] }

/-- 'laws.FnExactIsStaffed': WHATEVER THE INPUT: true; the input reads as it did. -/
def fnExactIsStaffedSpec : ChangeSpec := { name := "fnExactIsStaffed", fn := fun _ => fun
  | [d1, d2, d3] => { results := [.lit (.bool true)], args := [d1, d2, d3] }
  | _ => none }
def fnExactIsStaffedRow : OpenClaim := { program := "ytnnmjipbcnkghaa", sum := "ce643adb1423d85349e099fbb1c433df9f4c253d083171489ffb6277bee88476", func := "loop.example/g01211/laws.FnExactIsStaffed", spec := "fnExactIsStaffed", unfollowed := true, recurses := true, apart := false }
def FnExactIsStaffedSaid : Prop := fnExactIsStaffedRow.holds Try.pinned (OpenSpec.ofChange fnExactIsStaffedSpec)

/-- ITS FALSE NEIGHBOUR: 'it returns false'. Refute it at one input. -/
def fnExactIsStaffedWrong : ChangeSpec := { name := "fnExactIsStaffed", fn := fun _ => fun
  | [d1, d2, d3] => { results := [.lit (.bool false)], args := [d1, d2, d3] }
  | _ => none }
def FnExactIsStaffedWrongFalsely : Prop := fnExactIsStaffedRow.holds Try.pinned (OpenSpec.ofChange fnExactIsStaffedWrong)

/-- 'laws.FnExactStaffAt': WHATEVER THE INPUT: true; the input reads as it did. -/
def fnExactStaffAtSpec : ChangeSpec := { name := "fnExactStaffAt", fn := fun _ => fun
  | [d1, d2] => { results := [.lit (.bool true)], args := [d1, d2] }
  | _ => none }
def fnExactStaffAtRow : OpenClaim := { program := "ytnnmjipbcnkghaa", sum := "ce643adb1423d85349e099fbb1c433df9f4c253d083171489ffb6277bee88476", func := "loop.example/g01211/laws.FnExactStaffAt", spec := "fnExactStaffAt", unfollowed := true, recurses := true, apart := false }
def FnExactStaffAtSaid : Prop := fnExactStaffAtRow.holds Try.pinned (OpenSpec.ofChange fnExactStaffAtSpec)

/-- ITS FALSE NEIGHBOUR: 'it returns false'. Refute it at one input. -/
def fnExactStaffAtWrong : ChangeSpec := { name := "fnExactStaffAt", fn := fun _ => fun
  | [d1, d2] => { results := [.lit (.bool false)], args := [d1, d2] }
  | _ => none }
def FnExactStaffAtWrongFalsely : Prop := fnExactStaffAtRow.holds Try.pinned (OpenSpec.ofChange fnExactStaffAtWrong)

/-- 'laws.FnExactIdleHours': WHATEVER THE INPUT: true; the input reads as it did. -/
def fnExactIdleHoursSpec : ChangeSpec := { name := "fnExactIdleHours", fn := fun _ => fun
  | [d1, d2, d3] => { results := [.lit (.bool true)], args := [d1, d2, d3] }
  | _ => none }
def fnExactIdleHoursRow : OpenClaim := { program := "ytnnmjipbcnkghaa", sum := "ce643adb1423d85349e099fbb1c433df9f4c253d083171489ffb6277bee88476", func := "loop.example/g01211/laws.FnExactIdleHours", spec := "fnExactIdleHours", unfollowed := true, recurses := true, apart := false }
def FnExactIdleHoursSaid : Prop := fnExactIdleHoursRow.holds Try.pinned (OpenSpec.ofChange fnExactIdleHoursSpec)

/-- ITS FALSE NEIGHBOUR: 'it returns false'. Refute it at one input. -/
def fnExactIdleHoursWrong : ChangeSpec := { name := "fnExactIdleHours", fn := fun _ => fun
  | [d1, d2, d3] => { results := [.lit (.bool false)], args := [d1, d2, d3] }
  | _ => none }
def FnExactIdleHoursWrongFalsely : Prop := fnExactIdleHoursRow.holds Try.pinned (OpenSpec.ofChange fnExactIdleHoursWrong)

/-- 'laws.FnExactNewDesk': WHATEVER THE INPUT: true; the input reads as it did. -/
def fnExactNewDeskSpec : ChangeSpec := { name := "fnExactNewDesk", fn := fun _ => fun
  | [] => { results := [.lit (.bool true)], args := [] }
  | _ => none }
def fnExactNewDeskRow : OpenClaim := { program := "ytnnmjipbcnkghaa", sum := "ce643adb1423d85349e099fbb1c433df9f4c253d083171489ffb6277bee88476", func := "loop.example/g01211/laws.FnExactNewDesk", spec := "fnExactNewDesk", apart := false }
def FnExactNewDeskSaid : Prop := fnExactNewDeskRow.holds Try.pinned (OpenSpec.ofChange fnExactNewDeskSpec)

/-- ITS FALSE NEIGHBOUR: 'it returns false'. Refute it at one input. -/
def fnExactNewDeskWrong : ChangeSpec := { name := "fnExactNewDesk", fn := fun _ => fun
  | [] => { results := [.lit (.bool false)], args := [] }
  | _ => none }
def FnExactNewDeskWrongFalsely : Prop := fnExactNewDeskRow.holds Try.pinned (OpenSpec.ofChange fnExactNewDeskWrong)

/-- 'laws.FnExactLeastStaff': WHATEVER THE INPUT: true; the input reads as it did. -/
def fnExactLeastStaffSpec : ChangeSpec := { name := "fnExactLeastStaff", fn := fun _ => fun
  | [d1, d2] => { results := [.lit (.bool true)], args := [d1, d2] }
  | _ => none }
def fnExactLeastStaffRow : OpenClaim := { program := "ytnnmjipbcnkghaa", sum := "ce643adb1423d85349e099fbb1c433df9f4c253d083171489ffb6277bee88476", func := "loop.example/g01211/laws.FnExactLeastStaff", spec := "fnExactLeastStaff", unfollowed := true, recurses := true, apart := false }
def FnExactLeastStaffSaid : Prop := fnExactLeastStaffRow.holds Try.pinned (OpenSpec.ofChange fnExactLeastStaffSpec)

/-- ITS FALSE NEIGHBOUR: 'it returns false'. Refute it at one input. -/
def fnExactLeastStaffWrong : ChangeSpec := { name := "fnExactLeastStaff", fn := fun _ => fun
  | [d1, d2] => { results := [.lit (.bool false)], args := [d1, d2] }
  | _ => none }
def FnExactLeastStaffWrongFalsely : Prop := fnExactLeastStaffRow.holds Try.pinned (OpenSpec.ofChange fnExactLeastStaffWrong)

/- THE SECOND FORM. 'bulk': how many values and letters a reading holds, each counted each time it is reached (what is shared counts as often as it is met; a slice's spare places count too). A statement '..UptoSaid' is the law's where the arguments, and the package variables that the reading takes, are together of bulk at most 1048576: NARROWER than '..Said'. Prove '..Said' where nothing that the law and all that it calls make is longer than what came in: it says more and counts as full. Else prove '..UptoSaid'. A law counts once. -/
mutual
def uptoBulk {H : Type} : DataW H → Nat
  | .lit (.string bytes) => bytes.length + 1
  | .lit _ => 1
  | .nil => 1
  | .ptr d => uptoBulk d + 1
  | .slice elems spare => uptoBulkAll elems + uptoBulkAll spare + 1
  | .agg parts => uptoBulkAll parts + 1
  | .iface _ d => uptoBulk d + 1
  | .map entries => uptoBulkEntries entries + 1
  | .held _ => 1
def uptoBulkAll {H : Type} : List (DataW H) → Nat
  | [] => 0
  | d :: r => uptoBulk d + uptoBulkAll r
def uptoBulkEntries {H : Type} : List (Lit × DataW H) → Nat
  | [] => 0
  | x :: r => uptoBulkEntry x + uptoBulkEntries r
def uptoBulkEntry {H : Type} : Lit × DataW H → Nat
  | (.string bytes, d) => bytes.length + uptoBulk d + 1
  | (_, d) => uptoBulk d + 1
 end
def uptoSmall : (H : Type) → List (DataW H) → Bool := fun _ ds => decide (uptoBulkAll ds ≤ 1048576)
def OpenSpec.upto (s : _root_.Go.ChangeSpec) : _root_.Go.OpenSpec := { _root_.Go.OpenSpec.ofChange s with cond := some uptoSmall }

/-- 'laws.FnExactIsStaffed', WHERE WHAT IT READS IS OF BULK AT MOST 1048576: true; the input reads as it did. -/
def fnExactIsStaffedUptoRow : OpenClaim := { program := "ytnnmjipbcnkghaa", sum := "ce643adb1423d85349e099fbb1c433df9f4c253d083171489ffb6277bee88476", func := "loop.example/g01211/laws.FnExactIsStaffed", spec := "fnExactIsStaffed", unfollowed := true, recurses := true, apart := false, narrowed := true }
def FnExactIsStaffedUptoSaid : Prop := fnExactIsStaffedUptoRow.holds Try.pinned (OpenSpec.upto fnExactIsStaffedSpec)

/-- 'laws.FnExactStaffAt', WHERE WHAT IT READS IS OF BULK AT MOST 1048576: true; the input reads as it did. -/
def fnExactStaffAtUptoRow : OpenClaim := { program := "ytnnmjipbcnkghaa", sum := "ce643adb1423d85349e099fbb1c433df9f4c253d083171489ffb6277bee88476", func := "loop.example/g01211/laws.FnExactStaffAt", spec := "fnExactStaffAt", unfollowed := true, recurses := true, apart := false, narrowed := true }
def FnExactStaffAtUptoSaid : Prop := fnExactStaffAtUptoRow.holds Try.pinned (OpenSpec.upto fnExactStaffAtSpec)

/-- 'laws.FnExactIdleHours', WHERE WHAT IT READS IS OF BULK AT MOST 1048576: true; the input reads as it did. -/
def fnExactIdleHoursUptoRow : OpenClaim := { program := "ytnnmjipbcnkghaa", sum := "ce643adb1423d85349e099fbb1c433df9f4c253d083171489ffb6277bee88476", func := "loop.example/g01211/laws.FnExactIdleHours", spec := "fnExactIdleHours", unfollowed := true, recurses := true, apart := false, narrowed := true }
def FnExactIdleHoursUptoSaid : Prop := fnExactIdleHoursUptoRow.holds Try.pinned (OpenSpec.upto fnExactIdleHoursSpec)

/-- 'laws.FnExactNewDesk', WHERE WHAT IT READS IS OF BULK AT MOST 1048576: true; the input reads as it did. -/
def fnExactNewDeskUptoRow : OpenClaim := { program := "ytnnmjipbcnkghaa", sum := "ce643adb1423d85349e099fbb1c433df9f4c253d083171489ffb6277bee88476", func := "loop.example/g01211/laws.FnExactNewDesk", spec := "fnExactNewDesk", apart := false, narrowed := true }
def FnExactNewDeskUptoSaid : Prop := fnExactNewDeskUptoRow.holds Try.pinned (OpenSpec.upto fnExactNewDeskSpec)

/-- 'laws.FnExactLeastStaff', WHERE WHAT IT READS IS OF BULK AT MOST 1048576: true; the input reads as it did. -/
def fnExactLeastStaffUptoRow : OpenClaim := { program := "ytnnmjipbcnkghaa", sum := "ce643adb1423d85349e099fbb1c433df9f4c253d083171489ffb6277bee88476", func := "loop.example/g01211/laws.FnExactLeastStaff", spec := "fnExactLeastStaff", unfollowed := true, recurses := true, apart := false, narrowed := true }
def FnExactLeastStaffUptoSaid : Prop := fnExactLeastStaffUptoRow.holds Try.pinned (OpenSpec.upto fnExactLeastStaffSpec)

end Rows
end Go.Proofs.Ytnnmjipbcnkghaa
