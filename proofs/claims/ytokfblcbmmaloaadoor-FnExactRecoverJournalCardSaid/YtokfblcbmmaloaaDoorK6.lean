/- Part 6: the abstract machine, its soundness, contracts of functions. -/
import Derived.Test.YtokfblcbmmaloaaDoorCards
import Derived.Test.YtokfblcbmmaloaaDoorTie
import Derived.Test.YtokfblcbmmaloaaDoorK4
import Derived.Lay
import Derived.Lib.LaidTab
import Derived.Stop.LaidErr
set_option linter.unusedVariables false
set_option linter.unusedSimpArgs false
namespace Go.V
theorem str_T (a : ByteArray) : ∃ m : List UInt8, a = ⟨m.toArray⟩ := ⟨a.data.toList, by cases a; simp⟩
theorem str_T_len {m : List UInt8} (h : (⟨m.toArray⟩ : ByteArray).size ≤ 140737488351232) : m.length < 2 ^ 47 := by
 have : (⟨m.toArray⟩ : ByteArray).size = m.length := by simp [ByteArray.size]
 omega
end Go.V
namespace Go.Proofs.YtokfblcbmmaloaaDoor
open Go Go.V Go.RowKit
abbrev laidL : List (String × DataW Unit) := [("math/bits.deBruijn32tab", Rows.laid_math_bits_deBruijn32tab), ("math/bits.deBruijn64tab", Rows.laid_math_bits_deBruijn64tab), ("internal/strconv.uint64pow10", Rows.laid_internal_strconv_uint64pow10)]
def intsOf : List Value → List Int
 | [] => []
 | .int _ z :: r => z :: intsOf r
 | _ :: r => intsOf r
theorem globLe {W : World} (hL : laidMetH Tryd.prog laidL W) : Go.V.glob.le (Know.all W) := by
 rw [MakeChecks.laidMetH_plain _ _ _ (by kernel_rfl)] at hL
 have c2 : Lib.TabIs Tryd.prog W "math/bits.deBruijn32tab" .u8 (intsOf (gget 2 globT)) :=
  Lib.tabIs_of_head (rest := laidL.tail) (g := 2) (t := 127) (e := 5) (n := 32) (by kernel_rfl) (by kernel_rfl) (by kernel_rfl) (by kernel_rfl) (by kernel_rfl) (by kernel_rfl) hL
 have c3 : Lib.TabIs Tryd.prog W "math/bits.deBruijn64tab" .u8 (intsOf (gget 3 globT)) :=
  Lib.tabIs_of_head (rest := laidL.tail.tail) (g := 3) (t := 128) (e := 5) (n := 64) (by kernel_rfl) (by kernel_rfl) (by kernel_rfl) (by kernel_rfl) (by kernel_rfl) (by kernel_rfl) hL.tail
 have c1 : Lib.TabIs Tryd.prog W "internal/strconv.uint64pow10" .u64 (intsOf (gget 1 globT)) :=
  Lib.tabIs_of_head (rest := laidL.tail.tail.tail) (g := 1) (t := 117) (e := 76) (n := 20) (by kernel_rfl) (by kernel_rfl) (by kernel_rfl) (by kernel_rfl) (by kernel_rfl) (by kernel_rfl) hL.tail.tail
 have all1 : ∀ x, x ∈ gget 2 globT ++ gget 3 globT ++ gget 1 globT → oneV x = true := by
  have : ((gget 2 globT ++ gget 3 globT ++ gget 1 globT).all oneV) = true := by rfl
  exact List.all_eq_true.1 this
 have e2 : ((intsOf (gget 2 globT)).map fun z => Value.int .u8 z) = gget 2 globT := rfl
 have e3 : ((intsOf (gget 3 globT)).map fun z => Value.int .u8 z) = gget 3 globT := rfl
 have e1 : ((intsOf (gget 1 globT)).map fun z => Value.int .u64 z) = gget 1 globT := rfl
 unfold Lib.TabIs at c2 c3 c1
 rw [e2] at c2
 rw [e3] at c3
 rw [e1] at c1
 have f2 := fun i => World.var?_cell (g := 2) (by kernel_rfl) c2 i
 have f3 := fun i => World.var?_cell (g := 3) (by kernel_rfl) c3 i
 have f1 := fun i => World.var?_cell (g := 1) (by kernel_rfl) c1 i
 intro b o x h
 unfold glob at h
 by_cases h2 : b = 2
 ·subst h2; exact ⟨by rw [f2 o]; simpa using h, all1 x (by simp [List.mem_of_getElem? h])⟩
 by_cases h3 : b = 3
 ·subst h3; exact ⟨by rw [f3 o]; simpa using h, all1 x (by simp [List.mem_of_getElem? h])⟩
 by_cases h1 : b = 1
 ·subst h1; exact ⟨by rw [f1 o]; simpa using h, all1 x (by simp [List.mem_of_getElem? h])⟩
 have : gget b globT = [] := by
  have n2 : Nat.beq b 2 = false := by cases e : Nat.beq b 2; rfl; exact absurd (Nat.eq_of_beq_eq_true e) h2
  have n3 : Nat.beq b 3 = false := by cases e : Nat.beq b 3; rfl; exact absurd (Nat.eq_of_beq_eq_true e) h3
  have n1 : Nat.beq b 1 = false := by cases e : Nat.beq b 1; rfl; exact absurd (Nat.eq_of_beq_eq_true e) h1
  unfold globT gget; rw [n2]; unfold cond gget; rw [n3]; unfold cond gget; rw [n1]; unfold cond gget; rfl
 rw [this] at h; cases h
theorem own : ownKnob Tryd.prog.godebug = none := by kernel_rfl
theorem laidOut : laidOutB Tryd.prog = true := by kernel_rfl
theorem mapsRowed : Go.mapsRowed Tryd.pinned.checked.prog = true := by kernel_rfl
theorem noStops : (Tryd.pinned.checked.prog.stops == []) = true := by kernel_rfl
theorem noKnobs : (Tryd.pinned.checked.prog.stopKnobs == []) = true := by kernel_rfl
theorem heard : Tryd.pinned.checked.prog.stopsHeard = true := by kernel_rfl
theorem mayEnter : Tryd.pinned.checked.prog.mayEnter = true := by kernel_rfl
theorem lifted27 : (Rows.fnExactRecoverJournalRow.lifted == Tryd.pinned.checked.prog.liftsFinal) = true := by kernel_rfl
theorem and2 {a b : Bool} (h : a = true) (k : b = true) : (a && b) = true := by rw [h, k]; rfl
theorem shapedAll (os : Os) (args : Array Value) : ((World.laidAll Tryd.prog os laidL).forCall (fun _ _ => 0) ⟨#[], args, []⟩).Shaped Tryd.prog :=
 World.shaped_of_ZipB (by kernel_rfl) (by kernel_rfl)
theorem laidAllMet (os : Os) (args : Array Value) : laidMetH Tryd.prog laidL ((World.laidAll Tryd.prog os laidL).forCall (fun _ _ => 0) ⟨#[], args, []⟩).memory := by
 rw [MakeChecks.laidMetH_plain _ _ _ (by kernel_rfl)]; exact laidMet_laidAll _ (by kernel_rfl) (by kernel_rfl)
end Go.Proofs.YtokfblcbmmaloaaDoor
