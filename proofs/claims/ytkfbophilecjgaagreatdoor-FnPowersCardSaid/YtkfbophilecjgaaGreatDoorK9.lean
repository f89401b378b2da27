/- Part 9: the abstract machine, its soundness, contracts of functions. -/
import Derived.Test.YtkfbophilecjgaaGreatDoorCards
import Derived.Test.YtkfbophilecjgaaGreatDoorTie
import Derived.Test.YtkfbophilecjgaaGreatDoorK6
import Derived.Lay
import Derived.Lib.LaidTab
import Derived.Stop.LaidErr
set_option linter.unusedVariables false
set_option linter.unusedSimpArgs false
namespace Go.V
end Go.V
namespace Go.Proofs.YtkfbophilecjgaaGreatDoor
open Go Go.V Go.RowKit
abbrev laidL:List (String×DataW Unit):=[("math/bits.deBruijn32tab", Rows.laid_math_bits_deBruijn32tab),("math/bits.deBruijn64tab", Rows.laid_math_bits_deBruijn64tab),("internal/strconv.uint64pow10", Rows.laid_internal_strconv_uint64pow10),("strconv.ErrRange", Rows.laid_strconv_ErrRange),("strconv.ErrSyntax", Rows.laid_strconv_ErrSyntax)]
def intsOf:List Value→List Int
 | []=>[]
 | .int _ z :: r=>z :: intsOf r
 | _ :: r=>intsOf r
theorem globLe {W:World} (hL:laidMetH Tryz.prog laidL W):Go.V.glob.le (Know.all W):=by
 rw [MakeChecks.laidMetH_plain _ _ _ (by kernel_rfl)] at hL;have c4:Lib.TabIs Tryz.prog W "math/bits.deBruijn32tab" .u8 (intsOf (gget 4 globT)) :=
  Lib.tabIs_of_head (rest:=laidL.tail) (g:=4) (t:=196) (e:=5) (n:=32) (by kernel_rfl) (by kernel_rfl) (by kernel_rfl) (by kernel_rfl) (by kernel_rfl) (by kernel_rfl) hL
 have c5:Lib.TabIs Tryz.prog W "math/bits.deBruijn64tab" .u8 (intsOf (gget 5 globT)) :=
  Lib.tabIs_of_head (rest:=laidL.tail.tail) (g:=5) (t:=197) (e:=5) (n:=64) (by kernel_rfl) (by kernel_rfl) (by kernel_rfl) (by kernel_rfl) (by kernel_rfl) (by kernel_rfl) hL.tail
 have c1:Lib.TabIs Tryz.prog W "internal/strconv.uint64pow10" .u64 (intsOf (gget 1 globT)) :=
  Lib.tabIs_of_head (rest:=laidL.tail.tail.tail) (g:=1) (t:=181) (e:=70) (n:=20) (by kernel_rfl) (by kernel_rfl) (by kernel_rfl) (by kernel_rfl) (by kernel_rfl) (by kernel_rfl) hL.tail.tail
 have all1:∀x,x∈gget 4 globT++gget 5 globT++gget 1 globT→oneV x=true:=by
  have:((gget 4 globT++gget 5 globT++gget 1 globT).all oneV)=true:=by rfl
  exact List.all_eq_true.1 this
 have e4:((intsOf (gget 4 globT)).map fun z=>Value.int .u8 z)=gget 4 globT:=rfl;have e5:((intsOf (gget 5 globT)).map fun z=>Value.int .u8 z)=gget 5 globT:=rfl;have e1:((intsOf (gget 1 globT)).map fun z=>Value.int .u64 z)=gget 1 globT:=rfl;unfold Lib.TabIs at c4 c5 c1;rw [e4] at c4;rw [e5] at c5;rw [e1] at c1;have f4:=fun i=>World.var?_cell (g:=4) (by kernel_rfl) c4 i;have f5:=fun i=>World.var?_cell (g:=5) (by kernel_rfl) c5 i;have f1:=fun i=>World.var?_cell (g:=1) (by kernel_rfl) c1 i;intro b o x h;unfold glob at h;by_cases h4:b=4
 ·subst h4;exact ⟨by rw [f4 o];simpa using h,all1 x (by simp [List.mem_of_getElem? h])⟩
 by_cases h5:b=5
 ·subst h5;exact ⟨by rw [f5 o];simpa using h,all1 x (by simp [List.mem_of_getElem? h])⟩
 by_cases h1:b=1
 ·subst h1;exact ⟨by rw [f1 o];simpa using h,all1 x (by simp [List.mem_of_getElem? h])⟩
 have:gget b globT=[]:=by
  have n4:Nat.beq b 4=false:=by cases e:Nat.beq b 4;rfl;exact absurd (Nat.eq_of_beq_eq_true e) h4
  have n5:Nat.beq b 5=false:=by cases e:Nat.beq b 5;rfl;exact absurd (Nat.eq_of_beq_eq_true e) h5
  have n1:Nat.beq b 1=false:=by cases e:Nat.beq b 1;rfl;exact absurd (Nat.eq_of_beq_eq_true e) h1
  unfold globT gget;rw [n4];unfold cond gget;rw [n5];unfold cond gget;rw [n1];unfold cond gget;rfl
 rw [this] at h;cases h
theorem own:ownKnob Tryz.prog.godebug=none:=by kernel_rfl
theorem laidOut:laidOutB Tryz.prog=true:=by kernel_rfl
theorem mapsRowed:Go.mapsRowed Tryz.pinned.checked.prog=true:=by kernel_rfl
theorem noStops:(Tryz.pinned.checked.prog.stops == [])=true:=by kernel_rfl
theorem noKnobs:(Tryz.pinned.checked.prog.stopKnobs == [])=true:=by kernel_rfl
theorem heard:Tryz.pinned.checked.prog.stopsHeard=true:=by kernel_rfl
theorem mayEnter:Tryz.pinned.checked.prog.mayEnter=true:=by kernel_rfl
theorem lifted27:(Rows.fnPowersRow.lifted == Tryz.pinned.checked.prog.liftsFinal)=true:=by kernel_rfl
theorem and2 {a b:Bool} (h:a=true) (k:b=true):(a && b)=true:=by rw [h,k];rfl
theorem shapedAll (os:Os) (args:Array Value):((World.laidAll Tryz.prog os laidL).forCall (fun _ _=>0) ⟨#[],args,[]⟩).Shaped Tryz.prog :=
 World.shaped_of_ZipB (by kernel_rfl) (by kernel_rfl)
theorem laidAllMet (os:Os) (args:Array Value):laidMetH Tryz.prog laidL ((World.laidAll Tryz.prog os laidL).forCall (fun _ _=>0) ⟨#[],args,[]⟩).memory:=by
 rw [MakeChecks.laidMetH_plain _ _ _ (by kernel_rfl)];exact laidMet_laidAll _ (by kernel_rfl) (by kernel_rfl)
end Go.Proofs.YtkfbophilecjgaaGreatDoor
