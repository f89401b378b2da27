/- The law FnExactRecoverJournal holds for all arguments. -/
import Derived.Test.YtokfblcbmmaloaaDoorK6
import Derived.Test.YtokfblcbmmaloaaDoorK5
import Derived.WalkKit
import Derived.ProofKit
import Derived.OpenShut
import Derived.ShutString
import Derived.ChangeOld
import Derived.Below
import Derived.SizedLaws
namespace Go.Proofs.YtokfblcbmmaloaaDoor.fnExactRecoverJournal
open Go.V Go.ChangeShapes Go.WideShapes Go.ChangeAt Go.RowKit
open Go.ChangeMaps (open_string shut_string)
set_option linter.unusedVariables false
set_option maxRecDepth 100000 in
theorem lifted (os : Os) (started : os.Started) (H : Type) (enc : TypeId × Value → H) :
    ReturnsInHanded {} Tryd.checked os 3 .any (fun w args => (Rows.fnExactRecoverJournalSpec.pre enc Tryd.prog Tryd.f3 [] false w args ∧ laidMetH Tryd.prog laidL w) ∧ sizedMet enc Tryd.prog Tryd.f3 (OpenSpec.ofChange Rows.fnExactRecoverJournalSpec) false w args)
      (Rows.fnExactRecoverJournalSpec.post enc Tryd.prog Tryd.f3 false true false false) := by
  refine returnsInHanded_of_change_and (C := Tryd.checked) (X := fun w _ => laidMetH Tryd.prog laidL w) (fun _ _ _ hh h => h.of_heap hh) own started (by kernel_rfl) Tryd.func3
    (ChangeSpec.witness_shaped (enc := enc) (C := Tryd.checked) (os := os) (X := fun w _ => laidMetH Tryd.prog laidL w) false (World.laidAll Tryd.prog os laidL) #[.string ByteArray.empty] 8 (World.laidAll_os _ _ _)
      (shapedAll os _) (by kernel_rfl) (by kernel_rfl) (by kernel_rfl) (laidAllMet os _)) ?_
  intro W base args ds gs before hval0 hW _ hsz0 hL _
  have hsz : (DataW.weightsEach Tryd.prog (Tryd.f3.params.toList ++ Rows.fnExactRecoverJournalSpec.plain.varTypes Tryd.prog) (ds ++ gs)).all (· ≤ reachBytes) = true := hsz0
  have hval : ∀ (j : Nat) t v, Tryd.f3.params[j]? = some t → args[j]? = some v → Value.okWide Tryd.prog W .any base t v := hval0
  have hW' := hW
  obtain ⟨p, q, hA0, hV, rfl, hfz, hnd⟩ := hW
  have hA : DataW.TrodAll enc Tryd.prog W 0 (fun _ => true) true Tryd.f3.params.toList args.toList ds p := hA0
  rw [Tryd.params3] at hA hval hsz
  obtain ⟨v0, vs0, d0, ds0, p0, q0, hargs, rfl, rfl, h0, r0⟩ := trodAll_cons hA
  obtain ⟨rfl, rfl, rfl⟩ := trodAll_nil r0
  obtain rfl : args = #[v0] := by cases args; simp_all
  obtain ⟨rfl, rfl⟩ := trodVars_none hV
  obtain ⟨a0, rfl, rfl, rfl, y0⟩ := open_string Tryd.underlying9 (hval 0 9 v0 rfl rfl) h0
  have w0 : a0.size ≤ 140737488351232 := by
    have z := sized_string hsz (j := 0) (t := 9) rfl rfl
    rw [Array.length_toList] at z
    exact z
  obtain ⟨m0, rfl⟩ := str_T a0
  have n0 := str_T_len w0
  clear hA0 hval0 hsz0
  refine (Go.V.Fn.law (W := W) (vs := [_]) (globLe hL) (Go.V.law_recover m0) (.cons (.d _ _ (.s _)) .nil)).mono fun e W' ⟨he, bel⟩ => ?_
  subst he
  exact ⟨_, rfl, _, _, _, [], _, [], hW', trodAll_mk1 (shut_bool Tryd.underlying4 _), (trodAll_cons_mk (shut_string Tryd.underlying9 y0) trodAll_mk0), rfl, bel.frame _, fun h => by cases h⟩
theorem hname : Tryd.pinned.checked.prog.funcNamed Rows.fnExactRecoverJournalRow.func = some 3 := by kernel_rfl
theorem hfunc : Tryd.pinned.checked.prog.funcs[3]? = some Tryd.f3 := Tryd.func3
theorem hin : (Rows.fnExactRecoverJournalRow.inPlace == Tryd.pinned.checked.prog.inPlace 3) = true := by kernel_rfl
theorem hunf : (Rows.fnExactRecoverJournalRow.unfollowed == Tryd.pinned.checked.prog.unfollowed 3) = true := by kernel_rfl
theorem hrec : (Rows.fnExactRecoverJournalRow.recurses == Tryd.pinned.checked.prog.recurses 3) = true := by kernel_rfl
theorem hnam : (Rows.fnExactRecoverJournalRow.named == Tryd.pinned.checked.prog.varsNamed 3) = true := by kernel_rfl
theorem hfacts : joinedFacts Tryd.pinned.checked.prog 3 Tryd.f3 Rows.fnExactRecoverJournalSpec Rows.fnExactRecoverJournalRow = true := by
  unfold joinedFacts
  exact (and2 (and2 (and2 (and2 (and2 (and2 (and2 (and2 (and2 (and2 (and2 (and2 (and2 (and2 (and2 (and2 (and2 (and2 (and2 (and2 (and2 (and2 (and2 (and2 (and2 (and2 (and2 (and2 (and2 (and2 (and2 (by as_aux_lemma => kernel_rfl) laidOut) mapsRowed) (by as_aux_lemma => kernel_rfl)) (by as_aux_lemma => kernel_rfl)) (by as_aux_lemma => kernel_rfl)) noStops) (by as_aux_lemma => kernel_rfl)) noKnobs) hin) hunf) hrec) hnam) (by as_aux_lemma => kernel_rfl)) (by as_aux_lemma => kernel_rfl)) (by as_aux_lemma => kernel_rfl)) (by as_aux_lemma => kernel_rfl)) (by as_aux_lemma => kernel_rfl)) (by as_aux_lemma => kernel_rfl)) (by as_aux_lemma => kernel_rfl)) (by as_aux_lemma => kernel_rfl)) (by as_aux_lemma => kernel_rfl)) (by as_aux_lemma => kernel_rfl)) (by as_aux_lemma => kernel_rfl)) heard) mayEnter) lifted27) (by as_aux_lemma => kernel_rfl)) (by as_aux_lemma => kernel_rfl)) (by as_aux_lemma => kernel_rfl)) (by as_aux_lemma => kernel_rfl)) (by as_aux_lemma => kernel_rfl))
theorem hinst : Tryd.f3.isInstance Tryd.pinned.checked.prog Rows.fnExactRecoverJournalRow.origin Rows.fnExactRecoverJournalRow.targs := of_decide_eq_true (by kernel_rfl)
theorem hwrap : Tryd.f3.isWrapper Tryd.pinned.checked.prog Rows.fnExactRecoverJournalRow.wrapper Rows.fnExactRecoverJournalRow.mainSum := by unfold Func.isWrapper; first | (rw [if_pos (by decide +kernel)]; kernel_rfl) | (rw [if_neg (by decide +kernel)]; exact ⟨rfl, rfl⟩)
theorem over : Rows.FnExactRecoverJournalSaid :=
  OpenClaim.holds_of_wide 3 Tryd.f3 rfl rfl rfl rfl rfl rfl rfl ⟨rfl, rfl, rfl, rfl, rfl⟩ rfl rfl rfl rfl rfl hname hfunc hfacts hinst hwrap
    (fun os started H enc _ => lifted os started H enc)
theorem plain (f : FuncId) (fn : Func) (hf : Tryd.pinned.checked.prog.funcNamed "loop.example/g01211/laws.FnExactRecoverJournal" = some f) (hfn : Tryd.pinned.checked.prog.funcs[f]? = some fn) :
    false = Tryd.pinned.checked.prog.looks [] ∧ ∀ (j : Nat) t, fn.params[j]? = some t → Tryd.pinned.checked.prog.wantsStandIn t = false := by
  obtain rfl : f = 3 := Option.some.inj ((show Tryd.prog.funcNamed "loop.example/g01211/laws.FnExactRecoverJournal" = some 3 by kernel_rfl).symm.trans hf) |>.symm
  obtain rfl : fn = Tryd.f3 := (Option.some.inj (Tryd.func3.symm.trans hfn)).symm
  refine ⟨by kernel_rfl, fun j t ht => ?_⟩
  rw [Tryd.params3] at ht
  have hm : t ∈ [9] := by simpa using Array.mem_of_getElem? ht
  have hall : ([9].all fun u => !Tryd.prog.wantsStandIn u) = true := by kernel_rfl
  exact (show Tryd.prog.wantsStandIn t = false by simpa using List.all_eq_true.1 hall t hm)
theorem hwf : Rows.fnExactRecoverJournalRow.wfByText (OpenSpec.ofChange Rows.fnExactRecoverJournalSpec) = true := by kernel_rfl
theorem hmain : Tryd.pinned.checked.prog.mainIs = some ((Rows.fnExactRecoverJournalCard.stood.harness).1, (Rows.fnExactRecoverJournalCard.stood.harness).2.toList) := by kernel_rfl
theorem hgo : false = Rows.fnExactRecoverJournalRow.goesBy Tryd.pinned.checked.prog := by kernel_rfl
end Go.Proofs.YtokfblcbmmaloaaDoor.fnExactRecoverJournal
namespace Go.Proofs.YtokfblcbmmaloaaDoor
/-- The card. -/
theorem fnExactRecoverJournal_holds : Rows.FnExactRecoverJournalCardSaid :=
  Claim7.holds_tied_plain_at .later [] _ _ _ _ fnExactRecoverJournal.over (fun _ h => by cases h) fnExactRecoverJournal.hwf (fun _ h => by cases h) fnExactRecoverJournal_row_tie rfl ⟨rfl, rfl⟩ fnExactRecoverJournal.hmain rfl fnExactRecoverJournal.plain fnExactRecoverJournal.hgo
#print axioms fnExactRecoverJournal_holds
end Go.Proofs.YtokfblcbmmaloaaDoor

