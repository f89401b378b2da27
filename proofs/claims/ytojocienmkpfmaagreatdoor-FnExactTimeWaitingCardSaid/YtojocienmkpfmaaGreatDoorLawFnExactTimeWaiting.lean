/- The law FnExactTimeWaiting holds for all arguments. -/
import Derived.Test.YtojocienmkpfmaaGreatDoorK9
import Derived.Test.YtojocienmkpfmaaGreatDoorK8
import Derived.WalkKit
import Derived.ProofKit
import Derived.OpenShut
import Derived.ShutString
import Derived.ChangeOld
import Derived.Below
import Derived.SizedLaws
namespace Go.Proofs.YtojocienmkpfmaaGreatDoor.fnExactTimeWaiting
open Go.V Go.ChangeShapes Go.WideShapes Go.ChangeAt Go.RowKit
open Go.ChangeMaps (open_string shut_string)
set_option linter.unusedVariables false
set_option maxRecDepth 100000 in
theorem lifted (os : Os) (started : os.Started) (H : Type) (enc : TypeId × Value → H) :
    ReturnsInHanded {} Tryz.checked os 12 .any (fun w args => (Rows.fnExactTimeWaitingSpec.pre enc Tryz.prog Tryz.f12 [] false w args ∧ laidMetH Tryz.prog laidL w) ∧ sizedMet enc Tryz.prog Tryz.f12 (OpenSpec.ofChange Rows.fnExactTimeWaitingSpec) false w args)
      (Rows.fnExactTimeWaitingSpec.post enc Tryz.prog Tryz.f12 false true false false) := by
  refine returnsInHanded_of_change_and (C := Tryz.checked) (X := fun w _ => laidMetH Tryz.prog laidL w) (fun _ _ _ hh h => h.of_heap hh) own started (by kernel_rfl) Tryz.func12
    (ChangeSpec.witness_shaped (enc := enc) (C := Tryz.checked) (os := os) (X := fun w _ => laidMetH Tryz.prog laidL w) false (World.laidAll Tryz.prog os laidL) #[.agg #[.slice none 0 0, .slice none 0 0], .int .i64 0] 8 (World.laidAll_os _ _ _)
      (shapedAll os _) (by kernel_rfl) (by kernel_rfl) (by kernel_rfl) (laidAllMet os _)) ?_
  intro W base args ds gs before hval0 hW _ hsz0 hL _
  have hsz : (DataW.weightsEach Tryz.prog (Tryz.f12.params.toList ++ Rows.fnExactTimeWaitingSpec.plain.varTypes Tryz.prog) (ds ++ gs)).all (· ≤ reachBytes) = true := hsz0
  have hval : ∀ (j : Nat) t v, Tryz.f12.params[j]? = some t → args[j]? = some v → Value.okWide Tryz.prog W .any base t v := hval0
  have hW' := hW
  obtain ⟨p, q, hA0, hV, rfl, hfz, hnd⟩ := hW
  have hA : DataW.TrodAll enc Tryz.prog W 0 (fun _ => true) true Tryz.f12.params.toList args.toList ds p := hA0
  rw [Tryz.params12] at hA hval hsz
  obtain ⟨v0, vs0, d0, ds0, p0, q0, hargs, rfl, rfl, h0, r0⟩ := trodAll_cons hA
  obtain ⟨v1, vs1, d1, ds1, p1, q1, rfl, rfl, rfl, h1, r1⟩ := trodAll_cons r0
  obtain ⟨rfl, rfl, rfl⟩ := trodAll_nil r1
  obtain rfl : args = #[v0, v1] := by cases args; simp_all
  obtain ⟨rfl, rfl⟩ := trodVars_none hV
  have k0 := h0
  have lt0 : ∀ x ∈ p0, x.block < W.heap.size := by obtain ⟨m, hm⟩ := k0; exact DataW.trod_lt m _ _ _ hm
  obtain ⟨cs0, rfl, _⟩ : ∃ cs : Array Value, v0 = .agg cs ∧ True := by have := (hval 0 40 v0 rfl rfl); unfold Value.okWide at this; rw [Tryz.underlying40] at this; obtain ⟨cs, h, _⟩ := this; exact ⟨cs, h, trivial⟩
  obtain ⟨c0, e0, l0, f0⟩ := Go.V.arg_ag (ks := [.sl [.s], .sl [.s]]) (.st 40 _ [.sl [.s], .sl [.s]] Tryz.underlying40 (by kernel_rfl) (.cons _ _ _ [.sl [.s]] _ rfl (.sl 22 9 _ Tryz.underlying22 (.s 9 Tryz.underlying9) (by kernel_rfl) (by decide) (of_decide_eq_true (by kernel_rfl))) (by kernel_rfl) (.cons _ _ _ [.sl [.s]] _ rfl (.sl 22 9 _ Tryz.underlying22 (.s 9 Tryz.underlying9) (by kernel_rfl) (by decide) (of_decide_eq_true (by kernel_rfl))) (by kernel_rfl) (.nil _)))) h0 (Go.V.weightsEach_get hsz (j := 0) rfl rfl)
  obtain ⟨u0, z0, rfl, lu0, lz0, gu0, gz0⟩ := Go.V.fit_line l0 f0
  obtain ⟨a1, rfl, rfl, rfl, w1⟩ := open_int Tryz.underlying2 (hval 1 2 v1 rfl rfl) h1
  clear hA0 hval0 hsz0
  refine (Go.V.Fn.law (W := W) (vs := [_, _]) (globLe hL) (Go.V.law_timeWaiting u0 z0 a1 lu0 lz0 gu0 gz0) (.cons e0 (.cons (.d _ _ (.s _)) .nil))).mono fun e W' ⟨he, bel⟩ => ?_
  subst he
  exact ⟨_, rfl, _, _, _, [], _, [], hW', trodAll_mk1 (shut_bool Tryz.underlying4 _), (trodAll_cons_mk (Below.trod laidOut (by kernel_rfl) (of_decide_eq_true (by kernel_rfl)) k0 bel lt0) (trodAll_cons_mk (shut_int Tryz.underlying2 w1) trodAll_mk0)), rfl, bel.frame _, fun h => by cases h⟩
theorem hname : Tryz.pinned.checked.prog.funcNamed Rows.fnExactTimeWaitingRow.func = some 12 := by kernel_rfl
theorem hfunc : Tryz.pinned.checked.prog.funcs[12]? = some Tryz.f12 := Tryz.func12
theorem hin : (Rows.fnExactTimeWaitingRow.inPlace == Tryz.pinned.checked.prog.inPlace 12) = true := by kernel_rfl
theorem hunf : (Rows.fnExactTimeWaitingRow.unfollowed == Tryz.pinned.checked.prog.unfollowed 12) = true := by kernel_rfl
theorem hrec : (Rows.fnExactTimeWaitingRow.recurses == Tryz.pinned.checked.prog.recurses 12) = true := by kernel_rfl
theorem hnam : (Rows.fnExactTimeWaitingRow.named == Tryz.pinned.checked.prog.varsNamed 12) = true := by kernel_rfl
theorem hfacts : joinedFacts Tryz.pinned.checked.prog 12 Tryz.f12 Rows.fnExactTimeWaitingSpec Rows.fnExactTimeWaitingRow = true := by
  unfold joinedFacts
  exact (and2 (and2 (and2 (and2 (and2 (and2 (and2 (and2 (and2 (and2 (and2 (and2 (and2 (and2 (and2 (and2 (and2 (and2 (and2 (and2 (and2 (and2 (and2 (and2 (and2 (and2 (and2 (and2 (and2 (and2 (and2 (by as_aux_lemma => kernel_rfl) laidOut) mapsRowed) (by as_aux_lemma => kernel_rfl)) (by as_aux_lemma => kernel_rfl)) (by as_aux_lemma => kernel_rfl)) noStops) (by as_aux_lemma => kernel_rfl)) noKnobs) hin) hunf) hrec) hnam) (by as_aux_lemma => kernel_rfl)) (by as_aux_lemma => kernel_rfl)) (by as_aux_lemma => kernel_rfl)) (by as_aux_lemma => kernel_rfl)) (by as_aux_lemma => kernel_rfl)) (by as_aux_lemma => kernel_rfl)) (by as_aux_lemma => kernel_rfl)) (by as_aux_lemma => kernel_rfl)) (by as_aux_lemma => kernel_rfl)) (by as_aux_lemma => kernel_rfl)) (by as_aux_lemma => kernel_rfl)) heard) mayEnter) lifted27) (by as_aux_lemma => kernel_rfl)) (by as_aux_lemma => kernel_rfl)) (by as_aux_lemma => kernel_rfl)) (by as_aux_lemma => kernel_rfl)) (by as_aux_lemma => kernel_rfl))
theorem hinst : Tryz.f12.isInstance Tryz.pinned.checked.prog Rows.fnExactTimeWaitingRow.origin Rows.fnExactTimeWaitingRow.targs := of_decide_eq_true (by kernel_rfl)
theorem hwrap : Tryz.f12.isWrapper Tryz.pinned.checked.prog Rows.fnExactTimeWaitingRow.wrapper Rows.fnExactTimeWaitingRow.mainSum := by unfold Func.isWrapper; first | (rw [if_pos (by decide +kernel)]; kernel_rfl) | (rw [if_neg (by decide +kernel)]; exact ⟨rfl, rfl⟩)
theorem over : Rows.FnExactTimeWaitingSaid :=
  OpenClaim.holds_of_wide 12 Tryz.f12 rfl rfl rfl rfl rfl rfl rfl ⟨rfl, rfl, rfl, rfl, rfl⟩ rfl rfl rfl rfl rfl hname hfunc hfacts hinst hwrap
    (fun os started H enc _ => lifted os started H enc)
theorem plain (f : FuncId) (fn : Func) (hf : Tryz.pinned.checked.prog.funcNamed "loop.example/g01211/laws.FnExactTimeWaiting" = some f) (hfn : Tryz.pinned.checked.prog.funcs[f]? = some fn) :
    true = Tryz.pinned.checked.prog.looks [] ∧ ∀ (j : Nat) t, fn.params[j]? = some t → Tryz.pinned.checked.prog.wantsStandIn t = false := by
  obtain rfl : f = 12 := Option.some.inj ((show Tryz.prog.funcNamed "loop.example/g01211/laws.FnExactTimeWaiting" = some 12 by kernel_rfl).symm.trans hf) |>.symm
  obtain rfl : fn = Tryz.f12 := (Option.some.inj (Tryz.func12.symm.trans hfn)).symm
  refine ⟨by kernel_rfl, fun j t ht => ?_⟩
  rw [Tryz.params12] at ht
  have hm : t ∈ [40, 2] := by simpa using Array.mem_of_getElem? ht
  have hall : ([40, 2].all fun u => !Tryz.prog.wantsStandIn u) = true := by kernel_rfl
  exact (show Tryz.prog.wantsStandIn t = false by simpa using List.all_eq_true.1 hall t hm)
theorem hwf : Rows.fnExactTimeWaitingRow.wfByText (OpenSpec.ofChange Rows.fnExactTimeWaitingSpec) = true := by kernel_rfl
theorem hmain : Tryz.pinned.checked.prog.mainIs = some ((Rows.fnExactTimeWaitingCard.stood.harness).1, (Rows.fnExactTimeWaitingCard.stood.harness).2.toList) := by kernel_rfl
theorem hgo : false = Rows.fnExactTimeWaitingRow.goesBy Tryz.pinned.checked.prog := by kernel_rfl
end Go.Proofs.YtojocienmkpfmaaGreatDoor.fnExactTimeWaiting
namespace Go.Proofs.YtojocienmkpfmaaGreatDoor
/-- The card. -/
theorem fnExactTimeWaiting_holds : Rows.FnExactTimeWaitingCardSaid :=
  Claim7.holds_tied_plain_at .later [] _ _ _ _ fnExactTimeWaiting.over (fun _ h => by cases h) fnExactTimeWaiting.hwf (fun _ h => by cases h) fnExactTimeWaiting_row_tie rfl ⟨rfl, rfl⟩ fnExactTimeWaiting.hmain rfl fnExactTimeWaiting.plain fnExactTimeWaiting.hgo
#print axioms fnExactTimeWaiting_holds
end Go.Proofs.YtojocienmkpfmaaGreatDoor

