/- The law FnExactBestThreshold holds for all arguments. -/
import Derived.Test.YtnohbinebhhlpaaGreatDoorK10
import Derived.Test.YtnohbinebhhlpaaGreatDoorK9
import Derived.WalkKit
import Derived.ProofKit
import Derived.OpenShut
import Derived.ShutString
import Derived.ChangeOld
import Derived.Below
import Derived.SizedLaws
namespace Go.Proofs.YtnohbinebhhlpaaGreatDoor.fnExactBestThreshold
open Go.V Go.ChangeShapes Go.WideShapes Go.ChangeAt Go.RowKit
open Go.ChangeMaps (open_string shut_string)
set_option linter.unusedVariables false
set_option maxRecDepth 100000 in
theorem lifted (os : Os) (started : os.Started) (H : Type) (enc : TypeId × Value → H) :
    ReturnsInHanded {} Tryz.checked os 9 .any (fun w args => (Rows.fnExactBestThresholdSpec.pre enc Tryz.prog Tryz.f9 [] false w args ∧ laidMetH Tryz.prog laidL w) ∧ sizedMet enc Tryz.prog Tryz.f9 (OpenSpec.ofChange Rows.fnExactBestThresholdSpec) false w args)
      (Rows.fnExactBestThresholdSpec.post enc Tryz.prog Tryz.f9 false true false false) := by
  refine returnsInHanded_of_change_and (C := Tryz.checked) (X := fun w _ => laidMetH Tryz.prog laidL w) (fun _ _ _ hh h => h.of_heap hh) own started (by kernel_rfl) Tryz.func9
    (ChangeSpec.witness_shaped (enc := enc) (C := Tryz.checked) (os := os) (X := fun w _ => laidMetH Tryz.prog laidL w) false (World.laidAll Tryz.prog os laidL) #[.agg #[.int .i64 0, .string ByteArray.empty, .string ByteArray.empty, .string ByteArray.empty, .string ByteArray.empty]] 8 (World.laidAll_os _ _ _)
      (shapedAll os _) (by kernel_rfl) (by kernel_rfl) (by kernel_rfl) (laidAllMet os _)) ?_
  intro W base args ds gs before hval0 hW _ hsz0 hL _
  have hsz : (DataW.weightsEach Tryz.prog (Tryz.f9.params.toList ++ Rows.fnExactBestThresholdSpec.plain.varTypes Tryz.prog) (ds ++ gs)).all (· ≤ reachBytes) = true := hsz0
  have hval : ∀ (j : Nat) t v, Tryz.f9.params[j]? = some t → args[j]? = some v → Value.okWide Tryz.prog W .any base t v := hval0
  have hW' := hW
  obtain ⟨p, q, hA0, hV, rfl, hfz, hnd⟩ := hW
  have hA : DataW.TrodAll enc Tryz.prog W 0 (fun _ => true) true Tryz.f9.params.toList args.toList ds p := hA0
  rw [Tryz.params9] at hA hval hsz
  obtain ⟨v0, vs0, d0, ds0, p0, q0, hargs, rfl, rfl, h0, r0⟩ := trodAll_cons hA
  obtain ⟨rfl, rfl, rfl⟩ := trodAll_nil r0
  obtain rfl : args = #[v0] := by cases args; simp_all
  obtain ⟨rfl, rfl⟩ := trodVars_none hV
  have k0 := h0
  have lt0 : ∀ x ∈ p0, x.block < W.heap.size := by obtain ⟨m, hm⟩ := k0; exact DataW.trod_lt m _ _ _ hm
  obtain ⟨cs0, rfl, _⟩ : ∃ cs : Array Value, v0 = .agg cs ∧ True := by have := (hval 0 23 v0 rfl rfl); unfold Value.okWide at this; rw [Tryz.underlying23] at this; obtain ⟨cs, h, _⟩ := this; exact ⟨cs, h, trivial⟩
  obtain ⟨c0, e0, l0, f0⟩ := Go.V.arg_ag (ks := [.i .i64, .s, .s, .s, .s]) (.st 23 _ [.i .i64, .s, .s, .s, .s] Tryz.underlying23 (by kernel_rfl) (.cons _ _ _ [.i .i64] _ rfl (.i 2 .i64 Tryz.underlying2) (by kernel_rfl) (.cons _ _ _ [.s] _ rfl (.s 9 Tryz.underlying9) (by kernel_rfl) (.cons _ _ _ [.s] _ rfl (.s 9 Tryz.underlying9) (by kernel_rfl) (.cons _ _ _ [.s] _ rfl (.s 9 Tryz.underlying9) (by kernel_rfl) (.cons _ _ _ [.s] _ rfl (.s 9 Tryz.underlying9) (by kernel_rfl) (.nil _))))))) h0 (Go.V.weightsEach_get hsz (j := 0) rfl rfl)
  obtain ⟨ro0, ma0, mb0, mc0, md0, rfl, la0, lb0, lc0, ld0⟩ := Go.V.fit_model l0 f0
  clear hA0 hval0 hsz0
  refine (Go.V.Fn.law (W := W) (vs := [_]) (globLe hL) (Go.V.law_bestThreshold ro0 ma0 mb0 mc0 md0 la0 lb0 lc0 ld0) (.cons e0 .nil)).mono fun e W' ⟨he, bel⟩ => ?_
  subst he
  exact ⟨_, rfl, _, _, _, [], _, [], hW', trodAll_mk1 (shut_bool Tryz.underlying4 _), (trodAll_cons_mk (Below.trod laidOut (by kernel_rfl) (of_decide_eq_true (by kernel_rfl)) k0 bel lt0) trodAll_mk0), rfl, bel.frame _, fun h => by cases h⟩
theorem hname : Tryz.pinned.checked.prog.funcNamed Rows.fnExactBestThresholdRow.func = some 9 := by kernel_rfl
theorem hfunc : Tryz.pinned.checked.prog.funcs[9]? = some Tryz.f9 := Tryz.func9
theorem hin : (Rows.fnExactBestThresholdRow.inPlace == Tryz.pinned.checked.prog.inPlace 9) = true := by kernel_rfl
theorem hunf : (Rows.fnExactBestThresholdRow.unfollowed == Tryz.pinned.checked.prog.unfollowed 9) = true := by kernel_rfl
theorem hrec : (Rows.fnExactBestThresholdRow.recurses == Tryz.pinned.checked.prog.recurses 9) = true := by kernel_rfl
theorem hnam : (Rows.fnExactBestThresholdRow.named == Tryz.pinned.checked.prog.varsNamed 9) = true := by kernel_rfl
theorem hfacts : joinedFacts Tryz.pinned.checked.prog 9 Tryz.f9 Rows.fnExactBestThresholdSpec Rows.fnExactBestThresholdRow = true := by
  unfold joinedFacts
  exact (and2 (and2 (and2 (and2 (and2 (and2 (and2 (and2 (and2 (and2 (and2 (and2 (and2 (and2 (and2 (and2 (and2 (and2 (and2 (and2 (and2 (and2 (and2 (and2 (and2 (and2 (and2 (and2 (and2 (and2 (and2 (by as_aux_lemma => kernel_rfl) laidOut) mapsRowed) (by as_aux_lemma => kernel_rfl)) (by as_aux_lemma => kernel_rfl)) (by as_aux_lemma => kernel_rfl)) noStops) (by as_aux_lemma => kernel_rfl)) noKnobs) hin) hunf) hrec) hnam) (by as_aux_lemma => kernel_rfl)) (by as_aux_lemma => kernel_rfl)) (by as_aux_lemma => kernel_rfl)) (by as_aux_lemma => kernel_rfl)) (by as_aux_lemma => kernel_rfl)) (by as_aux_lemma => kernel_rfl)) (by as_aux_lemma => kernel_rfl)) (by as_aux_lemma => kernel_rfl)) (by as_aux_lemma => kernel_rfl)) (by as_aux_lemma => kernel_rfl)) (by as_aux_lemma => kernel_rfl)) heard) mayEnter) lifted27) (by as_aux_lemma => kernel_rfl)) (by as_aux_lemma => kernel_rfl)) (by as_aux_lemma => kernel_rfl)) (by as_aux_lemma => kernel_rfl)) (by as_aux_lemma => kernel_rfl))
theorem hinst : Tryz.f9.isInstance Tryz.pinned.checked.prog Rows.fnExactBestThresholdRow.origin Rows.fnExactBestThresholdRow.targs := of_decide_eq_true (by kernel_rfl)
theorem hwrap : Tryz.f9.isWrapper Tryz.pinned.checked.prog Rows.fnExactBestThresholdRow.wrapper Rows.fnExactBestThresholdRow.mainSum := by unfold Func.isWrapper; first | (rw [if_pos (by decide +kernel)]; kernel_rfl) | (rw [if_neg (by decide +kernel)]; exact ⟨rfl, rfl⟩)
theorem over : Rows.FnExactBestThresholdSaid :=
  OpenClaim.holds_of_wide 9 Tryz.f9 rfl rfl rfl rfl rfl rfl rfl ⟨rfl, rfl, rfl, rfl, rfl⟩ rfl rfl rfl rfl rfl hname hfunc hfacts hinst hwrap
    (fun os started H enc _ => lifted os started H enc)
theorem plain (f : FuncId) (fn : Func) (hf : Tryz.pinned.checked.prog.funcNamed "loop.example/g01211/laws.FnExactBestThreshold" = some f) (hfn : Tryz.pinned.checked.prog.funcs[f]? = some fn) :
    true = Tryz.pinned.checked.prog.looks [] ∧ ∀ (j : Nat) t, fn.params[j]? = some t → Tryz.pinned.checked.prog.wantsStandIn t = false := by
  obtain rfl : f = 9 := Option.some.inj ((show Tryz.prog.funcNamed "loop.example/g01211/laws.FnExactBestThreshold" = some 9 by kernel_rfl).symm.trans hf) |>.symm
  obtain rfl : fn = Tryz.f9 := (Option.some.inj (Tryz.func9.symm.trans hfn)).symm
  refine ⟨by kernel_rfl, fun j t ht => ?_⟩
  rw [Tryz.params9] at ht
  have hm : t ∈ [23] := by simpa using Array.mem_of_getElem? ht
  have hall : ([23].all fun u => !Tryz.prog.wantsStandIn u) = true := by kernel_rfl
  exact (show Tryz.prog.wantsStandIn t = false by simpa using List.all_eq_true.1 hall t hm)
theorem hwf : Rows.fnExactBestThresholdRow.wfByText (OpenSpec.ofChange Rows.fnExactBestThresholdSpec) = true := by kernel_rfl
theorem hmain : Tryz.pinned.checked.prog.mainIs = some ((Rows.fnExactBestThresholdCard.stood.harness).1, (Rows.fnExactBestThresholdCard.stood.harness).2.toList) := by kernel_rfl
theorem hgo : false = Rows.fnExactBestThresholdRow.goesBy Tryz.pinned.checked.prog := by kernel_rfl
end Go.Proofs.YtnohbinebhhlpaaGreatDoor.fnExactBestThreshold
namespace Go.Proofs.YtnohbinebhhlpaaGreatDoor
/-- The card. -/
theorem fnExactBestThreshold_holds : Rows.FnExactBestThresholdCardSaid :=
  Claim7.holds_tied_plain_at .later [] _ _ _ _ fnExactBestThreshold.over (fun _ h => by cases h) fnExactBestThreshold.hwf (fun _ h => by cases h) fnExactBestThreshold_row_tie rfl ⟨rfl, rfl⟩ fnExactBestThreshold.hmain rfl fnExactBestThreshold.plain fnExactBestThreshold.hgo
#print axioms fnExactBestThreshold_holds
end Go.Proofs.YtnohbinebhhlpaaGreatDoor

