/- The law FnExactCostOf holds for all arguments. -/
import Derived.Test.YtojocienmkpfmaaGreatDoorK9
import Derived.Test.YtojocienmkpfmaaGreatDoorK8
import Derived.WalkKit
import Derived.ProofKit
import Derived.OpenShut
import Derived.ShutString
import Derived.ChangeOld
import Derived.Below
import Derived.SizedLaws
namespace Go.Proofs.YtojocienmkpfmaaGreatDoor.fnExactCostOf
open Go.V Go.ChangeShapes Go.WideShapes Go.ChangeAt Go.RowKit
open Go.ChangeMaps (open_string shut_string)
set_option linter.unusedVariables false
set_option maxRecDepth 100000 in
theorem lifted (os : Os) (started : os.Started) (H : Type) (enc : TypeId × Value → H) :
    ReturnsInHanded {} Tryz.checked os 5 .any (fun w args => (Rows.fnExactCostOfSpec.pre enc Tryz.prog Tryz.f5 [] false w args ∧ laidMetH Tryz.prog laidL w) ∧ sizedMet enc Tryz.prog Tryz.f5 (OpenSpec.ofChange Rows.fnExactCostOfSpec) false w args)
      (Rows.fnExactCostOfSpec.post enc Tryz.prog Tryz.f5 false true false false) := by
  refine returnsInHanded_of_change_and (C := Tryz.checked) (X := fun w _ => laidMetH Tryz.prog laidL w) (fun _ _ _ hh h => h.of_heap hh) own started (by kernel_rfl) Tryz.func5
    (ChangeSpec.witness_shaped (enc := enc) (C := Tryz.checked) (os := os) (X := fun w _ => laidMetH Tryz.prog laidL w) false (World.laidAll Tryz.prog os laidL) #[.slice none 0 0, .int .i64 0, .slice none 0 0] 8 (World.laidAll_os _ _ _)
      (shapedAll os _) (by kernel_rfl) (by kernel_rfl) (by kernel_rfl) (laidAllMet os _)) ?_
  intro W base args ds gs before hval0 hW _ hsz0 hL _
  have hsz : (DataW.weightsEach Tryz.prog (Tryz.f5.params.toList ++ Rows.fnExactCostOfSpec.plain.varTypes Tryz.prog) (ds ++ gs)).all (· ≤ reachBytes) = true := hsz0
  have hval : ∀ (j : Nat) t v, Tryz.f5.params[j]? = some t → args[j]? = some v → Value.okWide Tryz.prog W .any base t v := hval0
  have hW' := hW
  obtain ⟨p, q, hA0, hV, rfl, hfz, hnd⟩ := hW
  have hA : DataW.TrodAll enc Tryz.prog W 0 (fun _ => true) true Tryz.f5.params.toList args.toList ds p := hA0
  rw [Tryz.params5] at hA hval hsz
  obtain ⟨v0, vs0, d0, ds0, p0, q0, hargs, rfl, rfl, h0, r0⟩ := trodAll_cons hA
  obtain ⟨v1, vs1, d1, ds1, p1, q1, rfl, rfl, rfl, h1, r1⟩ := trodAll_cons r0
  obtain ⟨v2, vs2, d2, ds2, p2, q2, rfl, rfl, rfl, h2, r2⟩ := trodAll_cons r1
  obtain ⟨rfl, rfl, rfl⟩ := trodAll_nil r2
  obtain rfl : args = #[v0, v1, v2] := by cases args; simp_all
  obtain ⟨rfl, rfl⟩ := trodVars_none hV
  have k0 := h0
  have lt0 : ∀ x ∈ p0, x.block < W.heap.size := by obtain ⟨m, hm⟩ := k0; exact DataW.trod_lt m _ _ _ hm
  obtain ⟨a0, len0, cap0, rfl⟩ := okWide_slice Tryz.underlying24 (hval 0 24 v0 rfl rfl)
  obtain ⟨c0, e0, f0⟩ := Go.V.arg_one (k := .sl [.i .i64]) (.sl 24 2 _ Tryz.underlying24 (.i 2 .i64 Tryz.underlying2) (by kernel_rfl) (by decide) (of_decide_eq_true (by kernel_rfl))) rfl h0 (Go.V.weightsEach_get hsz (j := 0) rfl rfl)
  obtain ⟨x0, rfl, l0, g0⟩ := Go.V.fit_ints f0
  obtain ⟨a1, rfl, rfl, rfl, w1⟩ := open_int Tryz.underlying2 (hval 1 2 v1 rfl rfl) h1
  have k2 := h2
  have lt2 : ∀ x ∈ p2, x.block < W.heap.size := by obtain ⟨m, hm⟩ := k2; exact DataW.trod_lt m _ _ _ hm
  obtain ⟨a2, len2, cap2, rfl⟩ := okWide_slice Tryz.underlying22 (hval 2 22 v2 rfl rfl)
  obtain ⟨c2, e2, f2⟩ := Go.V.arg_one (k := .sl [.s]) (.sl 22 9 _ Tryz.underlying22 (.s 9 Tryz.underlying9) (by kernel_rfl) (by decide) (of_decide_eq_true (by kernel_rfl))) rfl h2 (Go.V.weightsEach_get hsz (j := 2) rfl rfl)
  obtain ⟨x2, rfl, l2, g2⟩ := Go.V.fit_T f2
  clear hA0 hval0 hsz0
  refine (Go.V.Fn.law (W := W) (vs := [_, _, _]) (globLe hL) (Go.V.law_costOf x0 a1 x2 (by omega) l2 g2) (.cons e0 (.cons (.d _ _ (.s _)) (.cons e2 .nil)))).mono fun e W' ⟨he, bel⟩ => ?_
  subst he
  exact ⟨_, rfl, _, _, _, [], _, [], hW', trodAll_mk1 (shut_bool Tryz.underlying4 _), (trodAll_cons_mk (Below.trod laidOut (by kernel_rfl) (of_decide_eq_true (by kernel_rfl)) k0 bel lt0) (trodAll_cons_mk (shut_int Tryz.underlying2 w1) (trodAll_cons_mk (Below.trod laidOut (by kernel_rfl) (of_decide_eq_true (by kernel_rfl)) k2 bel lt2) trodAll_mk0))), rfl, bel.frame _, fun h => by cases h⟩
theorem hname : Tryz.pinned.checked.prog.funcNamed Rows.fnExactCostOfRow.func = some 5 := by kernel_rfl
theorem hfunc : Tryz.pinned.checked.prog.funcs[5]? = some Tryz.f5 := Tryz.func5
theorem hin : (Rows.fnExactCostOfRow.inPlace == Tryz.pinned.checked.prog.inPlace 5) = true := by kernel_rfl
theorem hunf : (Rows.fnExactCostOfRow.unfollowed == Tryz.pinned.checked.prog.unfollowed 5) = true := by kernel_rfl
theorem hrec : (Rows.fnExactCostOfRow.recurses == Tryz.pinned.checked.prog.recurses 5) = true := by kernel_rfl
theorem hnam : (Rows.fnExactCostOfRow.named == Tryz.pinned.checked.prog.varsNamed 5) = true := by kernel_rfl
theorem hfacts : joinedFacts Tryz.pinned.checked.prog 5 Tryz.f5 Rows.fnExactCostOfSpec Rows.fnExactCostOfRow = true := by
  unfold joinedFacts
  exact (and2 (and2 (and2 (and2 (and2 (and2 (and2 (and2 (and2 (and2 (and2 (and2 (and2 (and2 (and2 (and2 (and2 (and2 (and2 (and2 (and2 (and2 (and2 (and2 (and2 (and2 (and2 (and2 (and2 (and2 (and2 (by as_aux_lemma => kernel_rfl) laidOut) mapsRowed) (by as_aux_lemma => kernel_rfl)) (by as_aux_lemma => kernel_rfl)) (by as_aux_lemma => kernel_rfl)) noStops) (by as_aux_lemma => kernel_rfl)) noKnobs) hin) hunf) hrec) hnam) (by as_aux_lemma => kernel_rfl)) (by as_aux_lemma => kernel_rfl)) (by as_aux_lemma => kernel_rfl)) (by as_aux_lemma => kernel_rfl)) (by as_aux_lemma => kernel_rfl)) (by as_aux_lemma => kernel_rfl)) (by as_aux_lemma => kernel_rfl)) (by as_aux_lemma => kernel_rfl)) (by as_aux_lemma => kernel_rfl)) (by as_aux_lemma => kernel_rfl)) (by as_aux_lemma => kernel_rfl)) heard) mayEnter) lifted27) (by as_aux_lemma => kernel_rfl)) (by as_aux_lemma => kernel_rfl)) (by as_aux_lemma => kernel_rfl)) (by as_aux_lemma => kernel_rfl)) (by as_aux_lemma => kernel_rfl))
theorem hinst : Tryz.f5.isInstance Tryz.pinned.checked.prog Rows.fnExactCostOfRow.origin Rows.fnExactCostOfRow.targs := of_decide_eq_true (by kernel_rfl)
theorem hwrap : Tryz.f5.isWrapper Tryz.pinned.checked.prog Rows.fnExactCostOfRow.wrapper Rows.fnExactCostOfRow.mainSum := by unfold Func.isWrapper; first | (rw [if_pos (by decide +kernel)]; kernel_rfl) | (rw [if_neg (by decide +kernel)]; exact ⟨rfl, rfl⟩)
theorem over : Rows.FnExactCostOfSaid :=
  OpenClaim.holds_of_wide 5 Tryz.f5 rfl rfl rfl rfl rfl rfl rfl ⟨rfl, rfl, rfl, rfl, rfl⟩ rfl rfl rfl rfl rfl hname hfunc hfacts hinst hwrap
    (fun os started H enc _ => lifted os started H enc)
theorem plain (f : FuncId) (fn : Func) (hf : Tryz.pinned.checked.prog.funcNamed "loop.example/g01211/laws.FnExactCostOf" = some f) (hfn : Tryz.pinned.checked.prog.funcs[f]? = some fn) :
    true = Tryz.pinned.checked.prog.looks [] ∧ ∀ (j : Nat) t, fn.params[j]? = some t → Tryz.pinned.checked.prog.wantsStandIn t = false := by
  obtain rfl : f = 5 := Option.some.inj ((show Tryz.prog.funcNamed "loop.example/g01211/laws.FnExactCostOf" = some 5 by kernel_rfl).symm.trans hf) |>.symm
  obtain rfl : fn = Tryz.f5 := (Option.some.inj (Tryz.func5.symm.trans hfn)).symm
  refine ⟨by kernel_rfl, fun j t ht => ?_⟩
  rw [Tryz.params5] at ht
  have hm : t ∈ [24, 2, 22] := by simpa using Array.mem_of_getElem? ht
  have hall : ([24, 2, 22].all fun u => !Tryz.prog.wantsStandIn u) = true := by kernel_rfl
  exact (show Tryz.prog.wantsStandIn t = false by simpa using List.all_eq_true.1 hall t hm)
theorem hwf : Rows.fnExactCostOfRow.wfByText (OpenSpec.ofChange Rows.fnExactCostOfSpec) = true := by kernel_rfl
theorem hmain : Tryz.pinned.checked.prog.mainIs = some ((Rows.fnExactCostOfCard.stood.harness).1, (Rows.fnExactCostOfCard.stood.harness).2.toList) := by kernel_rfl
theorem hgo : false = Rows.fnExactCostOfRow.goesBy Tryz.pinned.checked.prog := by kernel_rfl
end Go.Proofs.YtojocienmkpfmaaGreatDoor.fnExactCostOf
namespace Go.Proofs.YtojocienmkpfmaaGreatDoor
/-- The card. -/
theorem fnExactCostOf_holds : Rows.FnExactCostOfCardSaid :=
  Claim7.holds_tied_plain_at .later [] _ _ _ _ fnExactCostOf.over (fun _ h => by cases h) fnExactCostOf.hwf (fun _ h => by cases h) fnExactCostOf_row_tie rfl ⟨rfl, rfl⟩ fnExactCostOf.hmain rfl fnExactCostOf.plain fnExactCostOf.hgo
#print axioms fnExactCostOf_holds
end Go.Proofs.YtojocienmkpfmaaGreatDoor

