/- Part 7: the abstract machine, its soundness, contracts of functions. -/
import Derived.Test.YtojocienmkpfmaaGreatDoorK6
/- The reference reads fractions. -/
set_option linter.unusedVariables false
namespace Go.V
open Go.Proofs Go.RowKit
set_option maxRecDepth 10000
set_option maxHeartbeats 1000000

def one2 (neg : Bool) (d : List UInt8) : Option Rat := if ¬ okN d ∨ (neg = true ∧ dv d = 0) then none else some (mkRat (sgn neg (dv d)) 1)
def two2 (neg : Bool) (d g : List UInt8) : Option Rat := if ¬ okN d ∨ (neg = true ∧ dv d = 0) then none else if ¬ okN g ∨ dv g ≤ 1 ∨ (dv d).gcd (dv g) ≠ 1 then none else some (mkRat (sgn neg (dv d)) (dv g))

/-- A fraction from its parts. -/
def parseS (neg : Bool) (ps : List (List UInt8)) : Option Rat := match ps with
  | [d] => one2 neg d
  | [d, g] => two2 neg d g
  | _ => none

theorem pre_nil : Lib.hasPrefix [] [45] = false := rfl
theorem pre_cons (b : UInt8) (r : List UInt8) : Lib.hasPrefix (b :: r) [45] = decide (b = 45) := by
  show (([45] : List UInt8).isPrefixOf (b :: r)) = _
  simp only [List.isPrefixOf, Bool.and_true]
  by_cases h : b = 45
  · subst h; rfl
  · rw [decide_eq_false h]; simpa using fun e : 45 = b => h e.symm

theorem splitB_len {c : UInt8} : ∀ {s : List UInt8}, c ∈ s → 2 ≤ (splitB c s).length
  | b :: r, h => by
    by_cases hb : b = c
    · subst hb
      rw [splitB, if_pos rfl]
      have := List.length_pos_iff.2 (splitB_ne b r)
      rw [List.length_cons]; omega
    · have hr : c ∈ r := by
        rcases List.mem_cons.1 h with e | h
        · exact absurd e.symm hb
        · exact h
      have ih := splitB_len hr
      unfold splitB
      rw [if_neg hb]
      split
      · rename_i p ps e; rw [e] at ih; rw [List.length_cons] at ih ⊢; exact ih
      · rename_i e; rw [e] at ih; simp at ih

theorem rdRat_parse (s : List UInt8) : rdRat s = parseS (Lib.hasPrefix s [45]) (splitB 47 (Lib.trimPrefix s [45])) := by
  rcases indexByte_spec 47 s with ⟨h1, h2⟩ | ⟨p, r, h1, h2, h3⟩
  · have hc : cutB 47 s = (s, [], false) := by rw [cutB, h2]; rfl
    have hd : 47 ∉ Lib.trimPrefix s [45] := by
      unfold Lib.trimPrefix
      split
      · exact fun h => h1 (List.mem_of_mem_drop h)
      · exact h1
    unfold rdRat
    rw [hc, splitB_none hd]
    simp only [parseS, one2, if_true]
  · have hc : cutB 47 s = (p, r, true) := by
      rw [cutB, h3]
      show (s.take p.length, s.drop (p.length + 1), true) = _
      rw [h1]; simp
    have hpre : Lib.hasPrefix s [45] = Lib.hasPrefix p [45] := by
      rw [h1]
      cases p with
      | nil => rw [List.nil_append, pre_cons, pre_nil]; rfl
      | cons b q => rw [List.cons_append, pre_cons, pre_cons]
    have htr : Lib.trimPrefix s [45] = Lib.trimPrefix p [45] ++ 47 :: r := by
      unfold Lib.trimPrefix
      rw [hpre, h1]
      split
      · rename_i hp
        cases p with
        | nil => cases hp
        | cons b q => rfl
      · rfl
    have hd : 47 ∉ Lib.trimPrefix p [45] := by
      unfold Lib.trimPrefix
      split
      · exact fun h => h2 (List.mem_of_mem_drop h)
      · exact h2
    unfold rdRat
    rw [hc, htr, splitB_at hd, hpre]
    simp only [Bool.true_eq_false, if_false, reduceCtorEq]
    by_cases hr : 47 ∈ r
    · have hno : ¬ okN r := fun h => by
        have := (h.dig 47 hr).1
        exact absurd this (by decide)
      have hl := splitB_len hr
      rw [if_pos (.inl hno : ¬ okN r ∨ _)]
      cases hs : splitB 47 r with
      | nil => rw [hs] at hl; simp at hl
      | cons x xs =>
        cases xs with
        | nil => rw [hs] at hl; simp at hl
        | cons y ys => simp [parseS]
    · rw [splitB_none hr]
      simp only [parseS, two2]

/-- A fraction or none, as data, in the reference. -/
def rOS : Option Rat → AV
  | some q => rS q
  | none => .ag [B false, nS 0, nS 0]

theorem splitB_sum (c : UInt8) : ∀ (s : List UInt8) (x : List UInt8), x ∈ splitB c s → x.length ≤ s.length
  | [], x, h => by simp [splitB] at h; simp [h]
  | b :: r, x, h => by
    unfold splitB at h
    split at h
    · rcases List.mem_cons.1 h with rfl | h
      · simp
      · have := splitB_sum c r x h; rw [List.length_cons]; omega
    · split at h
      · rename_i p ps e
        rcases List.mem_cons.1 h with rfl | h
        · have := splitB_sum c r p (by rw [e]; simp)
          rw [List.length_cons, List.length_cons]; omega
        · have := splitB_sum c r x (by rw [e]; simp [h])
          rw [List.length_cons]; omega
      · simp at h; subst h; simp

theorem fn_sParse (s : List UInt8) (hs : s.length ≤ 1000000000) : Fn Tryz.prog 136 [Str s] [] (.tup [rOS (rdRat s), B (rdRat s).isSome]) [] := by
  rw [rdRat_parse]
  cases s with
  | nil =>
    rw [show Lib.trimPrefix [] [45] = [] from rfl, pre_nil]
    have hl' : ([] : List UInt8).length ≤ 1000000000 := by simp
    refine Fn.intro (ks := [0,2,3,4,5,6,7,15,16,30,41,45,54,71]) hty rfl rfl rfl rfl rfl ?_
    conv => whnf
    have csp := fn_sCut [] 47 hl'
    have hsum := splitB_sum 47 []
    have hne := splitB_ne 47 []
    refine VCall.of_data csp (nd _) ?_
    generalize splitB 47 [] = ps at hsum hne
    rcases ps with _ | ⟨d, _ | ⟨g, _ | ⟨e, q⟩⟩⟩
    · exact absurd rfl hne
    · have hdl := hsum d (by simp)
      have hln : ((cT [d]).length : Int) = 1 := rfl
      have cd1 := fn_sDigits d (by omega)
      by_cases hd : okN d
      · rw [decide_eq_true hd] at cd1
        have cd2 := fn_sNatRead d (by omega) hd.dig
        have hbd := hd.bl
        have hld : ((cW .i64 (dg B9 (dv d))).length : Int) = (dg B9 (dv d)).length := by rw [cW_len]
        have hzd := dg_len_zero b9 (n := dv d)
        conv => whnf
        refine ⟨⟨⟨by omega, by omega⟩, cT_sz _⟩, ?_⟩
        conv => whnf
        refine ⟨[.s (.string ⟨d.toArray⟩)], rfl, ?_⟩
        conv => whnf
        refine VCall.of_data cd1 (nd _) ?_
        conv => whnf
        refine ⟨⟨⟨by omega, by omega⟩, cT_sz _⟩, ?_⟩
        conv => whnf
        refine ⟨[.s (.string ⟨d.toArray⟩)], rfl, ?_⟩
        conv => whnf
        refine VCall.of_data cd2 (nd _) ?_
        conv => whnf
        have hs0 : dv d = 0 → false = false := fun _ => rfl
        have hno : ¬ (¬ okN d ∨ false = true ∧ dv d = 0) := by rintro (h | ⟨h, _⟩); exact h hd; cases h
        obtain ⟨p1, p2, p3⟩ := parts_of (s := false) (t := dv d) (b := 1) (by decide) (Nat.gcd_one_right _) hs0
        rw [show parseS false [d] = some (mkRat (sgn false (dv d)) 1) by show one2 _ _ = _; rw [one2, if_neg hno]]
        rw [show rOS (some (mkRat (sgn false (dv d)) 1)) = .ag [B false, nS (dv d), nS 1] by rw [rOS, rS, p1, p2, p3]]
        conv => whnf
        exact ⟨rfl, rfl, ⟨rfl, Nat.le_refl _, rfl⟩, rfl, trivial, rfl⟩
      · rw [decide_eq_false hd] at cd1
        rw [show parseS false [d] = none by show one2 _ _ = _; rw [one2, if_pos (.inl hd)]]
        conv => whnf
        refine ⟨⟨⟨by omega, by omega⟩, cT_sz _⟩, ?_⟩
        conv => whnf
        refine ⟨[.s (.string ⟨d.toArray⟩)], rfl, ?_⟩
        conv => whnf
        refine VCall.of_data cd1 (nd _) ?_
        conv => whnf
        exact ⟨rfl, rfl, trivial, rfl⟩
    · have hdl := hsum d (by simp)
      have hln : ((cT [d, g]).length : Int) = 2 := rfl
      have cd1 := fn_sDigits d (by omega)
      by_cases hd : okN d
      · rw [decide_eq_true hd] at cd1
        have cd2 := fn_sNatRead d (by omega) hd.dig
        have hbd := hd.bl
        have hld : ((cW .i64 (dg B9 (dv d))).length : Int) = (dg B9 (dv d)).length := by rw [cW_len]
        have hzd := dg_len_zero b9 (n := dv d)
        conv => whnf
        refine ⟨⟨⟨by omega, by omega⟩, cT_sz _⟩, ?_⟩
        conv => whnf
        refine ⟨[.s (.string ⟨d.toArray⟩)], rfl, ?_⟩
        conv => whnf
        refine VCall.of_data cd1 (nd _) ?_
        conv => whnf
        refine ⟨⟨⟨by omega, by omega⟩, cT_sz _⟩, ?_⟩
        conv => whnf
        refine ⟨[.s (.string ⟨d.toArray⟩)], rfl, ?_⟩
        conv => whnf
        refine VCall.of_data cd2 (nd _) ?_
        conv => whnf
        have hs0 : dv d = 0 → false = false := fun _ => rfl
        have hno : ¬ (¬ okN d ∨ false = true ∧ dv d = 0) := by rintro (h | ⟨h, _⟩); exact h hd; cases h
        have hgl := hsum g (by simp)
        have cg1 := fn_sDigits g (by omega)
        conv => whnf
        refine ⟨⟨⟨by omega, by omega⟩, cT_sz _⟩, ?_⟩
        conv => whnf
        refine ⟨[.s (.string ⟨g.toArray⟩)], rfl, ?_⟩
        by_cases hg : okN g
        · have hbg := hg.bl
          rw [decide_eq_true hg] at cg1
          have cg2 := fn_sNatRead g (by omega) hg.dig
          have cc := fn_sCmp (dv g) 1 (by omega) (by decide)
          conv => whnf
          refine VCall.of_data cg1 (nd _) ?_
          conv => whnf
          refine ⟨⟨⟨by omega, by omega⟩, cT_sz _⟩, ?_⟩
          conv => whnf
          refine ⟨[.s (.string ⟨g.toArray⟩)], rfl, ?_⟩
          conv => whnf
          refine VCall.of_data cg2 (nd _) ?_
          conv => whnf
          refine VCall.frz 61 cc rfl ⟨rfl, ⟨rfl, rfl, Nat.le_refl _, rfl⟩, trivial⟩ (nd _) ?_
          conv => whnf
          refine Br.mk (fun h7 => ?_) (fun h7 => ?_)
          · have h7 : dv g ≤ 1 := by
              simp only [decide_eq_true_eq] at h7
              have := cmpZ_pos' (a := dv g) (b := 1)
              omega
            rw [show parseS false [d, g] = none by show two2 _ _ _ = _; rw [two2, if_neg hno, if_pos (.inr (.inl h7))]]
            conv => whnf
            exact ⟨rfl, rfl, trivial, rfl⟩
          · have h7 : ¬ dv g ≤ 1 := by
              simp only [decide_eq_false_iff_not] at h7
              have := cmpZ_pos' (a := dv g) (b := 1)
              omega
            have cgc := fn_sGcd (dv d) (dv g) (by omega) (by omega)
            have hbgc : bl ((dv d).gcd (dv g)) ≤ 800 := Nat.le_trans (bl_mono (Nat.gcd_le_right _ (by omega))) hbg
            have cc2 := fn_sCmp ((dv d).gcd (dv g)) 1 (by omega) (by decide)
            conv => whnf
            refine VCall.of_data cgc (nd _) ?_
            conv => whnf
            refine VCall.frz 68 cc2 rfl ⟨rfl, ⟨rfl, rfl, Nat.le_refl _, rfl⟩, trivial⟩ (nd _) ?_
            conv => whnf
            refine Br.mk (fun h8 => ?_) (fun h8 => ?_)
            · have h8 : (dv d).gcd (dv g) ≠ 1 := fun e => by rw [cmpZ_zero.2 e] at h8; exact absurd h8 (by decide)
              rw [show parseS false [d, g] = none by show two2 _ _ _ = _; rw [two2, if_neg hno, if_pos (.inr (.inr h8))]]
              conv => whnf
              exact ⟨rfl, rfl, trivial, rfl⟩
            · have h8 : (dv d).gcd (dv g) = 1 := cmpZ_zero.1 (by simpa using h8)
              obtain ⟨p1, p2, p3⟩ := parts_of (s := false) (t := dv d) (b := dv g) (by omega) h8 hs0
              rw [show parseS false [d, g] = some (mkRat (sgn false (dv d)) (dv g)) by
                show two2 _ _ _ = _
                rw [two2, if_neg hno, if_neg (by rintro (h9 | h9 | h9); exact h9 hg; exact h7 h9; exact h9 h8)]]
              rw [show rOS (some (mkRat (sgn false (dv d)) (dv g))) = .ag [B false, nS (dv d), nS (dv g)] by rw [rOS, rS, p1, p2, p3]]
              conv => whnf
              exact ⟨rfl, rfl, rfl, rfl, trivial, rfl⟩
        · rw [decide_eq_false hg] at cg1
          rw [show parseS false [d, g] = none by show two2 _ _ _ = _; rw [two2, if_neg hno, if_pos (.inl hg)]]
          conv => whnf
          refine VCall.of_data cg1 (nd _) ?_
          conv => whnf
          exact ⟨rfl, rfl, trivial, rfl⟩
      · rw [decide_eq_false hd] at cd1
        rw [show parseS false [d, g] = none by show two2 _ _ _ = _; rw [two2, if_pos (.inl hd)]]
        conv => whnf
        refine ⟨⟨⟨by omega, by omega⟩, cT_sz _⟩, ?_⟩
        conv => whnf
        refine ⟨[.s (.string ⟨d.toArray⟩)], rfl, ?_⟩
        conv => whnf
        refine VCall.of_data cd1 (nd _) ?_
        conv => whnf
        exact ⟨rfl, rfl, trivial, rfl⟩
    · have hln : ((cT (d :: g :: e :: q)).length : Int) = q.length + 3 := by rw [cT_len, List.length_cons, List.length_cons, List.length_cons]; omega
      rw [show parseS false (d :: g :: e :: q) = none from rfl]
      conv => whnf
      refine Br.mk (fun h9 => ?_) (fun h9 => ?_)
      · conv => whnf
        exact ⟨rfl, rfl, trivial, rfl⟩
      · simp only [decide_eq_false_iff_not] at h9; omega
  | cons b r =>
    have hbz : (⟨(b :: r).toArray⟩ : ByteArray).size = r.length + 1 := by rw [bsize]; rfl
    refine Fn.intro (ks := [0,2,3,4,5,6,7,15,16,30,41,45,54,71]) hty rfl rfl rfl rfl rfl ?_
    conv => whnf
    refine Br.mk (fun h => ?_) (fun h => ?_)
    · conv => whnf
      refine ⟨⟨by omega, by rw [hbz]; omega⟩, ?_⟩
      conv => whnf
      refine Br.mk (fun h2 => ?_) (fun h2 => ?_)
      · have hB := h2
        have h2 : b = 45 := by
          have h3 : ((b.toNat : Nat) : Int) = 45 := by simp only [decide_eq_true_eq] at h2; exact h2
          exact uint8_ext (by show b.toNat = 45; omega)
        rw [show Lib.trimPrefix (b :: r) [45] = r by rw [h2]; rfl, pre_cons, decide_eq_true h2]
        have hl' : r.length ≤ 1000000000 := by rw [List.length_cons] at hs; omega
        conv => whnf
        refine ⟨⟨by omega, by rw [hbz]; omega, by omega⟩, ?_⟩
        rw [hB, bx, show ((b :: r).take (((⟨(b :: r).toArray⟩ : ByteArray).size : Int).toNat)).drop (1 : Int).toNat = r by
          rw [hbz, show (((r.length + 1 : Nat) : Int)).toNat = r.length + 1 from rfl]
          show (b :: r.take r.length).drop 1 = r
          rw [List.take_length]; rfl]
        conv => whnf
        have csp := fn_sCut r 47 hl'
        have hsum := splitB_sum 47 r
        have hne := splitB_ne 47 r
        refine VCall.of_data csp (nd _) ?_
        generalize splitB 47 r = ps at hsum hne
        rcases ps with _ | ⟨d, _ | ⟨g, _ | ⟨e, q⟩⟩⟩
        · exact absurd rfl hne
        · have hdl := hsum d (by simp)
          have hln : ((cT [d]).length : Int) = 1 := rfl
          have cd1 := fn_sDigits d (by omega)
          by_cases hd : okN d
          · rw [decide_eq_true hd] at cd1
            have cd2 := fn_sNatRead d (by omega) hd.dig
            have hbd := hd.bl
            have hld : ((cW .i64 (dg B9 (dv d))).length : Int) = (dg B9 (dv d)).length := by rw [cW_len]
            have hzd := dg_len_zero b9 (n := dv d)
            conv => whnf
            refine ⟨⟨⟨by omega, by omega⟩, cT_sz _⟩, ?_⟩
            conv => whnf
            refine ⟨[.s (.string ⟨d.toArray⟩)], rfl, ?_⟩
            conv => whnf
            refine VCall.of_data cd1 (nd _) ?_
            conv => whnf
            refine ⟨⟨⟨by omega, by omega⟩, cT_sz _⟩, ?_⟩
            conv => whnf
            refine ⟨[.s (.string ⟨d.toArray⟩)], rfl, ?_⟩
            conv => whnf
            refine VCall.of_data cd2 (nd _) ?_
            conv => whnf
            refine Br.mk (fun h => ?_) (fun h => ?_)
            · have h0 : dv d = 0 := by simp only [decide_eq_true_eq] at h; exact hzd.1 (by omega)
              rw [show parseS true [d] = none by first | (show one2 _ _ = _; rw [one2, if_pos (.inr ⟨rfl, h0⟩)]) | (show two2 _ _ _ = _; rw [two2, if_pos (.inr ⟨rfl, h0⟩)])]
              conv => whnf
              exact ⟨rfl, rfl, trivial, rfl⟩
            · have h0 : dv d ≠ 0 := fun e => by simp only [decide_eq_false_iff_not] at h; have := hzd.2 e; omega
              have hs0 : dv d = 0 → true = false := fun e => absurd e h0
              have hno : ¬ (¬ okN d ∨ true = true ∧ dv d = 0) := by rintro (h | ⟨_, h⟩); exact h hd; exact h0 h
              obtain ⟨p1, p2, p3⟩ := parts_of (s := true) (t := dv d) (b := 1) (by decide) (Nat.gcd_one_right _) hs0
              rw [show parseS true [d] = some (mkRat (sgn true (dv d)) 1) by show one2 _ _ = _; rw [one2, if_neg hno]]
              rw [show rOS (some (mkRat (sgn true (dv d)) 1)) = .ag [B true, nS (dv d), nS 1] by rw [rOS, rS, p1, p2, p3]]
              conv => whnf
              exact ⟨rfl, rfl, ⟨rfl, Nat.le_refl _, rfl⟩, rfl, trivial, rfl⟩
          · rw [decide_eq_false hd] at cd1
            rw [show parseS true [d] = none by show one2 _ _ = _; rw [one2, if_pos (.inl hd)]]
            conv => whnf
            refine ⟨⟨⟨by omega, by omega⟩, cT_sz _⟩, ?_⟩
            conv => whnf
            refine ⟨[.s (.string ⟨d.toArray⟩)], rfl, ?_⟩
            conv => whnf
            refine VCall.of_data cd1 (nd _) ?_
            conv => whnf
            exact ⟨rfl, rfl, trivial, rfl⟩
        · have hdl := hsum d (by simp)
          have hln : ((cT [d, g]).length : Int) = 2 := rfl
          have cd1 := fn_sDigits d (by omega)
          by_cases hd : okN d
          · rw [decide_eq_true hd] at cd1
            have cd2 := fn_sNatRead d (by omega) hd.dig
            have hbd := hd.bl
            have hld : ((cW .i64 (dg B9 (dv d))).length : Int) = (dg B9 (dv d)).length := by rw [cW_len]
            have hzd := dg_len_zero b9 (n := dv d)
            conv => whnf
            refine ⟨⟨⟨by omega, by omega⟩, cT_sz _⟩, ?_⟩
            conv => whnf
            refine ⟨[.s (.string ⟨d.toArray⟩)], rfl, ?_⟩
            conv => whnf
            refine VCall.of_data cd1 (nd _) ?_
            conv => whnf
            refine ⟨⟨⟨by omega, by omega⟩, cT_sz _⟩, ?_⟩
            conv => whnf
            refine ⟨[.s (.string ⟨d.toArray⟩)], rfl, ?_⟩
            conv => whnf
            refine VCall.of_data cd2 (nd _) ?_
            conv => whnf
            refine Br.mk (fun h => ?_) (fun h => ?_)
            · have h0 : dv d = 0 := by simp only [decide_eq_true_eq] at h; exact hzd.1 (by omega)
              rw [show parseS true [d, g] = none by first | (show one2 _ _ = _; rw [one2, if_pos (.inr ⟨rfl, h0⟩)]) | (show two2 _ _ _ = _; rw [two2, if_pos (.inr ⟨rfl, h0⟩)])]
              conv => whnf
              exact ⟨rfl, rfl, trivial, rfl⟩
            · have h0 : dv d ≠ 0 := fun e => by simp only [decide_eq_false_iff_not] at h; have := hzd.2 e; omega
              have hs0 : dv d = 0 → true = false := fun e => absurd e h0
              have hno : ¬ (¬ okN d ∨ true = true ∧ dv d = 0) := by rintro (h | ⟨_, h⟩); exact h hd; exact h0 h
              have hgl := hsum g (by simp)
              have cg1 := fn_sDigits g (by omega)
              conv => whnf
              refine ⟨⟨⟨by omega, by omega⟩, cT_sz _⟩, ?_⟩
              conv => whnf
              refine ⟨[.s (.string ⟨g.toArray⟩)], rfl, ?_⟩
              by_cases hg : okN g
              · have hbg := hg.bl
                rw [decide_eq_true hg] at cg1
                have cg2 := fn_sNatRead g (by omega) hg.dig
                have cc := fn_sCmp (dv g) 1 (by omega) (by decide)
                conv => whnf
                refine VCall.of_data cg1 (nd _) ?_
                conv => whnf
                refine ⟨⟨⟨by omega, by omega⟩, cT_sz _⟩, ?_⟩
                conv => whnf
                refine ⟨[.s (.string ⟨g.toArray⟩)], rfl, ?_⟩
                conv => whnf
                refine VCall.of_data cg2 (nd _) ?_
                conv => whnf
                refine VCall.frz 61 cc rfl ⟨rfl, ⟨rfl, rfl, Nat.le_refl _, rfl⟩, trivial⟩ (nd _) ?_
                conv => whnf
                refine Br.mk (fun h7 => ?_) (fun h7 => ?_)
                · have h7 : dv g ≤ 1 := by
                    simp only [decide_eq_true_eq] at h7
                    have := cmpZ_pos' (a := dv g) (b := 1)
                    omega
                  rw [show parseS true [d, g] = none by show two2 _ _ _ = _; rw [two2, if_neg hno, if_pos (.inr (.inl h7))]]
                  conv => whnf
                  exact ⟨rfl, rfl, trivial, rfl⟩
                · have h7 : ¬ dv g ≤ 1 := by
                    simp only [decide_eq_false_iff_not] at h7
                    have := cmpZ_pos' (a := dv g) (b := 1)
                    omega
                  have cgc := fn_sGcd (dv d) (dv g) (by omega) (by omega)
                  have hbgc : bl ((dv d).gcd (dv g)) ≤ 800 := Nat.le_trans (bl_mono (Nat.gcd_le_right _ (by omega))) hbg
                  have cc2 := fn_sCmp ((dv d).gcd (dv g)) 1 (by omega) (by decide)
                  conv => whnf
                  refine VCall.of_data cgc (nd _) ?_
                  conv => whnf
                  refine VCall.frz 68 cc2 rfl ⟨rfl, ⟨rfl, rfl, Nat.le_refl _, rfl⟩, trivial⟩ (nd _) ?_
                  conv => whnf
                  refine Br.mk (fun h8 => ?_) (fun h8 => ?_)
                  · have h8 : (dv d).gcd (dv g) ≠ 1 := fun e => by rw [cmpZ_zero.2 e] at h8; exact absurd h8 (by decide)
                    rw [show parseS true [d, g] = none by show two2 _ _ _ = _; rw [two2, if_neg hno, if_pos (.inr (.inr h8))]]
                    conv => whnf
                    exact ⟨rfl, rfl, trivial, rfl⟩
                  · have h8 : (dv d).gcd (dv g) = 1 := cmpZ_zero.1 (by simpa using h8)
                    obtain ⟨p1, p2, p3⟩ := parts_of (s := true) (t := dv d) (b := dv g) (by omega) h8 hs0
                    rw [show parseS true [d, g] = some (mkRat (sgn true (dv d)) (dv g)) by
                      show two2 _ _ _ = _
                      rw [two2, if_neg hno, if_neg (by rintro (h9 | h9 | h9); exact h9 hg; exact h7 h9; exact h9 h8)]]
                    rw [show rOS (some (mkRat (sgn true (dv d)) (dv g))) = .ag [B true, nS (dv d), nS (dv g)] by rw [rOS, rS, p1, p2, p3]]
                    conv => whnf
                    exact ⟨rfl, rfl, rfl, rfl, trivial, rfl⟩
              · rw [decide_eq_false hg] at cg1
                rw [show parseS true [d, g] = none by show two2 _ _ _ = _; rw [two2, if_neg hno, if_pos (.inl hg)]]
                conv => whnf
                refine VCall.of_data cg1 (nd _) ?_
                conv => whnf
                exact ⟨rfl, rfl, trivial, rfl⟩
          · rw [decide_eq_false hd] at cd1
            rw [show parseS true [d, g] = none by show two2 _ _ _ = _; rw [two2, if_pos (.inl hd)]]
            conv => whnf
            refine ⟨⟨⟨by omega, by omega⟩, cT_sz _⟩, ?_⟩
            conv => whnf
            refine ⟨[.s (.string ⟨d.toArray⟩)], rfl, ?_⟩
            conv => whnf
            refine VCall.of_data cd1 (nd _) ?_
            conv => whnf
            exact ⟨rfl, rfl, trivial, rfl⟩
        · have hln : ((cT (d :: g :: e :: q)).length : Int) = q.length + 3 := by rw [cT_len, List.length_cons, List.length_cons, List.length_cons]; omega
          rw [show parseS true (d :: g :: e :: q) = none from rfl]
          conv => whnf
          refine Br.mk (fun h9 => ?_) (fun h9 => ?_)
          · conv => whnf
            exact ⟨rfl, rfl, trivial, rfl⟩
          · simp only [decide_eq_false_iff_not] at h9; omega
      · have hB := h2
        have h2 : b ≠ 45 := fun e => by
          have h3 : ¬ ((b.toNat : Nat) : Int) = 45 := by simp only [decide_eq_false_iff_not] at h2; exact h2
          rw [e] at h3; exact h3 rfl
        rw [show Lib.trimPrefix (b :: r) [45] = b :: r by unfold Lib.trimPrefix; rw [pre_cons, decide_eq_false h2]; rfl, pre_cons, decide_eq_false h2]
        have hl' : (b :: r).length ≤ 1000000000 := hs
        conv => whnf
        rw [hB]
        have csp := fn_sCut (b :: r) 47 hl'
        have hsum := splitB_sum 47 (b :: r)
        have hne := splitB_ne 47 (b :: r)
        refine VCall.of_data csp (nd _) ?_
        generalize splitB 47 (b :: r) = ps at hsum hne
        rcases ps with _ | ⟨d, _ | ⟨g, _ | ⟨e, q⟩⟩⟩
        · exact absurd rfl hne
        · have hdl := hsum d (by simp)
          have hln : ((cT [d]).length : Int) = 1 := rfl
          have cd1 := fn_sDigits d (by omega)
          by_cases hd : okN d
          · rw [decide_eq_true hd] at cd1
            have cd2 := fn_sNatRead d (by omega) hd.dig
            have hbd := hd.bl
            have hld : ((cW .i64 (dg B9 (dv d))).length : Int) = (dg B9 (dv d)).length := by rw [cW_len]
            have hzd := dg_len_zero b9 (n := dv d)
            conv => whnf
            refine ⟨⟨⟨by omega, by omega⟩, cT_sz _⟩, ?_⟩
            conv => whnf
            refine ⟨[.s (.string ⟨d.toArray⟩)], rfl, ?_⟩
            conv => whnf
            refine VCall.of_data cd1 (nd _) ?_
            conv => whnf
            refine ⟨⟨⟨by omega, by omega⟩, cT_sz _⟩, ?_⟩
            conv => whnf
            refine ⟨[.s (.string ⟨d.toArray⟩)], rfl, ?_⟩
            conv => whnf
            refine VCall.of_data cd2 (nd _) ?_
            conv => whnf
            have hs0 : dv d = 0 → false = false := fun _ => rfl
            have hno : ¬ (¬ okN d ∨ false = true ∧ dv d = 0) := by rintro (h | ⟨h, _⟩); exact h hd; cases h
            obtain ⟨p1, p2, p3⟩ := parts_of (s := false) (t := dv d) (b := 1) (by decide) (Nat.gcd_one_right _) hs0
            rw [show parseS false [d] = some (mkRat (sgn false (dv d)) 1) by show one2 _ _ = _; rw [one2, if_neg hno]]
            rw [show rOS (some (mkRat (sgn false (dv d)) 1)) = .ag [B false, nS (dv d), nS 1] by rw [rOS, rS, p1, p2, p3]]
            conv => whnf
            exact ⟨rfl, rfl, ⟨rfl, Nat.le_refl _, rfl⟩, rfl, trivial, rfl⟩
          · rw [decide_eq_false hd] at cd1
            rw [show parseS false [d] = none by show one2 _ _ = _; rw [one2, if_pos (.inl hd)]]
            conv => whnf
            refine ⟨⟨⟨by omega, by omega⟩, cT_sz _⟩, ?_⟩
            conv => whnf
            refine ⟨[.s (.string ⟨d.toArray⟩)], rfl, ?_⟩
            conv => whnf
            refine VCall.of_data cd1 (nd _) ?_
            conv => whnf
            exact ⟨rfl, rfl, trivial, rfl⟩
        · have hdl := hsum d (by simp)
          have hln : ((cT [d, g]).length : Int) = 2 := rfl
          have cd1 := fn_sDigits d (by omega)
          by_cases hd : okN d
          · rw [decide_eq_true hd] at cd1
            have cd2 := fn_sNatRead d (by omega) hd.dig
            have hbd := hd.bl
            have hld : ((cW .i64 (dg B9 (dv d))).length : Int) = (dg B9 (dv d)).length := by rw [cW_len]
            have hzd := dg_len_zero b9 (n := dv d)
            conv => whnf
            refine ⟨⟨⟨by omega, by omega⟩, cT_sz _⟩, ?_⟩
            conv => whnf
            refine ⟨[.s (.string ⟨d.toArray⟩)], rfl, ?_⟩
            conv => whnf
            refine VCall.of_data cd1 (nd _) ?_
            conv => whnf
            refine ⟨⟨⟨by omega, by omega⟩, cT_sz _⟩, ?_⟩
            conv => whnf
            refine ⟨[.s (.string ⟨d.toArray⟩)], rfl, ?_⟩
            conv => whnf
            refine VCall.of_data cd2 (nd _) ?_
            conv => whnf
            have hs0 : dv d = 0 → false = false := fun _ => rfl
            have hno : ¬ (¬ okN d ∨ false = true ∧ dv d = 0) := by rintro (h | ⟨h, _⟩); exact h hd; cases h
            have hgl := hsum g (by simp)
            have cg1 := fn_sDigits g (by omega)
            conv => whnf
            refine ⟨⟨⟨by omega, by omega⟩, cT_sz _⟩, ?_⟩
            conv => whnf
            refine ⟨[.s (.string ⟨g.toArray⟩)], rfl, ?_⟩
            by_cases hg : okN g
            · have hbg := hg.bl
              rw [decide_eq_true hg] at cg1
              have cg2 := fn_sNatRead g (by omega) hg.dig
              have cc := fn_sCmp (dv g) 1 (by omega) (by decide)
              conv => whnf
              refine VCall.of_data cg1 (nd _) ?_
              conv => whnf
              refine ⟨⟨⟨by omega, by omega⟩, cT_sz _⟩, ?_⟩
              conv => whnf
              refine ⟨[.s (.string ⟨g.toArray⟩)], rfl, ?_⟩
              conv => whnf
              refine VCall.of_data cg2 (nd _) ?_
              conv => whnf
              refine VCall.frz 61 cc rfl ⟨rfl, ⟨rfl, rfl, Nat.le_refl _, rfl⟩, trivial⟩ (nd _) ?_
              conv => whnf
              refine Br.mk (fun h7 => ?_) (fun h7 => ?_)
              · have h7 : dv g ≤ 1 := by
                  simp only [decide_eq_true_eq] at h7
                  have := cmpZ_pos' (a := dv g) (b := 1)
                  omega
                rw [show parseS false [d, g] = none by show two2 _ _ _ = _; rw [two2, if_neg hno, if_pos (.inr (.inl h7))]]
                conv => whnf
                exact ⟨rfl, rfl, trivial, rfl⟩
              · have h7 : ¬ dv g ≤ 1 := by
                  simp only [decide_eq_false_iff_not] at h7
                  have := cmpZ_pos' (a := dv g) (b := 1)
                  omega
                have cgc := fn_sGcd (dv d) (dv g) (by omega) (by omega)
                have hbgc : bl ((dv d).gcd (dv g)) ≤ 800 := Nat.le_trans (bl_mono (Nat.gcd_le_right _ (by omega))) hbg
                have cc2 := fn_sCmp ((dv d).gcd (dv g)) 1 (by omega) (by decide)
                conv => whnf
                refine VCall.of_data cgc (nd _) ?_
                conv => whnf
                refine VCall.frz 68 cc2 rfl ⟨rfl, ⟨rfl, rfl, Nat.le_refl _, rfl⟩, trivial⟩ (nd _) ?_
                conv => whnf
                refine Br.mk (fun h8 => ?_) (fun h8 => ?_)
                · have h8 : (dv d).gcd (dv g) ≠ 1 := fun e => by rw [cmpZ_zero.2 e] at h8; exact absurd h8 (by decide)
                  rw [show parseS false [d, g] = none by show two2 _ _ _ = _; rw [two2, if_neg hno, if_pos (.inr (.inr h8))]]
                  conv => whnf
                  exact ⟨rfl, rfl, trivial, rfl⟩
                · have h8 : (dv d).gcd (dv g) = 1 := cmpZ_zero.1 (by simpa using h8)
                  obtain ⟨p1, p2, p3⟩ := parts_of (s := false) (t := dv d) (b := dv g) (by omega) h8 hs0
                  rw [show parseS false [d, g] = some (mkRat (sgn false (dv d)) (dv g)) by
                    show two2 _ _ _ = _
                    rw [two2, if_neg hno, if_neg (by rintro (h9 | h9 | h9); exact h9 hg; exact h7 h9; exact h9 h8)]]
                  rw [show rOS (some (mkRat (sgn false (dv d)) (dv g))) = .ag [B false, nS (dv d), nS (dv g)] by rw [rOS, rS, p1, p2, p3]]
                  conv => whnf
                  exact ⟨rfl, rfl, rfl, rfl, trivial, rfl⟩
            · rw [decide_eq_false hg] at cg1
              rw [show parseS false [d, g] = none by show two2 _ _ _ = _; rw [two2, if_neg hno, if_pos (.inl hg)]]
              conv => whnf
              refine VCall.of_data cg1 (nd _) ?_
              conv => whnf
              exact ⟨rfl, rfl, trivial, rfl⟩
          · rw [decide_eq_false hd] at cd1
            rw [show parseS false [d, g] = none by show two2 _ _ _ = _; rw [two2, if_pos (.inl hd)]]
            conv => whnf
            refine ⟨⟨⟨by omega, by omega⟩, cT_sz _⟩, ?_⟩
            conv => whnf
            refine ⟨[.s (.string ⟨d.toArray⟩)], rfl, ?_⟩
            conv => whnf
            refine VCall.of_data cd1 (nd _) ?_
            conv => whnf
            exact ⟨rfl, rfl, trivial, rfl⟩
        · have hln : ((cT (d :: g :: e :: q)).length : Int) = q.length + 3 := by rw [cT_len, List.length_cons, List.length_cons, List.length_cons]; omega
          rw [show parseS false (d :: g :: e :: q) = none from rfl]
          conv => whnf
          refine Br.mk (fun h9 => ?_) (fun h9 => ?_)
          · conv => whnf
            exact ⟨rfl, rfl, trivial, rfl⟩
          · simp only [decide_eq_false_iff_not] at h9; omega
    · rw [hbz] at h; simp only [decide_eq_false_iff_not] at h; omega

end Go.V
/- The reference: lists of fractions, losses, servers. -/
namespace Go.V
open Go.Proofs Go.RowKit
set_option maxRecDepth 10000
set_option maxHeartbeats 1000000

theorem fn_sList (xs : List (List UInt8)) (hl : xs.length ≤ 1000000000000) (hs : ∀ x, x ∈ xs → x.length ≤ 1000000000) : Fn Tryz.prog 82 [lT xs] [] (.tup [lS ((rdRats xs).getD []), B (rdRats xs).isSome]) [] := by
  have hl2 : ((cT xs).length : Int) = xs.length := by rw [cT_len]
  refine Fn.intro (ks := [0,2,3,4,5,6,7,10,13,14,15,26]) hty rfl rfl rfl rfl rfl ?_
  conv => whnf
  refine Br.mk (fun h => ?_) (fun h => ?_)
  · have h : 300 < xs.length := by simp only [decide_eq_true_eq] at h; omega
    rw [rdRats, if_pos h]
    conv => whnf
    exact ⟨rfl, trivial, rfl⟩
  · have h : ¬ 300 < xs.length := by simp only [decide_eq_false_iff_not] at h; omega
    rw [rdRats, if_neg h]
    conv => whnf
    refine VLoop.ren 11 30 rfl ?_
    refine VLoop.inv hty (S := List Rat) (fun s => [(14, I s.length), (13, I xs.length), (4, .ls 30 0 s.length 3), (0, lT xs)]) (fun s => [(30, .row true 3 (cS s))]) (fun s => s.length ≤ xs.length ∧ allO rdRat (xs.take s.length) = some s) (fun s => xs.length - s.length) [] ⟨Nat.zero_le _, rfl⟩
      ⟨rfl, by show AV.d (.s (.int .i64 ((cT xs).length : Int))) = _; rw [cT_len], rfl, rfl, trivial⟩ ⟨rfl, trivial⟩ ?_
    rintro s ⟨hi, hq⟩
    obtain ⟨i, ei⟩ : ∃ i, s.length = i := ⟨_, rfl⟩
    rw [ei] at hi hq
    rw [ei]
    conv => whnf
    refine Br.mk (fun h2 => ?_) (fun h2 => ?_)
    · have h2 : i < xs.length := by simp only [decide_eq_true_eq] at h2; omega
      obtain ⟨x, ex⟩ : ∃ x, xs.getD i [] = x := ⟨_, rfl⟩
      have hxm : x ∈ xs := by rw [← ex, List.getD_eq_getElem?_getD, List.getElem?_eq_getElem h2]; exact List.getElem_mem h2
      have et : xs.take (i + 1) = xs.take i ++ [x] := by rw [List.take_succ_eq_append_getElem h2]; subst ex; rw [List.getD_eq_getElem?_getD, List.getElem?_eq_getElem h2]; rfl
      have cr := fn_sParse x (hs x hxm)
      conv => whnf
      refine ⟨⟨⟨by omega, by omega⟩, cT_sz _⟩, ?_⟩
      conv => whnf
      refine ⟨_, cT_as (x := x) h2 ex, ?_⟩
      cases hr : rdRat x with
      | none =>
        rw [hr] at cr
        rw [allO_none hxm hr]
        conv => whnf
        refine VCall.of_data cr (ndT (fun k => rfl)) ?_
        conv => whnf
        exact ⟨rfl, trivial, rfl⟩
      | some q =>
        rw [hr] at cr
        conv => whnf
        refine VCall.of_data cr (ndT (fun k => rfl)) ?_
        conv => whnf
        refine Sub.full rfl ?_
        conv => whnf
        refine Sub.full (by rw [cS_len]; exact ei) ?_
        conv => whnf
        refine ⟨by show (i + 1) * 56 ≤ _; omega, ?_⟩
        conv => whnf
        refine Wr.i64 (y := ((i + 1 : Nat) : Int)) rfl (by omega) (by omega) ?_
        conv => whnf
        refine ⟨s ++ [q], ⟨by rw [List.length_append, List.length_singleton]; omega, ?_⟩, by show xs.length - (s ++ [q]).length < xs.length - i; rw [List.length_append, List.length_singleton]; omega, ⟨?_, rfl, ?_, rfl, trivial⟩, ?_, trivial⟩
        · rw [List.length_append, List.length_singleton, ei, et]
          exact allO_snoc hq hr
        · show AV.d (.s (.int .i64 ((i + 1 : Nat) : Int))) = I ((s ++ [q]).length : Nat)
          rw [List.length_append, List.length_singleton, ei]
        · show AV.ls 30 0 (i + 1) 3 = AV.ls 30 0 (s ++ [q]).length 3
          rw [List.length_append, List.length_singleton, ei]
        · show Ob.row true 3 (cS s ++ cS [q]) = _
          rw [cS_append]
    · have h2 : i = xs.length := by simp only [decide_eq_false_iff_not] at h2; omega
      rw [h2, List.take_length] at hq
      rw [hq]
      conv => whnf
      refine ⟨⟨rfl, by rw [cS_len]; omega, ?_⟩, rfl, trivial, rfl⟩
      rw [List.drop_zero, List.take_of_length_le (by rw [cS_len]; omega)]; rfl

/-- A loss as a quotient of naturals. -/
def lossT (load : Rat) : Nat → Nat
  | 0 => 1
  | n + 1 => tp load * lossT load n
def lossB (load : Rat) : Nat → Nat
  | 0 => 1
  | n + 1 => (n + 1) * load.den * lossB load n + tp load * lossT load n

theorem lossB_pos (load : Rat) : ∀ n, lossB load n ≠ 0
  | 0 => by show (1 : Nat) ≠ 0; decide
  | n + 1 => by
    have h1 := lossB_pos load n
    have h2 : (n + 1) * load.den * lossB load n ≠ 0 := Nat.mul_ne_zero (Nat.mul_ne_zero (by omega) load.den_nz) h1
    show (n + 1) * load.den * lossB load n + _ ≠ 0
    omega

theorem loss_bl {load : Rat} : ∀ n, n < 1000000 → bl (lossT load n) ≤ n * (sz load + 23) + 1 ∧ bl (lossB load n) ≤ n * (sz load + 23) + 1
  | 0, _ => by constructor <;> show bl 1 ≤ _ <;> rw [bl_one] <;> omega
  | n + 1, hn => by
    obtain ⟨h1, h2⟩ := loss_bl (load := load) n (by omega)
    have b1 := bl_tp load
    have b2 := bl_den load
    have h3 := bl_mul (tp load) (lossT load n)
    have h4 := bl_mul ((n + 1) * load.den) (lossB load n)
    have h5 := bl_mul (n + 1) load.den
    have h6 : bl (n + 1) ≤ 20 := bl_le (by omega)
    have h7 := bl_add ((n + 1) * load.den * lossB load n) (tp load * lossT load n)
    have h8 : (n + 1) * (sz load + 23) = n * (sz load + 23) + (sz load + 23) := Nat.succ_mul _ _
    constructor
    · show bl (tp load * lossT load n) ≤ _
      omega
    · show bl ((n + 1) * load.den * lossB load n + tp load * lossT load n) ≤ _
      omega

theorem mkRat_div (t b : Nat) : mkRat (sgn false t) b = ((t : Int) : Rat) / ((b : Int) : Rat) := by
  show mkRat (t : Int) b = _
  rw [Rat.mkRat_eq_div]
  rfl

theorem quot_step {P T D B k : Rat} (hD : D ≠ 0) (hB : B ≠ 0) (h1 : P / D * (T / B) + k ≠ 0) (h2 : k * D * B + P * T ≠ 0) : P / D * (T / B) / (P / D * (T / B) + k) = P * T / (k * D * B + P * T) := by
  have e1 : P / D * (T / B) = P * T / (D * B) := by grind
  have hDB : D * B ≠ 0 := by grind
  rw [e1] at h1 ⊢
  grind

theorem lossQ_eq {load : Rat} (h : 0 < load) : ∀ n, lossQ load n = mkRat (sgn false (lossT load n)) (lossB load n)
  | 0 => by
    show (1 : Rat) = mkRat ((1 : Nat) : Int) 1
    decide
  | n + 1 => by
    have ih := lossQ_eq h n
    have hden := lossQ_den h n
    have hl : load = ((tp load : Int) : Rat) / ((load.den : Int) : Rat) := by
      rw [← mkRat_div]
      have h1 : ng load = false := by
        cases e : ng load
        · rfl
        · exfalso
          have h2 := sgI_pos.2 h
          unfold sgI at h2
          rw [e] at h2
          split at h2
          · omega
          · simp at h2
      have h3 := mk_parts load
      rw [h1] at h3
      exact h3.symm
    have hB : ((lossB load n : Int) : Rat) ≠ 0 := fun e => lossB_pos load n (by exact_mod_cast e)
    have hB1 : ((lossB load (n + 1) : Int) : Rat) ≠ 0 := fun e => lossB_pos load (n + 1) (by exact_mod_cast e)
    have hD : ((load.den : Int) : Rat) ≠ 0 := fun e => load.den_nz (by exact_mod_cast e)
    have eB : ((lossB load (n + 1) : Int) : Rat) = (((n + 1 : Nat) : Int) : Rat) * ((load.den : Int) : Rat) * ((lossB load n : Int) : Rat) + ((tp load : Int) : Rat) * ((lossT load n : Int) : Rat) := by
      show ((((n + 1) * load.den * lossB load n + tp load * lossT load n : Nat) : Int) : Rat) = _
      push_cast
      rfl
    have eT : ((lossT load (n + 1) : Int) : Rat) = ((tp load : Int) : Rat) * ((lossT load n : Int) : Rat) := by
      show (((tp load * lossT load n : Nat) : Int) : Rat) = _
      push_cast
      rfl
    rw [mkRat_div] at ih ⊢
    rw [eT]
    rw [eB] at hB1 ⊢
    show load * lossQ load n / (load * lossQ load n + ((n + 1 : Nat) : Int)) = _
    rw [ih] at hden ⊢
    generalize ((lossT load n : Int) : Rat) = T at *
    generalize ((lossB load n : Int) : Rat) = Bn at *
    generalize ((tp load : Int) : Rat) = P at *
    generalize ((load.den : Int) : Rat) = D at *
    rw [hl] at hden ⊢
    exact quot_step hD hB hden hB1

theorem fn_sLossOn (load : Rat) (n t b : Nat) (hm : sz load ≤ 10000) (hn : n < 1000000) (ht : bl t ≤ 1000000000) (hb : bl b ≤ 1000000000) :
    Fn Tryz.prog 186 [rS load, I (n : Nat), nS t, nS b] [] (.tup [nS (tp load * t), nS (n * load.den * b + tp load * t)]) [] := by
  have b1 := bl_tp load
  have b2 := bl_den load
  have m1 := fn_sMul (tp load) t (by omega) (by omega)
  have hn6 : bl n ≤ 20 := bl_le (by omega)
  have k1 := bl_mul (tp load) t
  have k2 := bl_mul n load.den
  have k3 := bl_mul (n * load.den) b
  have m2 := fn_sMul n load.den (by omega) (by omega)
  have m3 := fn_sMul (n * load.den) b (by omega) (by omega)
  have cn := fn_sNatD n (by omega)
  have ca := (fn_sAddL (n * load.den * b) (tp load * t) (by omega) (by omega)).freeze (by rw [cW_len]; omega)
  rw [List.drop_zero, List.take_of_length_le (by rw [cW_len]; omega)] at ca
  refine Fn.intro (ks := [0,1,2,3,4,8,9,10]) hty rfl rfl rfl rfl rfl ?_
  conv => whnf
  refine VCall.of_data m1 (nd _) ?_
  conv => whnf
  refine VDraw.go hmo hty 12 [] rfl ?_
  conv => whnf
  refine QCall.of_data cn (nd _) ?_
  conv => whnf
  refine QCall.of_data m2 (nd _) ?_
  conv => whnf
  refine QCall.of_data m3 (nd _) ?_
  conv => whnf
  refine QCall.of_data ca (nd _) ?_
  conv => whnf
  exact ⟨rfl, rfl, trivial, rfl⟩

theorem fn_sLoss (load : Rat) (n : Nat) (h : 0 < load) (hm : sz load ≤ 10000) (hn : n ≤ 30) : Fn Tryz.prog 140 [rS load, I (n : Nat)] [] (rS (lossQ load n)) [] := by
  rw [lossQ_eq h]
  refine Fn.intro (ks := [0,1,2,4,5,6,7,12]) hty rfl rfl rfl rfl rfl ?_
  conv => whnf
  refine VLoop.frz (t' := [(7, I 1), (6, nS 1), (5, .ls 8 0 1 1), (4, .lp 4 0), (2, .lp 2 0), (1, I (n : Nat)), (0, rS load)]) 9 rfl ⟨rfl, .inl rfl, rfl, .inr ⟨rfl, rfl, Nat.le_refl _, rfl⟩, rfl, .inl rfl, rfl, .inl rfl, rfl, .inl rfl, rfl, .inl rfl, rfl, .inl rfl, trivial⟩ ?_
  refine VLoop.frz (t' := [(7, I 1), (6, nS 1), (5, nS 1), (4, .lp 4 0), (2, .lp 2 0), (1, I (n : Nat)), (0, rS load)]) 8 rfl ⟨rfl, .inl rfl, rfl, .inl rfl, rfl, .inr ⟨rfl, rfl, Nat.le_refl _, rfl⟩, rfl, .inl rfl, rfl, .inl rfl, rfl, .inl rfl, rfl, .inl rfl, trivial⟩ ?_
  refine VLoop.inv hty (S := Nat) (fun k => [(7, I ((k + 1 : Nat) : Int)), (6, nS (lossB load k)), (5, nS (lossT load k)), (4, .lp 4 0), (2, .lp 2 0), (1, I (n : Nat))]) (fun _ => [(4, .box true (zeros (ty 93).zero)), (2, .box true [B (ng load), nS (tp load), nS load.den])])
    (fun k => k ≤ n) (fun k => n - k) 0 (Nat.zero_le _) ⟨rfl, rfl, rfl, rfl, rfl, rfl, trivial⟩ ⟨rfl, rfl, trivial⟩ ?_
  intro k hk
  obtain ⟨s1, s2⟩ := loss_bl (load := load) k (by omega)
  have hks : k * (sz load + 23) ≤ 30 * 10023 := Nat.mul_le_mul (by omega) (by omega)
  conv => whnf
  refine Br.mk (fun h2 => ?_) (fun h2 => ?_)
  · have h2 : k < n := by simp only [decide_eq_true_eq] at h2; omega
    have co := fn_sLossOn load (k + 1) (lossT load k) (lossB load k) hm (by omega) (by omega) (by omega)
    conv => whnf
    refine VCall.of_data co (ndT (fun k => rfl)) ?_
    conv => whnf
    refine Wr.i64 (y := ((k + 1 + 1 : Nat) : Int)) rfl (by omega) (by omega) ?_
    conv => whnf
    exact ⟨k + 1, h2, by show n - (k + 1) < n - k; omega, ⟨rfl, rfl, rfl, rfl, rfl, rfl, trivial⟩, rfl, rfl, trivial⟩
  · have h2 : k = n := by simp only [decide_eq_false_iff_not] at h2; omega
    subst h2
    have cm := fn_sMake false (lossT load k) (lossB load k) (by omega) (by omega) (lossB_pos load k)
    conv => whnf
    refine VCall.of_data cm (ndA fun k => rfl) ?_
    conv => whnf
    exact ⟨rfl, rfl, rfl, trivial, rfl⟩

end Go.V
/- The reference: the servers for loads. -/
namespace Go.V
open Go.Proofs Go.RowKit
set_option maxRecDepth 10000
set_option maxHeartbeats 1000000

theorem ng_sgI (q : Rat) : ng q = decide (sgI q < 0) := by
  have hz := ng_zero (q := q)
  unfold sgI
  by_cases h : tp q = 0
  · rw [if_pos h, hz h]; rfl
  · rw [if_neg h]
    cases ng q <;> rfl

theorem all_any (xs : List Rat) : (xs.all fun q => !ng q) = !(xs.any fun q => decide (sgI q < 0)) := by
  induction xs with
  | nil => rfl
  | cons x r ih => rw [List.all_cons, List.any_cons, ih, ng_sgI, Bool.not_or]

abbrev lN (ns : List Nat) : AV := .d (.sl (cW .i64 ns))

theorem fn_sServers (loads : List (List UInt8)) (most : List UInt8) (hl : loads.length ≤ 1000000000000) (hs : ∀ x, x ∈ loads → x.length ≤ 1000000000) (hm : most.length ≤ 1000000000) :
    Fn Tryz.prog 70 [lT loads, Str most] [] (.tup [lN ((serversQ loads most).getD []), B (serversQ loads most).isSome]) [] := by
  have c1 := fn_sList loads hl hs
  have c2 := fn_sParse most hm
  unfold serversQ
  cases e2 : rdRat most with
  | none =>
    rw [e2] at c2
    cases e1 : rdRats loads with
    | none =>
      rw [e1] at c1
      show Fn _ _ _ _ (.tup [lN [], B false]) []
      refine Fn.intro (ks := [0,1,4,5,6,7,8,9,10,11,12,43,48,66,70]) hty rfl rfl rfl rfl rfl ?_
      conv => whnf
      refine VCall.of_data c1 (ndT (fun k => rfl)) ?_
      conv => whnf
      refine VCall.of_data c2 (ndT (fun k => rfl)) ?_
      conv => whnf
      exact ⟨rfl, trivial, rfl⟩
    | some x =>
      rw [e1] at c1
      show Fn _ _ _ _ (.tup [lN [], B false]) []
      refine Fn.intro (ks := [0,1,4,5,6,7,8,9,10,11,12,43,48,66,70]) hty rfl rfl rfl rfl rfl ?_
      conv => whnf
      refine VCall.of_data c1 (ndT (fun k => rfl)) ?_
      conv => whnf
      refine VCall.of_data c2 (ndT (fun k => rfl)) ?_
      conv => whnf
      exact ⟨rfl, trivial, rfl⟩
  | some y =>
    rw [e2] at c2
    have sy := rdRat_sz e2
    cases e1 : rdRats loads with
    | none =>
      rw [e1] at c1
      show Fn _ _ _ _ (.tup [lN [], B false]) []
      refine Fn.intro (ks := [0,1,4,5,6,7,8,9,10,11,12,43,48,66,70]) hty rfl rfl rfl rfl rfl ?_
      conv => whnf
      refine VCall.of_data c1 (ndT (fun k => rfl)) ?_
      conv => whnf
      refine VCall.of_data c2 (ndT (fun k => rfl)) ?_
      conv => whnf
      exact ⟨rfl, trivial, rfl⟩
    | some x =>
      rw [e1, Option.getD_some, Option.isSome_some] at c1
      obtain ⟨x1, x2, x3⟩ := rdRats_sz e1
      have hxl : ((cS x).length : Int) = x.length := by rw [cS_len]
      have cp := fn_sPositive x (by omega)
      rw [all_any] at cp
      show Fn _ _ _ _ (.tup [lN ((if okLoads x then allO (srvQ y) x else none).getD []), B (if okLoads x then allO (srvQ y) x else none).isSome]) []
      by_cases hin1 : x.length < 1
      · rw [if_neg (fun h : okLoads x => by have := h.1; omega)]
        show Fn _ _ _ _ (.tup [lN [], B false]) []
        refine Fn.intro (ks := [0,1,4,5,6,7,8,9,10,11,12,43,48,66,70]) hty rfl rfl rfl rfl rfl ?_
        conv => whnf
        refine VCall.of_data c1 (ndT (fun k => rfl)) ?_
        conv => whnf
        refine VCall.of_data c2 (ndT (fun k => rfl)) ?_
        conv => whnf
        refine Br.mk (fun h => ?_) (fun h => ?_)
        · conv => whnf
          exact ⟨rfl, trivial, rfl⟩
        · simp only [decide_eq_false_iff_not] at h; omega
      · by_cases hin2 : 48 < x.length
        · rw [if_neg (fun h : okLoads x => by have := h.2.1; omega)]
          show Fn _ _ _ _ (.tup [lN [], B false]) []
          refine Fn.intro (ks := [0,1,4,5,6,7,8,9,10,11,12,43,48,66,70]) hty rfl rfl rfl rfl rfl ?_
          conv => whnf
          refine VCall.of_data c1 (ndT (fun k => rfl)) ?_
          conv => whnf
          refine VCall.of_data c2 (ndT (fun k => rfl)) ?_
          conv => whnf
          refine Br.mk (fun h => ?_) (fun h => ?_)
          · simp only [decide_eq_true_eq] at h; omega
          · conv => whnf
            refine Br.mk (fun h2 => ?_) (fun h2 => ?_)
            · conv => whnf
              exact ⟨rfl, trivial, rfl⟩
            · simp only [decide_eq_false_iff_not] at h2; omega
        · cases ea : x.any (fun q => decide (sgI q < 0)) with
          | true =>
            rw [ea] at cp
            rw [if_neg (fun h : okLoads x => by rw [h.2.2] at ea; cases ea)]
            show Fn _ _ _ _ (.tup [lN [], B false]) []
            refine Fn.intro (ks := [0,1,4,5,6,7,8,9,10,11,12,43,48,66,70]) hty rfl rfl rfl rfl rfl ?_
            conv => whnf
            refine VCall.of_data c1 (ndT (fun k => rfl)) ?_
            conv => whnf
            refine VCall.of_data c2 (ndT (fun k => rfl)) ?_
            conv => whnf
            refine Br.mk (fun h => ?_) (fun h => ?_)
            · simp only [decide_eq_true_eq] at h; omega
            · conv => whnf
              refine Br.mk (fun h2 => ?_) (fun h2 => ?_)
              · simp only [decide_eq_true_eq] at h2; omega
              · conv => whnf
                refine VCall.of_data cp (nd _) ?_
                conv => whnf
                exact ⟨rfl, trivial, rfl⟩
          | false =>
            rw [ea] at cp
            rw [if_pos (show okLoads x from ⟨by omega, by omega, ea⟩)]
            have hnn : ∀ q, q ∈ x → ¬ q < 0 := fun q hq e => by
              have h1 := List.any_eq_false.1 ea q hq
              exact h1 (decide_eq_true (sgI_neg.2 e))
            refine Fn.intro (ks := [0,1,4,5,6,7,8,9,10,11,12,43,48,66,70]) hty rfl rfl rfl rfl rfl ?_
            conv => whnf
            refine VCall.of_data c1 (ndT (fun k => rfl)) ?_
            conv => whnf
            refine VCall.of_data c2 (ndT (fun k => rfl)) ?_
            conv => whnf
            refine Br.mk (fun h => ?_) (fun h => ?_)
            · simp only [decide_eq_true_eq] at h; omega
            conv => whnf
            refine Br.mk (fun h2 => ?_) (fun h2 => ?_)
            · simp only [decide_eq_true_eq] at h2; omega
            conv => whnf
            refine VCall.of_data cp (nd _) ?_
            conv => whnf
            refine VLoop.ren 44 74 rfl ?_
            refine VLoop.inv hty (S := List Nat) (fun ns => [(11, I (ns.length : Nat)), (10, .ls 74 0 ns.length 1), (8, .lp 8 0), (6, lS x)])
              (fun ns => [(74, .row true 1 (cW .i64 ns)), (8, .box true [B (ng y), nS (tp y), nS y.den])]) (fun ns => ns.length ≤ x.length ∧ allO (srvQ y) (x.take ns.length) = some ns) (fun ns => x.length - ns.length) [] ⟨Nat.zero_le _, rfl⟩
              ⟨rfl, rfl, rfl, rfl, trivial⟩ ⟨rfl, rfl, trivial⟩ ?_
            rintro ns ⟨hi, hq⟩
            obtain ⟨i, ei⟩ : ∃ i, ns.length = i := ⟨_, rfl⟩
            rw [ei] at hi hq
            rw [ei]
            conv => whnf
            refine Br.mk (fun h3 => ?_) (fun h3 => ?_)
            · have h3 : i < x.length := by simp only [decide_eq_true_eq] at h3; omega
              obtain ⟨q, eq⟩ : ∃ q, x.getD i 0 = q := ⟨_, rfl⟩
              have hqm : q ∈ x := by rw [← eq, List.getD_eq_getElem?_getD, List.getElem?_eq_getElem h3]; exact List.getElem_mem h3
              have sq := x3 q hqm
              have hq0 := hnn q hqm
              have et : x.take (i + 1) = x.take i ++ [q] := by rw [List.take_succ_eq_append_getElem h3]; subst eq; rw [List.getD_eq_getElem?_getD, List.getElem?_eq_getElem h3]; rfl
              have cz := fn_sZero q (by omega)
              conv => whnf
              refine VLoop.invX hty (S := Nat) (E := Nat) [] [] 2 (fun k => [(12, I (k : Nat)), (11, I (i : Nat)), (10, .ls 74 0 i 1), (8, .lp 8 0), (6, lS x)])
                (fun _ => [(74, .row true 1 (cW .i64 ns)), (8, .box true [B (ng y), nS (tp y), nS y.den])]) (fun k => k ≤ 20 ∧ (k = 0 ∨ 0 < q) ∧ ∀ j, j < k → ¬ lossQ q j ≤ y) (fun k => 21 - k)
                (fun d => [(12, I (d : Nat)), (11, I (i : Nat)), (10, .ls 74 0 i 1), (8, .lp 8 0), (6, lS x)])
                (fun _ => [(74, .row true 1 (cW .i64 ns)), (8, .box true [B (ng y), nS (tp y), nS y.den])]) (fun d => srvQ y q = some d)
                0 ⟨by omega, .inl rfl, fun j h => absurd h (Nat.not_lt_zero j)⟩ ⟨rfl, rfl, rfl, rfl, rfl, trivial⟩ ⟨rfl, rfl, trivial⟩ ?_ ?_
              · rintro k ⟨hk1, hk2, hk3⟩
                by_cases hqz : q = 0
                · have hk0 : k = 0 := by
                    rcases hk2 with h4 | h4
                    · exact h4
                    · rw [hqz] at h4; exact absurd h4 Rat.lt_irrefl
                  rw [decide_eq_true hqz] at cz
                  have hsrv : srvQ y q = some k := by rw [srvQ, if_pos (by rw [hqz]; exact Rat.le_refl), hk0]
                  conv => whnf
                  refine VDraw.go hmo hty 16 [] rfl ?_
                  conv => whnf
                  refine ⟨⟨⟨by omega, by omega⟩, cS_sz _⟩, ?_⟩
                  conv => whnf
                  refine ⟨_, cS_as (x := q) h3 eq, ?_⟩
                  conv => whnf
                  refine QCall.of_data cz (nd _) ?_
                  conv => whnf
                  exact ⟨rfl, k, hsrv, ⟨rfl, rfl, rfl, rfl, rfl, trivial⟩, rfl, rfl, trivial⟩
                · have hqp : 0 < q := by grind
                  have hqn : ¬ q ≤ 0 := by grind
                  rw [decide_eq_false hqz] at cz
                  have cls := fn_sLoss q k hqp (by omega) (by omega)
                  have hzb := lossQ_big hqp (by omega) hk1
                  have clt := fn_sLess2 y (lossQ q k) (by omega) (by omega)
                  have hls : srvQ y q = leastQ q y := by rw [srvQ, if_neg hqn]
                  conv => whnf
                  refine VDraw.go hmo hty 16 [] rfl ?_
                  conv => whnf
                  refine ⟨⟨⟨by omega, by omega⟩, cS_sz _⟩, ?_⟩
                  conv => whnf
                  refine ⟨_, cS_as (x := q) h3 eq, ?_⟩
                  conv => whnf
                  refine QCall.of_data cz (nd _) ?_
                  conv => whnf
                  refine ⟨⟨⟨by omega, by omega⟩, cS_sz _⟩, ?_⟩
                  conv => whnf
                  refine ⟨_, cS_as (x := q) h3 eq, ?_⟩
                  conv => whnf
                  refine QCall.of_data cls (ndA fun k => rfl) ?_
                  conv => whnf
                  refine QCall.of_data clt (nd _) ?_
                  conv => whnf
                  refine Br.mk (fun h4 => ?_) (fun h4 => ?_)
                  · have h4 : y < lossQ q k := by simpa only [decide_eq_true_eq] using h4
                    have h5 : ¬ lossQ q k ≤ y := by grind
                    have hnext : ∀ j, j < k + 1 → ¬ lossQ q j ≤ y := fun j hj => by
                      rcases Nat.lt_or_ge j k with h6 | h6
                      · exact hk3 j h6
                      · rw [show j = k by omega]; exact h5
                    conv => whnf
                    refine Wr.i64 (y := ((k + 1 : Nat) : Int)) rfl (by omega) (by omega) ?_
                    conv => whnf
                    refine Br.mk (fun h6 => ?_) (fun h6 => ?_)
                    · have h6 : k = 20 := by simp only [decide_eq_true_eq] at h6; omega
                      rw [allO_none hqm (by rw [hls]; exact leastQ_none fun j hj => hnext j (by omega))]
                      conv => whnf
                      exact ⟨rfl, trivial, rfl⟩
                    · have h6 : k + 1 ≤ 20 := by simp only [decide_eq_false_iff_not] at h6; omega
                      conv => whnf
                      exact ⟨k + 1, ⟨h6, .inr hqp, hnext⟩, by show 21 - (k + 1) < 21 - k; omega, ⟨rfl, rfl, rfl, rfl, rfl, trivial⟩, rfl, rfl, trivial⟩
                  · have h4 : ¬ y < lossQ q k := by simpa only [decide_eq_false_iff_not] using h4
                    have h5 : lossQ q k ≤ y := by grind
                    conv => whnf
                    exact ⟨rfl, k, by rw [hls]; exact leastQ_some (by omega) h5 hk3, ⟨rfl, rfl, rfl, rfl, rfl, trivial⟩, rfl, rfl, trivial⟩
              · rintro d hsrv
                conv => whnf
                obtain ⟨i2, ei2⟩ : ∃ j, i + 1 = j := ⟨_, rfl⟩
                refine Sub.full rfl ?_
                conv => whnf
                refine Sub.full (by rw [cW_len]; exact ei) ?_
                conv => whnf
                refine ⟨by show (i + 1) * 8 ≤ _; omega, ?_⟩
                conv => whnf
                refine Wr.i64 (y := ((i + 1 : Nat) : Int)) rfl (by omega) (by omega) ?_
                conv => whnf
                refine ⟨ns ++ [d], ⟨by rw [List.length_append, List.length_singleton]; omega, ?_⟩, by show x.length - (ns ++ [d]).length < x.length - i; rw [List.length_append, List.length_singleton]; omega, ⟨?_, ?_, rfl, rfl, trivial⟩, ?_, rfl, trivial⟩
                · rw [List.length_append, List.length_singleton, ei, et]
                  exact allO_snoc hq hsrv
                · show AV.d (.s (.int .i64 ((i + 1 : Nat) : Int))) = I ((ns ++ [d]).length : Nat)
                  rw [List.length_append, List.length_singleton, ei]
                · show AV.ls 74 0 (i + 1) 1 = AV.ls 74 0 (ns ++ [d]).length 1
                  rw [List.length_append, List.length_singleton, ei]
                · show Ob.row true 1 (cW .i64 ns ++ cW .i64 [d]) = _
                  rw [cW_append]
            · have h3 : i = x.length := by simp only [decide_eq_false_iff_not] at h3; omega
              rw [h3, List.take_length] at hq
              rw [hq]
              conv => whnf
              refine ⟨⟨rfl, by rw [cW_len]; omega, ?_⟩, rfl, trivial, rfl⟩
              rw [List.drop_zero, List.take_of_length_le (by rw [cW_len]; omega)]; rfl

theorem fn_sServersFor (loads : List (List UInt8)) (most : List UInt8) (hl : loads.length ≤ 1000000000000) (hs : ∀ x, x ∈ loads → x.length ≤ 1000000000) (hm : most.length ≤ 1000000000) :
    Fn Tryz.prog 16 [lT loads, Str most] [] (.tup [lN ((serversQ loads most).getD []), B (serversQ loads most).isSome]) [] := by
  refine Fn.intro (ks := [0,1,4,5]) hty rfl rfl rfl rfl rfl ?_
  conv => whnf
  refine VCall.of_data (fn_sServers loads most hl hs hm) (ndT (fun k => rfl)) ?_
  conv => whnf
  exact ⟨rfl, rfl, trivial, rfl⟩

end Go.V
/- The laws' own functions on lists of integers. -/
namespace Go.V
open Go.Proofs Go.RowKit
set_option maxRecDepth 10000
set_option maxHeartbeats 1000000

def room (n : Nat) : Nat := if n % 6 = 5 then 0 else if n % 3 = 0 then 1 else n

theorem fn_room (n : Nat) (hn : n ≤ 1000000) : Fn Tryz.prog 71 [I n] [] (I (room n)) [] := by
  refine Fn.intro (ks := [0,2,5,8]) hty rfl rfl rfl rfl rfl ?_
  conv => whnf
  refine ⟨by omega, ?_⟩
  conv => whnf
  refine Br.mk (fun h => ?_) (fun h => ?_)
  · have h : (n : Int).tmod 6 = 5 := by simpa using h
    conv => whnf
    refine ⟨?_, trivial, rfl⟩
    have : n % 6 = 5 := by rw [Int.tmod_eq_emod_of_nonneg (by omega)] at h; omega
    simp [room, this]
  · have h : ¬ (n : Int).tmod 6 = 5 := by simpa using h
    have h' : ¬ n % 6 = 5 := by rw [Int.tmod_eq_emod_of_nonneg (by omega)] at h; omega
    conv => whnf
    refine ⟨by omega, ?_⟩
    conv => whnf
    refine Br.mk (fun h2 => ?_) (fun h2 => ?_)
    · have h2 : (n : Int).tmod 3 = 0 := by simpa using h2
      conv => whnf
      refine ⟨?_, trivial, rfl⟩
      have : n % 3 = 0 := by rw [Int.tmod_eq_emod_of_nonneg (by omega)] at h2; omega
      simp [room, this, h']
    · have h2 : ¬ (n : Int).tmod 3 = 0 := by simpa using h2
      conv => whnf
      refine ⟨?_, trivial, rfl⟩
      have : ¬ n % 3 = 0 := by rw [Int.tmod_eq_emod_of_nonneg (by omega)] at h2; omega
      simp [room, this, h']

theorem room_le (n : Nat) : room n ≤ n + 1 := by unfold room; split; omega; split <;> omega

theorem cI_set (xs : List Int) (k : Nat) (x : Int) : (cI xs).set k [.s (.int .i64 x)] = cI (xs.set k x) := by
  unfold cI; rw [List.map_set]

theorem fn_eqI (xs ys : List Int) (hl : xs.length ≤ 3000000) (hl' : ys.length ≤ 3000000) :
    Fn Tryz.prog 19 [.d (.sl (cI xs)), .d (.sl (cI ys))] [] (B (decide (xs = ys))) [] := by
  refine Fn.intro (ks := [0,1,4,5,10,14,25]) hty rfl rfl rfl rfl rfl ?_
  conv => whnf
  rw [cI_len, cI_len]
  refine Br.mk (fun h => ?_) (fun h => ?_)
  · have h : ¬ xs.length = ys.length := by simp at h; omega
    conv => whnf
    refine ⟨?_, trivial, rfl⟩
    rw [decide_eq_false fun e => h (by rw [e])]
  · have hxy : xs.length = ys.length := by simp at h; omega
    conv => whnf
    refine VLoop.inv hty (S := Nat) (fun k => [(5, I k), (1, .d (.sl (cI ys))), (0, .d (.sl (cI xs)))]) (fun _ => []) (fun k => k ≤ xs.length ∧ xs.take k = ys.take k) (fun k => xs.length - k) 0 ⟨Nat.zero_le _, rfl⟩
      ⟨rfl, rfl, rfl, trivial⟩ trivial ?_
    rintro k ⟨hk, hp⟩
    conv => whnf
    rw [cI_len]
    refine Br.mk (fun h => ?_) (fun h => ?_)
    · have hk' : k < xs.length := by simp at h; omega
      conv => whnf
      refine VDraw.go hmo hty 9 [] rfl ?_
      conv => whnf
      refine ⟨⟨⟨by omega, by rw [cI_len]; omega⟩, cI_sz xs⟩, ?_⟩
      conv => whnf
      refine ⟨[.s (.int .i64 xs[k])], by simp [cI, hk'], ?_⟩
      conv => whnf
      refine ⟨⟨⟨by omega, by rw [cI_len]; omega⟩, cI_sz ys⟩, ?_⟩
      conv => whnf
      refine ⟨[.s (.int .i64 ys[k])], by simp [cI, ← hxy, hk'], ?_⟩
      conv => whnf
      refine Br.mk (fun h2 => ?_) (fun h2 => ?_)
      · have h2 : ¬ xs[k] = ys[k] := by simpa using h2
        conv => whnf
        refine ⟨?_, trivial, rfl⟩
        rw [decide_eq_false fun e => h2 (by subst e; rfl)]
      · have h2 : xs[k] = ys[k] := by simpa using h2
        conv => whnf
        refine Wr.fit (wrap_i64 (by omega) (by omega)) ?_
        conv => whnf
        refine ⟨k + 1, ⟨hk', ?_⟩, by omega, ⟨rfl, rfl, rfl, trivial⟩, trivial⟩
        rw [List.take_succ_eq_append_getElem hk', List.take_succ_eq_append_getElem (by omega), hp, h2]
    · have hk' : k = xs.length := by simp at h; omega
      conv => whnf
      refine ⟨?_, trivial, rfl⟩
      subst hk'
      rw [List.take_length, List.take_of_length_le (by omega)] at hp
      rw [decide_eq_true hp]

def marks (k n : Nat) : List Int := (List.range n).map fun i => ((k + i : Nat) : Int)

theorem marks_len (k n : Nat) : (marks k n).length = n := by simp [marks]

theorem fn_markI (zs : List Int) (n k0 : Nat) (hn : n ≤ zs.length) (hl : n ≤ 1000000) (hk0 : k0 ≤ 2000000000) :
    Fn Tryz.prog 22 [.ls 1000000 0 n 1, I k0] [(1000000, .row true 1 (cI zs))] (I ((k0 + n : Nat) : Int)) [(1000000, .row true 1 (cI (marks k0 n ++ zs.drop n)))] := by
  have k1 : (marks k0 n ++ zs.drop n).length = zs.length := by simp [marks_len]; omega
  refine Fn.intro (ks := [0,1,4,5,9]) hty rfl rfl rfl rfl rfl ?_
  conv => whnf
  refine VLoop.inv hty (S := Nat) (fun k => [(5, I k), (1, I ((k0 + k : Nat) : Int)), (0, .ls 1000000 0 n 1)]) (fun k => [(1000000, .row true 1 (cI (fillL (marks k0 n ++ zs.drop n) zs k)))]) (fun k => k ≤ n) (fun k => n - k) 0 (Nat.zero_le _)
    ⟨rfl, rfl, rfl, trivial⟩ ⟨by rw [fill_zero]; rfl, trivial⟩ ?_
  intro k hk
  conv => whnf
  refine Br.mk (fun h => ?_) (fun h => ?_)
  · have hk' : k < n := by simp at h; omega
    conv => whnf
    refine ⟨by omega, ?_⟩
    conv => whnf
    refine ⟨[.s (.int .i64 (fillL (marks k0 n ++ zs.drop n) zs k)[k]!)], by
      have : k < (fillL (marks k0 n ++ zs.drop n) zs k).length := by rw [fill_len k1]; omega
      simp [cI, this], ?_⟩
    conv => whnf
    refine Wr.fit (wrap_i64 (by omega) (by omega)) ?_
    conv => whnf
    refine Wr.fit (wrap_i64 (by omega) (by omega)) ?_
    conv => whnf
    refine ⟨k + 1, hk', by omega, ⟨rfl, by congr 1, rfl, trivial⟩, ?_, trivial⟩
    show Ob.row true 1 ((cI _).set k [.s (.int .i64 _)]) = _
    rw [cI_set, ← fill_set k1 (by omega)]
    congr 3
    rw [List.getElem_append_left (by rw [marks_len]; exact hk')]; simp [marks]
  · have hk' : k = n := by simp at h; omega
    subst hk'
    conv => whnf
    refine ⟨rfl, ⟨?_, trivial⟩, rfl⟩
    have : fillL (marks k0 k ++ zs.drop k) zs k = marks k0 k ++ zs.drop k := by
      unfold fillL; rw [List.take_append_of_le_length (by simp [marks_len]), List.take_of_length_le (by simp [marks_len])]
    rw [this]; rfl

theorem fn_heldI (n k0 : Nat) (hl : n ≤ 1000000) (hk0 : k0 ≤ 2000000000) :
    Fn Tryz.prog 23 [.d (.sl (cI (marks k0 n))), I k0] [] (I ((k0 + n : Nat) : Int)) [] := by
  refine Fn.intro (ks := [0,1,4,5,9,17]) hty rfl rfl rfl rfl rfl ?_
  conv => whnf
  refine VLoop.inv hty (S := Nat) (fun k => [(5, I k), (1, I ((k0 + k : Nat) : Int)), (0, .d (.sl (cI (marks k0 n))))]) (fun _ => []) (fun k => k ≤ n) (fun k => n - k) 0 (Nat.zero_le _)
    ⟨rfl, rfl, rfl, trivial⟩ trivial ?_
  intro k hk
  conv => whnf
  rw [cI_len, marks_len]
  refine Br.mk (fun h => ?_) (fun h => ?_)
  · have hk' : k < n := by simp at h; omega
    conv => whnf
    refine ⟨⟨⟨by omega, by rw [cI_len, marks_len]; omega⟩, cI_sz _⟩, ?_⟩
    conv => whnf
    refine ⟨[.s (.int .i64 ((k0 + k : Nat) : Int))], by simp [cI, marks, hk'], ?_⟩
    conv => whnf
    rw [decide_eq_true rfl]
    conv => whnf
    refine Wr.fit (wrap_i64 (by omega) (by omega)) ?_
    conv => whnf
    refine Wr.fit (wrap_i64 (by omega) (by omega)) ?_
    conv => whnf
    exact ⟨k + 1, hk', by omega, ⟨rfl, by congr 1, rfl, trivial⟩, trivial⟩
  · have hk' : k = n := by simp at h; omega
    subst hk'
    conv => whnf
    exact ⟨rfl, trivial, rfl⟩

theorem cI_flat (xs : List Int) : ∀ q, q ∈ cI xs → ∀ c, c ∈ q → flatC c = true := by
  intro q hq c hc
  obtain ⟨n, _, rfl⟩ := List.mem_map.1 hq
  simp at hc; subst hc; rfl

theorem fn_markI0 (k0 : Int) : Fn Tryz.prog 22 [.d (.sl []), I k0] [] (I k0) [] := by
  refine Fn.intro (ks := [0,1,4,5,9]) hty rfl rfl rfl rfl rfl ?_
  conv => whnf
  refine VLoop.inv hty (S := Nat) (fun _ => [(5, I 0), (1, I k0), (0, .d (.sl []))]) (fun _ => []) (fun _ => True) (fun _ => 0) 0 trivial ⟨rfl, rfl, rfl, trivial⟩ trivial ?_
  intro k _
  conv => whnf
  exact ⟨rfl, trivial, rfl⟩

theorem fn_eqT (xs : List Int) (hl : xs.length ≤ 3000000) : Fn Tryz.prog 19 [.d (.sl (cI xs)), .d (.sl (cI xs))] [] (B true) [] := by
  have := fn_eqI xs xs hl hl
  rwa [decide_eq_true rfl] at this

theorem lend_whole {id : Nat} {l : LL} {xs ys : List Int} (h : lget id l = .row true 1 (cI (xs ++ ys))) : lend1 l (.ls id 0 xs.length 1) (.d (.sl (cI xs))) := by
  unfold lend1
  simp only [h]
  exact ⟨trivial, by simp [cI], by simp [cI]⟩

theorem lend_all {id : Nat} {l : LL} {xs : List Int} (h : lget id l = .row true 1 (cI xs)) : lend1 l (.ls id 0 xs.length 1) (.d (.sl (cI xs))) := by
  have : xs = xs ++ [] := by simp
  rw [this] at h
  exact lend_whole h

end Go.V
/- The laws' own functions on lists of strings. -/
namespace Go.V
open Go.Proofs Go.RowKit
set_option maxRecDepth 10000
set_option maxHeartbeats 1000000

abbrev spT : List UInt8 := [126, 115, 112, 97, 114, 101, 126]
def withRoomT (xs : List (List UInt8)) : List (List UInt8) := xs ++ List.replicate (room xs.length) spT
theorem cT_set (xs : List (List UInt8)) (k : Nat) (x : List UInt8) : (cT xs).set k [.s (.string ⟨x.toArray⟩)] = cT (xs.set k x) := by
  unfold cT; rw [List.map_set]

theorem fn_toT (xs : List (List UInt8)) (b : Bool) (hb : b = false ∨ xs ≠ []) (hl : xs.length ≤ 1000000) :
    Fn Tryz.prog 17 [.d (.sl (cT xs)), B b] [] (.ls 0 0 xs.length 1) [(0, .row true 1 (cT (withRoomT xs)))] := by
  have hr := room_le xs.length
  generalize hm : room xs.length = m at hr
  have hwl : withRoomT xs = xs ++ List.replicate m spT := by rw [withRoomT, hm]
  have k1 : (xs ++ List.replicate m []).length = (List.replicate (xs.length + m) ([] : List UInt8)).length := by simp
  have k2 : (xs ++ List.replicate m spT).length = (xs ++ List.replicate m []).length := by simp
  have k3 : (xs ++ List.replicate m spT).length = xs.length + m := by simp
  have c1 := fn_room xs.length hl
  rw [hm] at c1
  refine Fn.intro (ks := [0,1,4,5,6,7,13,24,39]) hty rfl rfl rfl rfl rfl ?_
  cases b
  case' true =>
    conv => whnf
    refine Br.mk (fun h => absurd h ?_) (fun _ => ?_)
    · have hne : xs ≠ [] := by rcases hb with hb | hb; cases hb; exact hb
      have := List.length_pos_iff.2 hne
      rw [cT_len]; simp; exact hne
  all_goals
    clear hb
    conv => whnf
    rw [cT_len]
    refine VCall.of_data c1 (nd _) ?_
    conv => whnf
    refine Wr.fit (wrap_i64 (by omega) (by omega)) ?_
    conv => whnf
    refine ⟨⟨by omega, by omega, by show ((xs.length : Int) + m) * ((16 : Nat) : Int) ≤ _; omega, by omega⟩, ?_⟩
    conv => whnf
    refine VLoop.inv hty (S := Nat) (fun k => [(6, I k), (5, .ls 20 0 (xs.length + m) 1), (0, .d (.sl (cT xs)))])
      (fun k => [(20, .row true 1 (cT (fillL (xs ++ List.replicate m []) (List.replicate (xs.length + m) []) k)))]) (fun k => k ≤ xs.length) (fun k => xs.length - k) 0 (Nat.zero_le _)
      ⟨rfl, by show AV.ls _ _ _ _ = _; congr 1, rfl, trivial⟩ ⟨by show Ob.row true 1 (List.replicate ((xs.length : Int) + m).toNat [.s (.string ByteArray.empty)]) = _; rw [fill_zero, show ((xs.length : Int) + m).toNat = xs.length + m by omega]; simp only [cT, List.map_replicate]; rfl, trivial⟩ ?_
    intro k hk
    conv => whnf
    rw [cT_len]
    refine Br.mk (fun h => ?_) (fun h => ?_)
    · have hk' : k < xs.length := by simp at h; omega
      conv => whnf
      refine ⟨⟨⟨by omega, by rw [cT_len]; omega⟩, cT_sz xs⟩, ?_⟩
      conv => whnf
      refine ⟨[.s (.string ⟨(xs[k]).toArray⟩)], by simp [cT, hk'], ?_⟩
      conv => whnf
      refine ⟨by omega, ?_⟩
      conv => whnf
      refine ⟨[.s (.string ⟨((fillL (xs ++ List.replicate m []) (List.replicate (xs.length + m) []) k)[k]!).toArray⟩)], by
        have : k < (fillL (xs ++ List.replicate m []) (List.replicate (xs.length + m) []) k).length := by rw [fill_len k1]; simp; omega
        simp [cT, this], ?_⟩
      conv => whnf
      refine Wr.fit (wrap_i64 (by omega) (by omega)) ?_
      conv => whnf
      refine ⟨k + 1, hk', by omega, ⟨rfl, rfl, rfl, trivial⟩, ?_, trivial⟩
      show Ob.row true 1 ((cT _).set k [.s (.string ⟨(xs[k]).toArray⟩)]) = _
      rw [cT_set, ← fill_set k1 (by simp; omega)]
      congr 3
      rw [List.getElem_append_left hk']
    · have hk' : k = xs.length := by simp at h; omega
      subst hk'
      conv => whnf
      rw [cT_len]
      have e0 : fillL (xs ++ List.replicate m []) (List.replicate (xs.length + m) []) xs.length = fillL (xs ++ List.replicate m spT) (xs ++ List.replicate m []) xs.length := by
        simp [fillL]
      rw [e0]
      refine VLoop.inv hty (S := Nat) (fun k => [(7, I k), (5, .ls 20 0 (xs.length + m) 1), (0, .d (.sl (cT xs)))])
        (fun k => [(20, .row true 1 (cT (fillL (xs ++ List.replicate m spT) (xs ++ List.replicate m []) k)))]) (fun k => xs.length ≤ k ∧ k ≤ xs.length + m) (fun k => xs.length + m - k) xs.length ⟨Nat.le_refl _, by omega⟩
        ⟨rfl, rfl, rfl, trivial⟩ ⟨rfl, trivial⟩ ?_
      rintro k ⟨hk1, hk2⟩
      conv => whnf
      refine Br.mk (fun h => ?_) (fun h => ?_)
      · have hk' : k < xs.length + m := by simp at h; omega
        conv => whnf
        refine ⟨by omega, ?_⟩
        conv => whnf
        refine ⟨[.s (.string ⟨((fillL (xs ++ List.replicate m spT) (xs ++ List.replicate m []) k)[k]!).toArray⟩)], by
          have : k < (fillL (xs ++ List.replicate m spT) (xs ++ List.replicate m []) k).length := by rw [fill_len k2]; simp; omega
          simp [cT, this], ?_⟩
        conv => whnf
        refine Wr.fit (wrap_i64 (by omega) (by omega)) ?_
        conv => whnf
        refine ⟨k + 1, ⟨by omega, by omega⟩, by omega, ⟨rfl, rfl, rfl, trivial⟩, ?_, trivial⟩
        show Ob.row true 1 ((cT _).set k [.s (.string ⟨spT.toArray⟩)]) = _
        rw [cT_set, ← fill_set k2 (by simp; omega)]
        congr 3
        rw [List.getElem_append_right (by omega)]; simp
      · have hk' : k = xs.length + m := by simp at h; omega
        subst hk'
        conv => whnf
        rw [cT_len, fill_end k2 (by simp), ← hwl]
        refine ⟨⟨by omega, by omega, by rw [cT_len, hwl, k3]; omega⟩, ?_⟩
        conv => whnf
        exact ⟨⟨rfl, rfl, rfl, rfl, by omega, rfl⟩, [], rfl, trivial, rfl⟩

theorem fn_toT0 : Fn Tryz.prog 17 [.d (.sl (cT [])), B true] [] (.d (.sl [])) [] := by
  refine Fn.intro (ks := [0,1,4,5,6,7,13,24,39]) hty rfl rfl rfl rfl rfl ?_
  conv => whnf
  exact ⟨trivial, rfl⟩

/-- The same, told as data. -/
theorem fn_toTd (xs : List (List UInt8)) (b : Bool) (hl : xs.length ≤ 1000000) : Fn Tryz.prog 17 [.d (.sl (cT xs)), B b] [] (.d (.sl (cT xs))) [] := by
  by_cases h : b = false ∨ xs ≠ []
  · have := (fn_toT xs b h hl).freeze (by rw [cT_len]; simp [withRoomT])
    have e : (List.drop 0 (cT (withRoomT xs))).take xs.length = cT xs := by simp [cT, withRoomT]
    rwa [e] at this
  · have hb : b = true := by cases b; exact absurd (.inl rfl) h; rfl
    have hx : xs = [] := Classical.byContradiction fun e => h (.inr e)
    subst hb; subst hx
    exact fn_toT0

theorem fn_eqS (xs ys : List (List UInt8)) (hl : xs.length ≤ 3000000) (hl' : ys.length ≤ 3000000) :
    Fn Tryz.prog 34 [.d (.sl (cT xs)), .d (.sl (cT ys))] [] (B (decide (xs = ys))) [] := by
  refine Fn.intro (ks := [0,1,4,5,10,14,25]) hty rfl rfl rfl rfl rfl ?_
  conv => whnf
  rw [cT_len, cT_len]
  refine Br.mk (fun h => ?_) (fun h => ?_)
  · have h : ¬ xs.length = ys.length := by simp at h; omega
    conv => whnf
    refine ⟨?_, trivial, rfl⟩
    rw [decide_eq_false fun e => h (by rw [e])]
  · have hxy : xs.length = ys.length := by simp at h; omega
    conv => whnf
    refine VLoop.inv hty (S := Nat) (fun k => [(5, I k), (1, .d (.sl (cT ys))), (0, .d (.sl (cT xs)))]) (fun _ => []) (fun k => k ≤ xs.length ∧ xs.take k = ys.take k) (fun k => xs.length - k) 0 ⟨Nat.zero_le _, rfl⟩
      ⟨rfl, rfl, rfl, trivial⟩ trivial ?_
    rintro k ⟨hk, hp⟩
    conv => whnf
    rw [cT_len]
    refine Br.mk (fun h => ?_) (fun h => ?_)
    · have hk' : k < xs.length := by simp at h; omega
      conv => whnf
      refine VDraw.go hmo hty 9 [] rfl ?_
      conv => whnf
      refine ⟨⟨⟨by omega, by rw [cT_len]; omega⟩, cT_sz xs⟩, ?_⟩
      conv => whnf
      refine ⟨[.s (.string ⟨(xs[k]).toArray⟩)], by simp [cT, hk'], ?_⟩
      conv => whnf
      refine ⟨⟨⟨by omega, by rw [cT_len]; omega⟩, cT_sz ys⟩, ?_⟩
      conv => whnf
      refine ⟨[.s (.string ⟨(ys[k]).toArray⟩)], by simp [cT, ← hxy, hk'], ?_⟩
      conv => whnf
      refine Br.mk (fun h2 => ?_) (fun h2 => ?_)
      · have h2 : ¬ xs[k] = ys[k] := by simpa using h2
        conv => whnf
        refine ⟨?_, trivial, rfl⟩
        rw [decide_eq_false fun e => h2 (by subst e; rfl)]
      · have h2 : xs[k] = ys[k] := by simpa using h2
        conv => whnf
        refine Wr.fit (wrap_i64 (by omega) (by omega)) ?_
        conv => whnf
        refine ⟨k + 1, ⟨hk', ?_⟩, by omega, ⟨rfl, rfl, rfl, trivial⟩, trivial⟩
        rw [List.take_succ_eq_append_getElem hk', List.take_succ_eq_append_getElem (by omega), hp, h2]
    · have hk' : k = xs.length := by simp at h; omega
      conv => whnf
      refine ⟨?_, trivial, rfl⟩
      subst hk'
      rw [List.take_length, List.take_of_length_le (by omega)] at hp
      rw [decide_eq_true hp]


theorem fn_intactT (xs : List (List UInt8)) (hl : xs.length ≤ 1000000) :
    Fn Tryz.prog 20 [.ls 1000000 0 xs.length 1, .ls 1000001 0 xs.length 1] [(1000000, .row true 1 (cT (withRoomT xs))), (1000001, .row true 1 (cT (withRoomT xs)))] (B true)
      [(1000000, .row true 1 (cT (withRoomT xs))), (1000001, .row true 1 (cT (withRoomT xs)))] := by
  have hr := room_le xs.length
  have hw : (withRoomT xs).length = xs.length + room xs.length := by simp [withRoomT]
  refine Fn.intro (ks := [0,1,4,5]) hty rfl rfl rfl rfl rfl ?_
  conv => whnf
  refine VCall.of_data (fn_room xs.length (by omega)) (nd _) ?_
  conv => whnf
  refine Wr.fit (wrap_i64 (by omega) (by omega)) ?_
  conv => whnf
  refine VDraw.go hmo hty 15 [] rfl ?_
  conv => whnf
  rw [decide_eq_true rfl]
  conv => whnf
  refine ⟨⟨by omega, by omega, by rw [cT_len, hw]; omega⟩, ?_⟩
  conv => whnf
  refine ⟨⟨by omega, by omega, by rw [cT_len, hw]; omega⟩, ?_⟩
  conv => whnf
  refine QCall.lend (fn_eqS (withRoomT xs) (withRoomT xs) (by omega) (by omega)) ⟨⟨rfl, ?_, ?_⟩, ⟨rfl, ?_, ?_⟩, trivial⟩ rfl ?_
  iterate 2
    · simp only [cT_len, hw]; omega
    · show ((cT _).drop (Int.toNat 0 + 0)).take _ = _
      rw [List.take_of_length_le (by simp [cT_len, hw]; omega)]; rfl
  conv => whnf
  exact ⟨by simp, ⟨rfl, rfl, trivial⟩, rfl⟩


def markF (r : Nat) (acc : List UInt8) : List UInt8 := if h : r = 0 then acc else markF (r / 10) (UInt8.ofNat (48 + r % 10) :: acc)

theorem fn_markText (k : Nat) (hk : k ≤ 3000000000) : ∃ m : List UInt8, Fn Tryz.prog 79 [I k] [] (.d (.s (.string ⟨m.toArray⟩))) [] := by
  by_cases h0 : k = 0
  · subst h0
    refine ⟨[109, 48], ?_⟩
    refine Fn.intro (ks := [0,2,3,5,7]) hty rfl rfl rfl rfl rfl ?_
    conv => whnf
    refine ⟨?_, trivial, rfl⟩
    rfl
  · refine ⟨109 :: markF k [], ?_⟩
    refine Fn.intro (ks := [0,2,3,5,7]) hty rfl rfl rfl rfl rfl ?_
    conv => whnf
    rw [decide_eq_false (by omega)]
    conv => whnf
    refine VLoop.inv hty (S := Nat × List UInt8) (fun s => [(3, .d (.s (.string ⟨s.2.toArray⟩))), (0, I s.1)]) (fun _ => []) (fun s => s.1 + s.2.length ≤ k ∧ markF s.1 s.2 = markF k []) (fun s => s.1) (k, []) ⟨Nat.le_refl _, rfl⟩
      ⟨rfl, rfl, trivial⟩ trivial ?_
    rintro s ⟨hk1, hp⟩
    conv => whnf
    refine Br.mk (fun h => ?_) (fun h => ?_)
    · have h : 0 < s.1 := by simpa using h
      rw [markF, dif_neg (by omega)] at hp
      conv => whnf
      refine ⟨by omega, ?_⟩
      conv => whnf
      obtain ⟨d, ed⟩ : ∃ d : Nat, s.1 % 10 = d := ⟨_, rfl⟩
      rw [show (s.1 : Int).tmod 10 = d by rw [Int.tmod_eq_emod_of_nonneg (by omega)]; omega]
      rw [ed] at hp
      refine Wr.fit (wrap_i64 (by omega) (by omega)) ?_
      conv => whnf
      refine Wr.is (y := ((UInt8.ofNat (48 + d)).toNat : Int)) (by rw [wrap_u8, UInt8.toNat_ofNat']; omega) ?_
      generalize UInt8.ofNat (48 + d) = c at hp ⊢
      conv => whnf
      refine Sub.full rfl ?_
      conv => whnf
      refine ⟨⟨[c].toArray⟩, by simp [cB], ?_⟩
      conv => whnf
      refine ⟨by simp [ByteArray.size]; omega, ?_⟩
      conv => whnf
      refine ⟨by omega, ?_⟩
      conv => whnf
      obtain ⟨r, er⟩ : ∃ r : Nat, s.1 / 10 = r := ⟨_, rfl⟩
      rw [show (s.1 : Int).tdiv 10 = r by rw [Int.tdiv_eq_ediv_of_nonneg (by omega)]; omega]
      rw [er] at hp
      refine Wr.fit (wrap_i64 (by omega) (by omega)) ?_
      conv => whnf
      refine ⟨(r, c :: s.2), ⟨by simp; omega, hp⟩, by simp; omega, ⟨?_, rfl, trivial⟩, trivial⟩
      show AV.d (C.s (Value.string (_ ++ _))) = _
      congr 3
    · have h : s.1 = 0 := by simpa using h
      rw [markF, dif_pos h] at hp
      conv => whnf
      refine ⟨?_, ?_, trivial, rfl⟩
      · simp [ByteArray.size]; omega
      · rw [← hp]; congr 2

noncomputable def markQ (k : Nat) : List UInt8 := if h : k ≤ 3000000000 then (fn_markText k h).choose else []
theorem fn_markQ (k : Nat) (h : k ≤ 3000000000) : Fn Tryz.prog 79 [I k] [] (.d (.s (.string ⟨(markQ k).toArray⟩))) [] := by
  unfold markQ; rw [dif_pos h]; exact (fn_markText k h).choose_spec

noncomputable def marksT (k n : Nat) : List (List UInt8) := (List.range n).map fun i => markQ (k + i)
theorem marksT_len (k n : Nat) : (marksT k n).length = n := by simp [marksT]

theorem fn_markT (zs : List (List UInt8)) (n k0 : Nat) (hn : n ≤ zs.length) (hl : n ≤ 1000000) (hk0 : k0 ≤ 2000000000) :
    Fn Tryz.prog 21 [.ls 1000000 0 n 1, I k0] [(1000000, .row true 1 (cT zs))] (I ((k0 + n : Nat) : Int)) [(1000000, .row true 1 (cT (marksT k0 n ++ zs.drop n)))] := by
  have k1 : (marksT k0 n ++ zs.drop n).length = zs.length := by simp [marksT_len]; omega
  refine Fn.intro (ks := [0,1,4,5,9]) hty rfl rfl rfl rfl rfl ?_
  conv => whnf
  refine VLoop.inv hty (S := Nat) (fun k => [(5, I k), (1, I ((k0 + k : Nat) : Int)), (0, .ls 1000000 0 n 1)]) (fun k => [(1000000, .row true 1 (cT (fillL (marksT k0 n ++ zs.drop n) zs k)))]) (fun k => k ≤ n) (fun k => n - k) 0 (Nat.zero_le _)
    ⟨rfl, rfl, rfl, trivial⟩ ⟨by rw [fill_zero]; rfl, trivial⟩ ?_
  intro k hk
  conv => whnf
  refine Br.mk (fun h => ?_) (fun h => ?_)
  · have hk' : k < n := by simp at h; omega
    conv => whnf
    refine VCall.of_data (fn_markQ (k0 + k) (by omega)) (nd _) ?_
    conv => whnf
    refine ⟨by omega, ?_⟩
    conv => whnf
    refine ⟨[.s (.string ⟨((fillL (marksT k0 n ++ zs.drop n) zs k)[k]!).toArray⟩)], by
      have : k < (fillL (marksT k0 n ++ zs.drop n) zs k).length := by rw [fill_len k1]; omega
      simp [cT, this], ?_⟩
    conv => whnf
    refine Wr.fit (wrap_i64 (by omega) (by omega)) ?_
    conv => whnf
    refine Wr.fit (wrap_i64 (by omega) (by omega)) ?_
    conv => whnf
    refine ⟨k + 1, hk', by omega, ⟨rfl, by congr 1, rfl, trivial⟩, ?_, trivial⟩
    show Ob.row true 1 ((cT _).set k [.s (.string ⟨(markQ (k0 + k)).toArray⟩)]) = _
    rw [cT_set, ← fill_set k1 (by omega)]
    congr 3
    rw [List.getElem_append_left (by rw [marksT_len]; exact hk')]; simp [marksT]
  · have hk' : k = n := by simp at h; omega
    subst hk'
    conv => whnf
    refine ⟨rfl, ⟨?_, trivial⟩, rfl⟩
    have : fillL (marksT k0 k ++ zs.drop k) zs k = marksT k0 k ++ zs.drop k := by
      unfold fillL; rw [List.take_append_of_le_length (by simp [marksT_len]), List.take_of_length_le (by simp [marksT_len])]
    rw [this]; rfl


/-- What is left of a room behind texts. -/
def szT : Int → List (List UInt8) → Int
  | n, [] => n
  | n, x :: xs => if n - x.length < 0 then -1 else szT (n - x.length) xs

theorem szT_fits : ∀ (xs : List (List UInt8)) (n : Int), 0 ≤ szT n xs → ∀ x, x ∈ xs → (x.length : Int) ≤ n
  | [], n, _, x, h => by cases h
  | y :: xs, n, h, x, hx => by
      unfold szT at h
      split at h
      · omega
      · rcases List.mem_cons.1 hx with rfl | hx
        · omega
        · have := szT_fits xs _ h x hx; omega

def szTT (n : Int) (xs : List (List UInt8)) : Int := if n - xs.length < 0 then -1 else szT (n - xs.length) xs

theorem fn_szT (xs : List (List UInt8)) (n : Int) (hl : xs.length ≤ 281474976710656) (hs : ∀ x, x ∈ xs → x.length ≤ 281474976710656) (hn : n ≤ 1000000) (hn0 : -281474976710656 ≤ n) : Fn Tryz.prog 15 [lT xs, I n] [] (I (szTT n xs)) [] := by
  refine Fn.intro (ks := [0,1,4,5,11,15,26]) hty rfl rfl rfl rfl rfl ?_
  conv => whnf
  rw [cT_len]
  refine Wr.fit (wrap_i64 (by omega) (by omega)) ?_
  conv => whnf
  unfold szTT
  refine Br.mk (fun h => ?_) (fun h => ?_)
  · have h : n - xs.length < 0 := by simpa using h
    conv => whnf
    refine ⟨?_, trivial, rfl⟩
    rw [if_pos h]
  · have h : ¬ n - (xs.length : Int) < 0 := by simpa using h
    rw [if_neg h]
    conv => whnf
    obtain ⟨m0, e0⟩ : ∃ m0, n - (xs.length : Int) = m0 := ⟨_, rfl⟩
    rw [e0] at h ⊢
    have hm : m0 ≤ n := by omega
    refine VLoop.inv hty (S := Nat × Int) (fun s => [(5, I s.1), (1, I s.2), (0, lT xs)]) (fun _ => []) (fun s => s.1 ≤ xs.length ∧ 0 ≤ s.2 ∧ s.2 ≤ n ∧ szT s.2 (xs.drop s.1) = szT m0 xs) (fun s => xs.length - s.1) (0, m0)
      ⟨Nat.zero_le _, by omega, by omega, rfl⟩ ⟨rfl, rfl, rfl, trivial⟩ trivial ?_
    rintro s ⟨hk, h0, h1, hp⟩
    conv => whnf
    rw [cT_len]
    refine Br.mk (fun h => ?_) (fun h => ?_)
    · have hk' : s.1 < xs.length := by simp at h; omega
      have hx := hs xs[s.1] (List.getElem_mem _)
      rw [List.drop_eq_getElem_cons hk', szT] at hp
      generalize hq : xs[s.1] = x at hp hx
      conv => whnf
      refine ⟨⟨⟨by omega, by rw [cT_len]; omega⟩, cT_sz xs⟩, ?_⟩
      conv => whnf
      refine ⟨[.s (.string ⟨x.toArray⟩)], by simp [cT, hk', hq], ?_⟩
      conv => whnf
      obtain ⟨m1, e1⟩ : ∃ m1, s.2 - (x.length : Int) = m1 := ⟨_, rfl⟩
      rw [show s.2 - (({ data := x.toArray } : ByteArray).size : Int) = m1 from e1]
      rw [e1] at hp
      refine Wr.fit (wrap_i64 (by omega) (by omega)) ?_
      conv => whnf
      refine Br.mk (fun h => ?_) (fun h => ?_)
      · have h : m1 < 0 := by simpa using h
        rw [if_pos h] at hp
        conv => whnf
        refine ⟨?_, trivial, rfl⟩
        rw [← hp]
      · have h : ¬ m1 < 0 := by simpa using h
        rw [if_neg h] at hp
        conv => whnf
        refine Wr.fit (wrap_i64 (by omega) (by omega)) ?_
        conv => whnf
        exact ⟨(s.1 + 1, m1), ⟨by omega, by omega, by omega, hp⟩, by omega, ⟨rfl, rfl, rfl, trivial⟩, trivial⟩
    · have hk' : s.1 = xs.length := by simp at h; omega
      conv => whnf
      refine ⟨?_, trivial, rfl⟩
      rw [← hp, hk', List.drop_length, szT]

end Go.V
/- The law of ServersFor. -/
namespace Go.V
open Go.Proofs Go.RowKit
set_option maxRecDepth 10000
set_option maxHeartbeats 1000000

theorem szTT_fits {n : Int} {xs : List (List UInt8)} (h : 0 ≤ szTT n xs) : (xs.length : Int) ≤ n ∧ ∀ x, x ∈ xs → (x.length : Int) ≤ n := by
  unfold szTT at h
  split at h
  · omega
  · exact ⟨by omega, fun x hx => by have := szT_fits xs _ h x hx; omega⟩

theorem lend_wholeT {id : Nat} {l : LL} {xs ys : List (List UInt8)} (h : lget id l = .row true 1 (cT (xs ++ ys))) : lend1 l (.ls id 0 xs.length 1) (.d (.sl (cT xs))) := by
  unfold lend1
  simp only [h]
  exact ⟨trivial, by simp [cT], by simp [cT]⟩

theorem cW_cI (ns : List Nat) : cW .i64 ns = cI (ns.map Int.ofNat) := by simp [cW, cI]

theorem allO_lenQ {α β : Type} {f : α → Option β} : ∀ {xs : List α} {ys : List β}, allO f xs = some ys → ys.length = xs.length
  | [], ys, h => by cases h; rfl
  | x :: xs, ys, h => by
      unfold allO at h
      split at h
      · next y zs _ e => cases h; simp [allO_lenQ e]
      · cases h

/-- ServersFor hands back no more than it was handed. -/
theorem serversQ_len {loads : List (List UInt8)} {most : List UInt8} {ns : List Nat} (h : serversQ loads most = some ns) : ns.length ≤ loads.length := by
  unfold serversQ at h
  split at h
  · next x y e1 e2 =>
    split at h
    · have := allO_lenQ h
      have := (rdRats_sz e1).2.1
      omega
    · cases h
  · cases h

theorem law_serversFor (xs : List (List UInt8)) (m : List UInt8) (hl0 : xs.length < 2 ^ 47) (hs0 : ∀ x, x ∈ xs → x.length < 2 ^ 47) (hm : m.length < 2 ^ 47) : Fn Tryz.prog 3 [lT xs, Str m] [] (B true) [] := by
  have c0 := fn_szT xs (1000000 - (m.length : Int)) (by omega) (fun x hx => by have := hs0 x hx; omega) (by omega) (by omega)
  refine Fn.intro (ks := [0,1,4,5,6,7,8,9,10,11,12,13,14,15,23,47,52,68,76,79,95,100,103]) hty rfl rfl rfl rfl rfl ?_
  conv => whnf
  obtain ⟨m1, e1⟩ : ∃ m1, 1000000 - (m.length : Int) = m1 := ⟨_, rfl⟩
  rw [show 1000000 - (({ data := m.toArray } : ByteArray).size : Int) = m1 from e1]
  rw [e1] at c0
  refine Wr.fit (wrap_i64 (by omega) (by omega)) ?_
  conv => whnf
  refine VCall.of_data c0 (nd _) ?_
  obtain ⟨m2, e2⟩ : ∃ m2, szTT m1 xs = m2 := ⟨_, rfl⟩
  rw [e2]
  conv => whnf
  refine Br.mk (fun h => ?_) (fun h => ?_)
  · conv => whnf
    exact ⟨rfl, trivial, rfl⟩
  · have h : 0 ≤ m2 := by simpa using h
    have hf := szTT_fits (e2 ▸ h)
    have hl : xs.length ≤ 1000000 := by omega
    have hs : ∀ x, x ∈ xs → x.length ≤ 1000000 := fun x hx => by have := hf.2 x hx; omega
    conv => whnf
    refine VCall.of_data (fn_toTd xs false hl) (nd _) ?_
    conv => whnf
    have cs := fn_sServersFor xs m (by omega) (fun x hx => by have := hs x hx; omega) (by omega)
    have ci := fn_ServersFor xs m (by omega) (fun x hx => by have := hs x hx; omega) (by omega)
    cases hb : serversQ xs m with
    | none =>
      rw [hb] at cs ci
      refine VCall.of_data cs (ndT fun _ => rfl) ?_
      conv => whnf
      refine VCall.of_ls (k := 32) (fn_toT xs false (.inl rfl) hl) rfl ?_
      conv => whnf
      refine VCall.lend ci ⟨lend_wholeT rfl, rfl, trivial⟩ rfl ?_
      conv => whnf
      refine VCall.of_data (fn_eqT [] (by simp)) (nd _) ?_
      conv => whnf
      refine VCall.of_ls (k := 50) (fn_toT xs false (.inl rfl) hl) rfl ?_
      conv => whnf
      refine VCall.par2 32 50 rfl (fn_intactT xs hl) ⟨⟨rfl, rfl, rfl, rfl⟩, ⟨rfl, rfl, rfl, rfl⟩, trivial⟩ rfl rfl ?_
      conv => whnf
      refine VCall.par1 32 (fn_markT (withRoomT xs) xs.length 101 (by simp [withRoomT]) hl (by omega)) ⟨⟨rfl, rfl, rfl, rfl⟩, rfl, trivial⟩ rfl ?_
      conv => whnf
      refine VCall.of_data (fn_eqT [] (by simp)) (nd _) ?_
      conv => whnf
      refine VCall.of_data (fn_markI0 101) (nd _) ?_
      conv => whnf
      refine VCall.of_data (fn_heldI 0 101 (by omega) (by omega)) (nd _) ?_
      conv => whnf
      refine VCall.of_data (fn_toTd xs true hl) (nd _) ?_
      conv => whnf
      refine VCall.of_data ci (ndT fun _ => rfl) ?_
      conv => whnf
      refine VCall.of_data (fn_eqT [] (by simp)) (nd _) ?_
      conv => whnf
      refine VCall.of_data (fn_heldI 0 101 (by omega) (by omega)) (nd _) ?_
      conv => whnf
      exact ⟨rfl, trivial, rfl⟩
    | some ns =>
      have hn := serversQ_len hb
      rw [hb] at cs ci
      have e3 : cW .i64 ns = cI (ns.map Int.ofNat) := cW_cI ns
      have hyl : (ns.map Int.ofNat).length = ns.length := by simp
      have c1 : Fn Tryz.prog 16 [lT xs, Str m] [] (.tup [.d (.sl (cI (ns.map Int.ofNat))), B true]) [] := by rw [← e3]; exact cs
      have c4 : Fn Tryz.prog 18 [lT xs, Str m] [] (.tup [.ls 0 0 (ns.map Int.ofNat).length 1, B true]) [(0, .row true 1 (cI (ns.map Int.ofNat)))] := by rw [← e3, hyl]; exact ci
      have hyl' : (ns.map Int.ofNat).length ≤ 1000000 := by omega
      generalize ns.map Int.ofNat = ys at c1 c4 hyl'
      have c2 := c4.freezeT (by rw [cI_len]; omega) rfl
      rw [show (List.drop 0 (cI ys)).take ys.length = cI ys by rw [List.drop_zero, List.take_of_length_le (by rw [cI_len]; omega)]] at c2
      have c3 := fn_eqT ys (by omega)
      refine VCall.of_data c1 (ndT fun _ => rfl) ?_
      conv => whnf
      refine VCall.of_ls (k := 32) (fn_toT xs false (.inl rfl) hl) rfl ?_
      conv => whnf
      refine VCall.lendT (k := 36) c4 ⟨lend_wholeT rfl, rfl, trivial⟩ (cI_flat _) rfl rfl ?_
      conv => whnf
      refine VCall.lend c3 ⟨lend_all rfl, rfl, trivial⟩ rfl ?_
      conv => whnf
      refine VCall.of_ls (k := 50) (fn_toT xs false (.inl rfl) hl) rfl ?_
      conv => whnf
      refine VCall.par2 32 50 rfl (fn_intactT xs hl) ⟨⟨rfl, rfl, rfl, rfl⟩, ⟨rfl, rfl, rfl, rfl⟩, trivial⟩ rfl rfl ?_
      conv => whnf
      refine VCall.par1 32 (fn_markT (withRoomT xs) xs.length 101 (by simp [withRoomT]) hl (by omega)) ⟨⟨rfl, rfl, rfl, rfl⟩, rfl, trivial⟩ rfl ?_
      conv => whnf
      refine VCall.lend c3 ⟨lend_all rfl, rfl, trivial⟩ rfl ?_
      conv => whnf
      refine VCall.par1 36 (fn_markI ys ys.length 101 (Nat.le_refl _) (by omega) (by omega)) ⟨⟨rfl, rfl, rfl, rfl⟩, rfl, trivial⟩ rfl ?_
      conv => whnf
      have hm : ∀ l : LL, lget 36 l = .row true 1 (cI (marks 101 ys.length ++ List.drop ys.length ys)) → lend1 l (.ls 36 0 ys.length 1) (.d (.sl (cI (marks 101 ys.length)))) := fun l h => by
        have := lend_whole (xs := marks 101 ys.length) h
        rwa [marks_len] at this
      refine VCall.lend (fn_heldI ys.length 101 (by omega) (by omega)) ⟨hm _ rfl, rfl, trivial⟩ rfl ?_
      conv => whnf
      refine Br.mk (fun h => by simp at h) (fun _ => ?_)
      conv => whnf
      refine VCall.of_data (fn_toTd xs true hl) (nd _) ?_
      conv => whnf
      refine VCall.of_data c2 (ndT fun _ => rfl) ?_
      conv => whnf
      refine VCall.of_data c3 (nd _) ?_
      conv => whnf
      refine VCall.lend (fn_heldI ys.length 101 (by omega) (by omega)) ⟨hm _ rfl, rfl, trivial⟩ rfl ?_
      conv => whnf
      refine Br.mk (fun h => by simp at h) (fun _ => ?_)
      conv => whnf
      exact ⟨rfl, trivial, rfl⟩


end Go.V
