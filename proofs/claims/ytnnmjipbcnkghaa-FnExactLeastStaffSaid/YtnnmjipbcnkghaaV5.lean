/- The abstract machine and its soundness: part 5. -/
import Derived.Test.YtnnmjipbcnkghaaV4
/- New rows told as data; a reader's new row told as data. -/
set_option linter.unusedVariables false
namespace Go.V

section
variable {P : Program} {t : TL} {l : LL}

/-- The first of several results is a new row: told as data. -/
theorem Fn.freezeT {f : FuncId} {xs : List AV} {lo n sz : Nat} {rows : List (List C)} {cs : List AV} (h : Fn P f xs [] (.tup (.ls 0 lo n sz :: cs)) [(0, .row true sz rows)]) (hn : n + lo ≤ rows.length) (hf : flats cs = true) :
    Fn P f xs [] (.tup (.d (.sl ((rows.drop lo).take n)) :: cs)) [] where
  en := h.en
  out := fun κ ρ w vs hm hs hv => (h.out κ ρ w vs hm hs hv).mono fun e w' ⟨v, κ', ρ', h1, h2, h3, h4⟩ => by
    have hob := h3.ob 0
    obtain ⟨L, _, _, _, hL, _⟩ := hob
    obtain ⟨κ'', g1, g2, _, g4⟩ := h3.freeze (id := 0) rfl hL
    obtain ⟨us, rfl, hn', hu⟩ := h4.tuple
    refine ⟨_, κ'', _, h1, Know.le_trans h2 g1, g2, .tup us _ (by simpa using hn') fun k u c hk hc => ?_⟩
    cases k with
    | zero =>
      simp at hc; subst hc
      exact g4 u lo n (hu 0 u _ hk rfl) hn
    | succ k =>
      have hc' : cs[k]? = some c := by simpa using hc
      exact flat_sound (flats_get hf k c hc') (hu (k + 1) u c hk (by simpa using hc'))

theorem lendD_aux {G : Ctx} {κ : Know} {ρ : Place} {a : Act} {w w' : World} {κ' : Know} {ρ1 : Place} {v : Value} {lo n sz : Nat} {rows : List (List C)} (hr : Rel G κ ρ t l a w)
    (h2 : Mem ⟨w, Mof (fun _ => none) [], Know.all w, 0, fun _ => none⟩ κ' ρ1 [(0, .row true sz rows)] w') (h3 : AVR κ' ρ1 v (.ls 0 lo n sz)) (hl1 : ∀ q, q ∈ rows → ∀ c, c ∈ q → flatC c = true) (hn : n + lo ≤ rows.length) :
    ∃ κ'' ρ', κ.le κ'' ∧ Rel G κ'' ρ' t l a w' ∧ AVR κ'' ρ' v (.d (.sl ((rows.drop lo).take n))) := by
  have hm1 := hr.m.forget h2 ⟨hl1, trivial⟩
  have hob := hm1.ob 0
  obtain ⟨L, _, _, _, hL, _⟩ := hob
  obtain ⟨κ'', g1, g2, _, g4⟩ := hm1.freeze (id := 0) rfl hL
  obtain ⟨ρ', h4, h5⟩ := hr.joined (k := 0) g1 g2 rfl
  exact ⟨κ'', ρ', g1, h4, h5 v _ (nd _) (g4 v lo n (ls_any _ _ _ _ h3) hn)⟩

/-- A call that reads rows of the caller's own; its new row of bare values is told as data. -/
theorem VCall.lendD {f : FuncId} {xs xs0 : List AV} {lo n sz : Nat} {rows : List (List C)} {dst : Option Nat} {K : AV → TL → LL → Prop} (h : Fn P f xs0 [] (.ls 0 lo n sz) [(0, .row true sz rows)]) (ha : lendR l xs xs0)
    (hl1 : ∀ q, q ∈ rows → ∀ c, c ∈ q → flatC c = true) (hn : n + lo ≤ rows.length) (hK : K (.d (.sl ((rows.drop lo).take n))) t l) : VCall P f xs dst t l K where
  en := h.en
  out := fun G κ ρ a w vs hr hs hv => by
    obtain ⟨e1, e2⟩ := lend_get hr.m ha
    have hm0 : Mem ⟨w, Mof (fun _ => none) [], Know.all w, 0, fun _ => none⟩ (Know.all w) (fun _ => none) [] w :=
      ⟨fun _ => rfl, fun i j Li Lj _ hi => (by cases hi), fun i L hi => (by cases hi), fun b o x h => h.1, fun b o x h => h.2, fun b o x h => .inl h, ⟨rfl, rfl, rfl, Nat.le_refl _, fun _ _ _ => rfl⟩, fun i L _ h => h⟩
    refine Calls.mono (h.out (Know.all w) (fun _ => none) w vs hm0 (hs.trans e1) fun i v y h1 h2 => ?_) ?_
    · have hi : i < xs.length := by rw [← hs]; exact (Array.getElem?_eq_some_iff.1 h1).1
      exact e2 i v _ y (List.getElem?_eq_getElem hi) h2 (hv i v _ h1 (List.getElem?_eq_getElem hi))
    · rintro e w' ⟨v, κ', ρ1, he, h1, h2, h3⟩
      obtain ⟨κ'', ρ', g1, g2, g3⟩ := lendD_aux hr h2 h3 hl1 hn
      exact ⟨v, κ'', ρ', _, _, _, he, g1, g2, g3, hK⟩

theorem QCall.lendD {f : FuncId} {xs xs0 : List AV} {lo n sz : Nat} {rows : List (List C)} {K : AV → Prop} (h : Fn P f xs0 [] (.ls 0 lo n sz) [(0, .row true sz rows)]) (ha : lendR l xs xs0)
    (hl1 : ∀ q, q ∈ rows → ∀ c, c ∈ q → flatC c = true) (hn : n + lo ≤ rows.length) (hK : K (.d (.sl ((rows.drop lo).take n)))) : QCall P f xs l K :=
  ⟨_, hK, fun _ _ _ hl => VCall.lendD h (lendR_same hl ha) hl1 hn ⟨rfl, rfl, rfl⟩⟩

theorem rens_flat (r : Nat → Nat) : ∀ {cs : List AV}, flats cs = true → AV.rens r cs = cs
  | [], _ => rfl
  | x :: q, h => by
    simp only [flats, Bool.and_eq_true] at h
    rw [AV.rens, rens_flat r h.2]
    cases x with
    | d c => rfl
    | _ => simp [flat] at h

theorem ments_flat (k : Nat) : ∀ {cs : List AV}, flats cs = true → AV.ments k cs = false
  | [], _ => rfl
  | x :: q, h => by
    simp only [flats, Bool.and_eq_true] at h
    rw [AV.ments, ments_flat k h.2]
    cases x with
    | d c => rfl
    | _ => simp [flat] at h

theorem namesT {lo n sz : Nat} {cs : List AV} {rows : List (List C)} (hf : flats cs = true) : namesIn [(0, .row true sz rows)] (.tup (.ls 0 lo n sz :: cs)) := fun j hj => by
  have hj' : (AV.ment j (.ls 0 lo n sz) || AV.ments j cs) = true := hj
  rw [ments_flat j hf, Bool.or_false] at hj'
  have : 0 = j := Nat.eq_of_beq_eq_true hj'
  rw [lget_cons, if_pos this.symm]; simp

theorem lsT_any {id lo n sz : Nat} {cs : List AV} (hf : flats cs = true) : ∀ κ κ' ρ v, AVR κ ρ v (.tup (.ls id lo n sz :: cs)) → AVR κ' ρ v (.tup (.ls id lo n sz :: cs)) := fun κ κ' ρ v h => by
  obtain ⟨us, rfl, hn, hu⟩ := h.tuple
  refine .tup us _ hn fun k u c hk hc => ?_
  cases k with
  | zero => simp at hc; subst hc; exact ls_any _ _ _ _ (hu 0 u _ hk rfl)
  | succ k =>
    have hc' : cs[k]? = some c := by simpa using hc
    exact flat_sound (flats_get hf k c hc') (hu (k + 1) u c hk hc)

/-- Several results, the first one a new row: handed on. -/
theorem VCall.lendT {f : FuncId} {xs xs0 : List AV} {lo n sz : Nat} {rows : List (List C)} {cs : List AV} {k : Nat} {dst : Option Nat} {K : AV → TL → LL → Prop} (h : Fn P f xs0 [] (.tup (.ls 0 lo n sz :: cs)) [(0, .row true sz rows)]) (ha : lendR l xs xs0)
    (hl1 : ∀ q, q ∈ rows → ∀ c, c ∈ q → flatC c = true) (hf : flats cs = true) (hfr : freshL k t l [(0, .row true sz rows)] = true) (hK : K (.tup (.ls k lo n sz :: cs)) t ((k, .row true sz rows) :: l)) : VCall P f xs dst t l K :=
  VCall.lendN (k := k) h ha ⟨hl1, trivial⟩ (lsT_any hf) (namesT hf) hfr (by
    have e : AV.ren (renN k) (.tup (.ls 0 lo n sz :: cs)) = .tup (.ls k lo n sz :: cs) := by
      show AV.tup (.ls (renN k 0) lo n sz :: AV.rens (renN k) cs) = _
      rw [rens_flat _ hf]; rfl
    rw [e]; exact hK)

theorem VCall.of_fnT {f : FuncId} {xs : List AV} {lo n sz : Nat} {rows : List (List C)} {cs : List AV} {k : Nat} {K : AV → TL → LL → Prop} (h : Fn P f xs [] (.tup (.ls 0 lo n sz :: cs)) [(0, .row true sz rows)])
    (hf : flats cs = true) (hfr : freshL k t l [(0, .row true sz rows)] = true) (hK : K (.tup (.ls k lo n sz :: cs)) t ((k, .row true sz rows) :: l)) : VCall P f xs (some k) t l K :=
  VCall.of_fn (k := k) h (namesT hf) hfr (by
    have e : AV.ren (renN k) (.tup (.ls 0 lo n sz :: cs)) = .tup (.ls k lo n sz :: cs) := by
      show AV.tup (.ls (renN k 0) lo n sz :: AV.rens (renN k) cs) = _
      rw [rens_flat _ hf]; rfl
    rw [e]; exact hK)

theorem ndT {cs : List AV} (hf : ∀ k, AV.ments k cs = false) : namesIn [] (.tup cs) := fun k h => by
  have h' : AV.ments k cs = true := h
  rw [hf k] at h'; cases h'

/-- A call with data that hands back one new row. -/
theorem VCall.of_ls {f : FuncId} {xs : List AV} {lo n sz : Nat} {rows : List (List C)} {k : Nat} {K : AV → TL → LL → Prop} (h : Fn P f xs [] (.ls 0 lo n sz) [(0, .row true sz rows)])
    (hfr : freshL k t l [(0, .row true sz rows)] = true) (hK : K (.ls k lo n sz) t ((k, .row true sz rows) :: l)) : VCall P f xs (some k) t l K :=
  VCall.of_fn (k := k) h (fun j hj => by
    have : 0 = j := Nat.eq_of_beq_eq_true hj
    rw [lget_cons, if_pos this.symm]; simp) hfr hK

end
end Go.V
