/- The abstract machine and its soundness: part 3. -/
import Derived.Test.YtnnmjipbcnkghaaV2
/- Contracts of functions, and what a call of one comes to. -/
set_option linter.unusedVariables false
namespace Go.V

/-- The blocks that a call may write: those of the locals that it is handed. -/
def Mof (ρ : Place) (l : LL) : Nat → Prop := fun b => ∃ id L, ρ id = some L ∧ (lget id l).wr = true ∧ L.b = b

/-- What a call of f does: handed xs (data, and locals of l0), it hands back x, and its locals are l1. -/
structure Fn (P : Program) (f : FuncId) (xs : List AV) (l0 : LL) (x : AV) (l1 : LL) : Prop where
  en : Enters P f
  out : ∀ κ ρ w (vs : Array Value), Mem ⟨w, Mof ρ l0, κ, 0, ρ⟩ κ ρ l0 w → vs.size = xs.length → (∀ (i : Nat) v y, vs[i]? = some v → xs[i]? = some y → AVR κ ρ v y) →
    Calls P f vs w fun e w' => ∃ v κ' ρ', e = .returned v ∧ κ.le κ' ∧ Mem ⟨w, Mof ρ l0, κ, 0, ρ⟩ κ' ρ' l1 w' ∧ AVR κ' ρ' v x

mutual
def AV.ren (r : Nat → Nat) : AV → AV
  | .lp k o => .lp (r k) o
  | .pe k i f s => .pe (r k) i f s
  | .ls k lo n s => .ls (r k) lo n s
  | .ag cs => .ag (AV.rens r cs)
  | .tup cs => .tup (AV.rens r cs)
  | .j => .j
  | .d c => .d c
  | .ep a b c e => .ep a b c e
  | .pp a b => .pp a b
def AV.rens (r : Nat → Nat) : List AV → List AV
  | [] => []
  | x :: xs => AV.ren r x :: AV.rens r xs
end

theorem rens_eq (r : Nat → Nat) : ∀ xs, AV.rens r xs = xs.map (AV.ren r)
  | [] => rfl
  | x :: xs => by simp [AV.rens, rens_eq r xs]

theorem ments_of {k : Nat} : ∀ {cs : List AV} {i : Nat} {c : AV}, cs[i]? = some c → AV.ment k c = true → AV.ments k cs = true
  | [], i, c, h, _ => by simp at h
  | x :: r, 0, c, h, hm => by simp at h; subst h; simp [AV.ments, hm]
  | x :: r, i + 1, c, h, hm => by simp [AV.ments, ments_of (cs := r) (i := i) (by simpa using h) hm]

theorem AVR.ren {κ : Know} {ρ ρ' : Place} {r : Nat → Nat} {v : Value} {x : AV} (h : AVR κ ρ v x) (hr : ∀ k, AV.ment k x = true → ∀ L, ρ' (r k) = some L → ρ k = some L) : AVR κ ρ' v (AV.ren r x) := by
  induction h with
  | j x => exact .j x
  | d x c h => exact .d x c h
  | ag vs cs hn ho h ih =>
    refine .ag vs _ (by rw [rens_eq]; simpa using hn) ho fun i v c h1 h2 => ?_
    rw [rens_eq, List.getElem?_map, Option.map_eq_some_iff] at h2
    obtain ⟨c', h3, rfl⟩ := h2
    exact ih i v c' h1 h3 fun k hk => hr k (by simpa [AV.ment] using ments_of h3 hk)
  | tup vs cs hn h ih =>
    refine .tup vs _ (by rw [rens_eq]; simpa using hn) fun i v c h1 h2 => ?_
    rw [rens_eq, List.getElem?_map, Option.map_eq_some_iff] at h2
    obtain ⟨c', h3, rfl⟩ := h2
    exact ih i v c' h1 h3 fun k hk => hr k (by simpa [AV.ment] using ments_of h3 hk)
  | lp x id off h => exact .lp x _ off fun L' hL' => h L' (hr id (by simp [AV.ment]) L' hL')
  | pe x id i f sz h => exact .pe x _ i f sz fun L' hL' => h L' (hr id (by simp [AV.ment]) L' hL')
  | ls x id lo len sz h => exact .ls x _ lo len sz fun L' hL' => h L' (hr id (by simp [AV.ment]) L' hL')
  | ep b off rows i f sz vs hz h1 h2 => exact .ep b off rows i f sz vs hz h1 h2
  | pp b off cs o vs h1 h2 => exact .pp b off cs o vs h1 h2

/-- The names that a call's new locals get. -/
def renN (k j : Nat) : Nat := k + 1000 * j
theorem renN_inj {k i j : Nat} (h : renN k i = renN k j) : i = j := by unfold renN at h; omega

def renL (k : Nat) : LL → LL
  | [] => []
  | (j, o) :: r => (renN k j, o) :: renL k r

/-- Rows alone, whose new names nobody has. -/
def freshL (k : Nat) (t : TL) (l : LL) : LL → Bool
  | [] => true
  | (j, .row true _ _) :: r => !(tment (renN k j) t || lment (renN k j) l) && Nat.blt (renN k j) 1000000 && freshL k t l r
  | _ :: _ => false

theorem freshL_get {k : Nat} {t : TL} {l : LL} : ∀ {l1 : LL}, freshL k t l l1 = true → ∀ j, lget j l1 = .no ∨ ((∃ sz rows, lget j l1 = .row true sz rows) ∧ tment (renN k j) t = false ∧ lment (renN k j) l = false ∧ renN k j < 1000000)
  | [], _, j => .inl rfl
  | (i, .row true sz rows) :: r, h, j => by
    simp only [freshL, Bool.and_eq_true, Bool.not_eq_true', Bool.or_eq_false_iff] at h
    rw [lget_cons]
    by_cases hj : j = i
    · subst hj; rw [if_pos rfl]; exact .inr ⟨⟨sz, rows, rfl⟩, h.1.1.1, h.1.1.2, Nat.le_of_ble_eq_true h.1.2⟩
    · rw [if_neg hj]; exact freshL_get h.2 j

theorem lget_append : ∀ {a b : LL} (j : Nat), lget j (a ++ b) = if (a.map (·.1)).contains j then lget j a else lget j b
  | [], b, j => by simp
  | (k, x) :: r, b, j => by
    rw [List.cons_append, lget_cons, lget_append j, lget_cons, List.map_cons, List.contains_cons]
    by_cases h : j = k
    · subst h; simp
    · rw [if_neg h, if_neg h, beq_eq_false_iff_ne.2 h, Bool.false_or]

theorem lget_none : ∀ {a : LL} (j : Nat), (a.map (·.1)).contains j = false → lget j a = .no
  | [], j, _ => rfl
  | (k, x) :: r, j, h => by
    simp only [List.map_cons, List.contains_cons, Bool.or_eq_false_iff, beq_eq_false_iff_ne] at h
    rw [lget_cons, if_neg h.1]
    exact lget_none j h.2

theorem lget_renL {k : Nat} : ∀ {l : LL} (j : Nat), lget (renN k j) (renL k l) = lget j l
  | [], j => rfl
  | (i, o) :: r, j => by
    rw [renL, lget_cons, lget_cons, lget_renL j]
    by_cases h : j = i
    · subst h; simp
    · rw [if_neg h, if_neg fun e => h (renN_inj e)]

theorem renL_key {k : Nat} : ∀ {l : LL} (id : Nat), (renL k l).map (·.1) |>.contains id → ∃ j, id = renN k j ∧ (l.map (·.1)).contains j
  | [], id, h => by simp [renL] at h
  | (i, o) :: r, id, h => by
    simp only [renL, List.map_cons, List.contains_cons, Bool.or_eq_true, beq_iff_eq] at h
    rcases h with h | h
    · exact ⟨i, h, by simp⟩
    · obtain ⟨j, h1, h2⟩ := renL_key id h
      exact ⟨j, h1, by rw [List.map_cons, List.contains_cons, h2, Bool.or_true]⟩

theorem noObj_keys {k : Nat} {t : TL} {l : LL} : ∀ {l1 : LL}, freshL k t l l1 = true → ∀ j, (l1.map (·.1)).contains j = true → lget j l1 ≠ .no
  | [], _, j, h => by simp at h
  | (i, .row true sz rows) :: r, hf, j, h => by
    simp only [freshL, Bool.and_eq_true] at hf
    rw [lget_cons]
    by_cases hj : j = i
    · rw [if_pos hj]; simp
    · rw [if_neg hj]
      refine noObj_keys hf.2 j ?_
      simpa [hj] using h

/-- The values of x name none but the locals of l1. -/
def namesIn (l1 : LL) (x : AV) : Prop := ∀ j, AV.ment j x = true → lget j l1 ≠ .no

section
variable {P : Program} {G : Ctx} {κ : Know} {ρ : Place} {t : TL} {l : LL} {a : Act} {w : World}

theorem Mem.sub (hm : Mem G κ ρ l w) : Mem ⟨w, Mof (fun _ => none) [], κ, 0, fun _ => none⟩ κ (fun _ => none) [] w :=
  ⟨fun _ => rfl, fun i j Li Lj _ hi => (by cases hi), fun i L hi => (by cases hi), hm.kn, hm.one, fun b o x h => .inl h, ⟨rfl, rfl, rfl, Nat.le_refl _, fun _ _ _ => rfl⟩, fun i L _ h => h⟩

/-- Behind a call that is handed data alone: its new rows are the caller's, under new names. -/
theorem Rel.joined (hr : Rel G κ ρ t l a w) {κ' : Know} {ρ1 : Place} {l1 : LL} {w' : World} {k : Nat} (hk : κ.le κ') (hm1 : Mem ⟨w, Mof (fun _ => none) [], κ, 0, fun _ => none⟩ κ' ρ1 l1 w') (hf : freshL k t l l1 = true) :
    ∃ ρ', Rel G κ' ρ' t (renL k l1 ++ l) a w' ∧ ∀ v x, namesIn l1 x → AVR κ' ρ1 v x → AVR κ' ρ' v (AV.ren (renN k) x) := by
  obtain ⟨hm, hdf, hsz, htm⟩ := hr
  have hM : ∀ b, ¬ Mof (fun _ => none) [] b := fun b ⟨id, L, h, _⟩ => by cases h
  have hblk : ∀ b, b < w.heap.size → w'.heap[b]? = w.heap[b]? := fun b hb => hm1.fr.block b hb (hM b)
  have hnew : ∀ j L, ρ1 j = some L → lget j l1 ≠ .no → (∀ o x, ¬ κ' L.b o x) ∧ w.heap.size ≤ L.b := fun j L hj hl => by
    rcases freshL_get hf j with h | ⟨⟨sz, rows, h⟩, _⟩
    · exact absurd h hl
    · obtain ⟨h1, h2⟩ := hm1.fre j L hj (by rw [h]; rfl)
      exact ⟨h1, h2.resolve_right (hM _)⟩
  have hno : ∀ j L, ρ1 j = some L → lget j l1 ≠ .no := fun j L hj h => by
    have := hm1.ob j; rw [h] at this; simp only [ObR] at this; rw [this] at hj; cases hj
  classical
  let ρ' : Place := fun id => if h : ∃ j, id = renN k j ∧ lget j l1 ≠ .no then ρ1 h.choose else ρ id
  have hρ1 : ∀ j, lget j l1 ≠ .no → ρ' (renN k j) = ρ1 j := fun j hj => by
    have hex : ∃ i, renN k j = renN k i ∧ lget i l1 ≠ .no := ⟨j, rfl, hj⟩
    simp only [ρ']
    rw [dif_pos hex]
    rw [← renN_inj hex.choose_spec.1]
  have hρ2 : ∀ id, (¬ ∃ j, id = renN k j ∧ lget j l1 ≠ .no) → ρ' id = ρ id := fun id h => dif_neg h
  have hl1 : ∀ j, lget j l1 ≠ .no → lget (renN k j) (renL k l1 ++ l) = lget j l1 := fun j hj => by
    rw [lget_append]
    split
    · exact lget_renL j
    · rename_i hc
      have := lget_none (a := renL k l1) (renN k j) (by simpa using hc)
      rw [lget_renL] at this
      exact absurd this hj
  have hl2 : ∀ id, (¬ ∃ j, id = renN k j ∧ lget j l1 ≠ .no) → lget id (renL k l1 ++ l) = lget id l := fun id h => by
    rw [lget_append, if_neg]
    intro hc
    obtain ⟨j, h1, h2⟩ := renL_key id hc
    exact h ⟨j, h1, noObj_keys hf j h2⟩
  have hav : ∀ v x, (∀ j, lget j l1 ≠ .no → AV.ment (renN k j) x = false) → AVR κ ρ v x → AVR κ' ρ' v x := by
    intro v x hx h
    have := (h.mono hk).ren (ρ' := ρ') (r := id) (fun i hi L hL => by
      by_cases hex : ∃ j, i = renN k j ∧ lget j l1 ≠ .no
      · obtain ⟨j, rfl, hj⟩ := hex; rw [hx j hj] at hi; cases hi
      · rw [id, hρ2 i hex] at hL; exact hL)
    have e : AV.ren id x = x := by
      clear this h hx
      have key : ∀ n (x : AV), SizeOf.sizeOf x < n → AV.ren id x = x := by
        intro n
        induction n with
        | zero => intro x h; omega
        | succ n ih =>
          intro x hx
          have lst : ∀ (cs : List AV), (∀ c, c ∈ cs → SizeOf.sizeOf c < n) → AV.rens id cs = cs := by
            intro cs h
            rw [rens_eq]
            conv => rhs; rw [← List.map_id cs]
            exact List.map_congr_left fun c hc => ih c (h c hc)
          cases x with
          | ag cs => simp only [AV.ren]; rw [lst cs fun c hc => by have := List.sizeOf_lt_of_mem hc; simp at hx; omega]
          | tup cs => simp only [AV.ren]; rw [lst cs fun c hc => by have := List.sizeOf_lt_of_mem hc; simp at hx; omega]
          | _ => rfl
      exact key _ x (Nat.lt_succ_self _)
    rw [e] at this; exact this
  have hfresh : ∀ j, lget j l1 ≠ .no → tment (renN k j) t = false ∧ lment (renN k j) l = false := fun j hj => ⟨((freshL_get hf j).resolve_left hj).2.1, ((freshL_get hf j).resolve_left hj).2.2.1⟩
  refine ⟨ρ', ⟨⟨fun id => ?_, fun i j Li Lj hij hi hj hwi => ?_, fun i L hi hwi => ?_, hm1.kn, hm1.one, fun b o x h => ?_, ?_, fun i L hi h => ?_⟩, hdf, hsz, fun i => hav _ _ (fun j hj => tment_get (hfresh j hj).1 i) (htm i)⟩, fun v x hx h => h.ren fun j hj L hL => ?_⟩
  · by_cases hex : ∃ j, id = renN k j ∧ lget j l1 ≠ .no
    · obtain ⟨j, rfl, hj⟩ := hex
      rw [hl1 j hj]
      obtain ⟨⟨sz, rows, ho⟩, _⟩ := (freshL_get hf j).resolve_left hj
      have := hm1.ob j
      rw [ho] at this ⊢
      obtain ⟨L, arr, E, fz, g1, g2⟩ := this
      exact ⟨L, arr, E, fz, (hρ1 j hj).trans g1, g2⟩
    · rw [hl2 id hex]
      refine (hm.ob id).move hk (hρ2 id hex) (fun L hL => hblk _ ((hm.ob id).block hL)) ?_
      intro m cs hb i c v hc hv
      exact hav v c (fun j hj => ments_get ((lment_get (hfresh j hj).2).2 id m cs hb) i c hc) hv
  · by_cases hei : ∃ p, i = renN k p ∧ lget p l1 ≠ .no
    · obtain ⟨p, rfl, hp⟩ := hei
      rw [hρ1 p hp] at hi
      rw [hl1 p hp] at hwi
      by_cases hej : ∃ q, j = renN k q ∧ lget q l1 ≠ .no
      · obtain ⟨q, rfl, hq⟩ := hej
        rw [hρ1 q hq] at hj
        exact hm1.sep p q Li Lj (fun e => hij (by rw [e])) hi hj hwi
      · rw [hρ2 j hej] at hj
        have := (hm.ob j).block hj
        have := (hnew p Li hi hp).2
        omega
    · rw [hρ2 i hei] at hi
      rw [hl2 i hei] at hwi
      by_cases hej : ∃ q, j = renN k q ∧ lget q l1 ≠ .no
      · obtain ⟨q, rfl, hq⟩ := hej
        rw [hρ1 q hq] at hj
        have := (hm.ob i).block hi
        have := (hnew q Lj hj hq).2
        omega
      · rw [hρ2 j hej] at hj
        exact hm.sep i j Li Lj hij hi hj hwi
  · by_cases hei : ∃ p, i = renN k p ∧ lget p l1 ≠ .no
    · obtain ⟨p, rfl, hp⟩ := hei
      rw [hρ1 p hp] at hi
      obtain ⟨h1, h2⟩ := hnew p L hi hp
      exact ⟨h1, .inl (Nat.le_trans hm.fr.size h2)⟩
    · rw [hρ2 i hei] at hi
      rw [hl2 i hei] at hwi
      obtain ⟨h1, h2⟩ := hm.fre i L hi hwi
      refine ⟨fun o x hx => ?_, h2⟩
      rcases hm1.kn0 _ o x hx with h | h
      · exact h1 o x h
      · have := (hm.ob i).block hi
        have h := h.resolve_right (hM _)
        simp only at h; omega
  · rcases hm1.kn0 b o x h with h | h
    · exact hm.kn0 b o x h
    · exact .inr (.inl (Nat.le_trans hm.fr.size (h.resolve_right (hM _))))
  · have f1 := hm.fr; have f2 := hm1.fr
    exact ⟨f2.os.trans f1.os, f2.tape.trans f1.tape, f2.output.trans f1.output, Nat.le_trans f1.size f2.size,
      fun b hb hMb => (hblk b (Nat.lt_of_lt_of_le hb f1.size)).trans (f1.block b hb hMb)⟩
  · by_cases hex : ∃ j, i = renN k j ∧ lget j l1 ≠ .no
    · obtain ⟨j, rfl, hj⟩ := hex
      have := ((freshL_get hf j).resolve_left hj).2.2.2
      omega
    · rw [hρ2 i hex] at h; exact hm.par i L hi h
  · have hj' := hx j hj
    rw [hρ1 j hj'] at hL
    exact hL

theorem VCall.of_fn {f : FuncId} {xs : List AV} {x : AV} {l1 : LL} {k : Nat} {K : AV → TL → LL → Prop} (h : Fn P f xs [] x l1) (hn : namesIn l1 x) (hf : freshL k t l l1 = true)
    (hK : K (AV.ren (renN k) x) t (renL k l1 ++ l)) : VCall P f xs (some k) t l K where
  en := h.en
  out := fun G κ ρ a w vs hr hs hv => by
    refine Calls.mono (h.out κ (fun _ => none) w vs hr.m.sub hs fun i v y h1 h2 => (hv i v y h1 h2).less (fun id L h => by cases h)) ?_
    rintro e w' ⟨v, κ', ρ1, he, h1, h2, h3⟩
    obtain ⟨ρ', h4, h5⟩ := hr.joined h1 h2 hf
    exact ⟨v, κ', ρ', _, _, _, he, h1, h4, h5 v x hn h3, hK⟩

/-- A call that hands back data, or nothing new of the caller's. -/
theorem VCall.of_data {f : FuncId} {xs : List AV} {x : AV} {dst : Option Nat} {K : AV → TL → LL → Prop} (h : Fn P f xs [] x []) (hn : namesIn [] x) (hK : K (AV.ren (renN 0) x) t l) : VCall P f xs dst t l K where
  en := h.en
  out := fun G κ ρ a w vs hr hs hv => by
    refine Calls.mono (h.out κ (fun _ => none) w vs hr.m.sub hs fun i v y h1 h2 => (hv i v y h1 h2).less (fun id L h => by cases h)) ?_
    rintro e w' ⟨v, κ', ρ1, he, h1, h2, h3⟩
    obtain ⟨ρ', h4, h5⟩ := hr.joined (k := 0) h1 h2 rfl
    exact ⟨v, κ', ρ', _, _, _, he, h1, h4, h5 v x hn h3, hK⟩

end
end Go.V
/- Contracts proved: from the text to what a call does. -/
namespace Go.V

def slots : Nat → List AV → TL
  | _, [] => []
  | i, x :: r => (i, x) :: slots (i + 1) r

theorem get_slots : ∀ {xs : List AV} {i : Nat} (k : Nat), get k (slots i xs) = if i ≤ k then xs.getD (k - i) .j else .j
  | [], i, k => by simp [slots, get]
  | x :: r, i, k => by
    rw [slots, get_cons, get_slots]
    by_cases h : k = i
    · subst h; simp
    · rw [if_neg h]
      by_cases h2 : i + 1 ≤ k
      · rw [if_pos h2, if_pos (by omega)]
        have : k - i = (k - (i + 1)) + 1 := by omega
        rw [this]; simp
      · rw [if_neg h2, if_neg (by omega)]

/-- What is told of the slots, of the locals, is so there too. -/
def entT (t' : TL) : TL → Prop
  | [] => True
  | (k, x) :: r => get k t' = x ∧ entT t' r
def entL (l' : LL) : LL → Prop
  | [] => True
  | (k, o) :: r => lget k l' = o ∧ entL l' r

theorem entT_get {t' : TL} : ∀ {T : TL}, entT t' T → ∀ i, get i T = .j ∨ get i T = get i t'
  | [], _, i => .inl rfl
  | (k, x) :: r, h, i => by
    rw [get_cons]
    by_cases hi : i = k
    · subst hi; rw [if_pos rfl]; exact .inr h.1.symm
    · rw [if_neg hi]; exact entT_get h.2 i
theorem entL_get {l' : LL} : ∀ {L : LL}, entL l' L → ∀ i, lget i L = .no ∨ lget i L = lget i l'
  | [], _, i => .inl rfl
  | (k, x) :: r, h, i => by
    rw [lget_cons]
    by_cases hi : i = k
    · subst hi; rw [if_pos rfl]; exact .inr h.1.symm
    · rw [if_neg hi]; exact entL_get h.2 i

/-- Rows that a call was handed, as it leaves them. -/
def parsOnly : LL → Bool
  | [] => true
  | (k, .row true _ _) :: r => Nat.ble 1000000 k && parsOnly r
  | _ :: _ => false

theorem parsOnly_get : ∀ {l : LL}, parsOnly l = true → ∀ i, lget i l = .no ∨ (1000000 ≤ i ∧ ∃ sz rows, lget i l = .row true sz rows)
  | [], _, i => .inl rfl
  | (k, .row true sz rows) :: r, h, i => by
    simp only [parsOnly, Bool.and_eq_true] at h
    rw [lget_cons]
    by_cases hi : i = k
    · subst hi; rw [if_pos rfl]; exact .inr ⟨Nat.le_of_ble_eq_true h.1, sz, rows, rfl⟩
    · rw [if_neg hi]; exact parsOnly_get h.2 i

/-- The same data; or no elements, where nil is told. -/
def wkC (c c' : C) : Prop :=
  match c, c' with
  | .s (.slice none 0 0), .sl [] => True
  | c, c' => c = c'

theorem wkC_sound {κ : Know} {v : Value} {c c' : C} (h : wkC c c') (hr : Repr κ v c) : Repr κ v c' := by
  unfold wkC at h
  split at h
  · cases hr; exact .nil
  · subst h; exact hr

/-- Structs by their cells. -/
def flatA : List AV → List AV
  | [] => []
  | .ag cs :: r => cs ++ flatA r
  | x :: r => x :: flatA r

def shapeA : List AV → List AV → Bool
  | [], [] => true
  | .ag cs :: r, .ag cs' :: r' => Nat.beq cs.length cs'.length && shapeA r r'
  | .ag _ :: _, _ :: _ => false
  | _ :: _, .ag _ :: _ => false
  | _ :: r, _ :: r' => shapeA r r'
  | _, _ => false

/-- The results, as they are told: data, rows that become data, rows that are handed on. -/
def finK (l : LL) : List AV → List AV → Nat → LL → Prop
  | [], [], j, l1 => entL l l1 ∧ (parsOnly l1 && Nat.ble j 1000000) = true
  | x :: xs, y :: ys, j, l1 => match x, y with
    | .d (.s (.slice none 0 0)), .d (.sl []) => finK l xs ys (j + 1) l1
    | .d c, .d c' => c = c' ∧ finK l xs ys (j + 1) l1
    | .ls id lo n sz, .d (.sl r) => match lget id l with
      | .row true sz' rows => (sz = sz' ∧ n + lo ≤ rows.length ∧ (rows.drop lo).take n = r) ∧ finK (lrem id l) xs ys (j + 1) l1
      | _ => False
    | .ls id lo n sz, .ls j' lo' n' s2 => match lget id l with
      | .row true sz' rows => (sz = sz' ∧ s2 = sz ∧ j' = j ∧ lo' = lo ∧ n' = n ∧ Nat.blt j 1000000 = true) ∧ ∃ l2, l1 = (j, .row true sz rows) :: l2 ∧ finK (lrem id l) xs ys (j + 1) l2
      | _ => False
    | _, _ => False
  | _, _, _, _ => False

section
variable {P : Program} {G : Ctx} {κ : Know} {ρ : Place} {t : TL} {l : LL} {a : Act} {w : World}

/-- Its cells are known from here on. -/
def Know.add (κ : Know) (b o n : Nat) (arr : Array Value) : Know := fun b' o' x => κ b' o' x ∨ (b' = b ∧ o ≤ o' ∧ o' < o + n ∧ arr[o']? = some x)

theorem Mem.drop (hm : Mem G κ ρ l w) (id : Nat) : Mem G κ (ρ.put id none) (lrem id l) w := by
  have hp : ∀ {i L}, (ρ.put id none) i = some L → i ≠ id ∧ ρ i = some L := fun {i L} h => by
    unfold Place.put at h; split at h
    · cases h
    · rename_i hne; exact ⟨hne, h⟩
  refine ⟨fun i => ?_, fun i j Li Lj hij hi hj hw => ?_, fun i L hi hw => ?_, hm.kn, hm.one, hm.kn0, hm.fr, fun i L hi h => hm.par i L hi (hp h).2⟩
  · rw [lget_lrem]; split
    · rename_i e; subst e; exact put_self _ _
    · rename_i hne
      refine (hm.ob i).move (Know.le_refl _) (if_neg hne) (fun _ _ => rfl) (fun _ _ _ _ _ _ _ h => h.gone)
  · obtain ⟨h1, h2⟩ := hp hi
    rw [lget_lrem, if_neg h1] at hw
    exact hm.sep i j Li Lj hij h2 (hp hj).2 hw
  · obtain ⟨h1, h2⟩ := hp hi
    rw [lget_lrem, if_neg h1] at hw
    exact hm.fre i L h2 hw

theorem Mem.none (hm : Mem G κ ρ l w) : Mem G κ (fun _ => none) [] w :=
  ⟨fun _ => rfl, fun i j Li Lj _ hi => (by cases hi), fun i L hi => (by cases hi), hm.kn, hm.one, hm.kn0, hm.fr, fun i L _ h => (by cases h)⟩

/-- A row that may be written becomes data. -/
theorem Mem.freeze (hm : Mem G κ ρ l w) {id sz : Nat} {rows : List (List C)} {L : Loc} (hl : lget id l = .row true sz rows) (hL : ρ id = some L) :
    ∃ κ', κ.le κ' ∧ Mem G κ' (ρ.put id Option.none) (lrem id l) w ∧ (∀ b o x, κ' b o x → κ b o x ∨ b = L.b) ∧ (∀ v lo n, AVR κ ρ v (.ls id lo n sz) → n + lo ≤ rows.length → AVR κ' (ρ.put id Option.none) v (.d (.sl ((rows.drop lo).take n)))) := by
  have hob := hm.ob id
  rw [hl] at hob
  obtain ⟨L', arr, E, fz, hL', hh, hN, hfz, hz, hkn, hcs⟩ := hob
  rw [hL] at hL'; cases hL'
  obtain ⟨f1, f2⟩ := hm.fre id L hL (by rw [hl]; rfl)
  have hd := hm.drop id
  refine ⟨κ.add L.b L.o rows.flatten.length arr, fun b o x h => .inl h, ⟨fun i => ?_, hd.sep, fun i Li hi hw => ?_, fun b o x h => ?_, fun b o x h => ?_, fun b o x h => ?_, hd.fr, hd.par⟩, fun b o x h => h.imp (fun h => h) And.left, fun v lo n hv hle => ?_⟩
  · refine (hd.ob i).move (fun b o x h => .inl h) rfl (fun _ _ => rfl) (fun _ _ _ _ _ _ _ h => h.mono fun b o x h => .inl h)
  · obtain ⟨h1, h2⟩ := hd.fre i Li hi hw
    refine ⟨fun o x hx => ?_, h2⟩
    rcases hx with hx | ⟨hx, _⟩
    · exact h1 o x hx
    · have hne : i ≠ id := fun e => by subst e; simp [Place.put] at hi
      have hi' : ρ i = some Li := by rw [← hi]; exact (if_neg hne).symm
      exact hm.sep id i L Li (Ne.symm hne) hL hi' (by rw [hl]; rfl) hx.symm
  · rcases h with h | ⟨rfl, _, _, h3⟩
    · exact hm.kn b o x h
    · rw [cell_heap hh]; exact h3
  · rcases h with h | ⟨rfl, h1, h2, h3⟩
    · exact hm.one b o x h
    · obtain ⟨y, h4, _, h5⟩ := hcs (o - L.o) _ (List.getElem?_eq_getElem (by omega))
      rw [show L.o + (o - L.o) = o by omega, h3] at h4; cases h4; exact h5
  · rcases h with h | ⟨rfl, _⟩
    · exact hm.kn0 b o x h
    · exact .inr f2
  · obtain ⟨cap, A, rfl, hA, hc1, hc2, hc3⟩ := hv.ls_at hL
    have hrl : ((rows.drop lo).take n).length = n := by simp; omega
    rcases Nat.eq_zero_or_pos n with h0 | hp
    · subst h0; simp only [List.take_zero]; exact .d _ _ (.none _ _)
    · have hA' : A = ⟨L.b, L.o + lo * sz, Option.none⟩ := hA.resolve_right (by omega)
      subst hA'
      have hrz : ∀ q, q ∈ (rows.drop lo).take n → q.length = sz := fun q hq => hz q (List.mem_of_mem_drop (List.mem_of_mem_take hq))
      have hfl : rows.flatten.length = rows.length * sz := flatten_length hz
      have hlo : lo * sz + n * sz ≤ rows.length * sz := by rw [← Nat.add_mul]; exact Nat.mul_le_mul_right _ (by omega)
      have key : ∀ (k : Nat) (c : C), ((rows.drop lo).take n).flatten[k]? = some c → k < n * sz ∧ rows.flatten[lo * sz + k]? = some c := fun k c hc => by
        have hk := row_get hrz hrl hc
        exact ⟨hk, by rw [← flatten_sub hz hk]; exact hc⟩
      refine .d _ _ (.sl L.b (L.o + lo * sz) n cap _ (fun k => arr.getD (L.o + lo * sz + k) undef) hrl.symm hc1 (fun k c hc => ?_) (fun k c hc => ?_))
      all_goals
        obtain ⟨hk, hc'⟩ := key k c hc
        obtain ⟨x, h4, h5, _⟩ := hcs _ c hc'
        rw [← Nat.add_assoc] at h4
        have e : arr.getD (L.o + lo * sz + k) undef = x := by rw [Array.getD_eq_getD_getElem?, h4]; rfl
        rw [e]
      · exact .inr ⟨rfl, by omega, by omega, h4⟩
      · exact h5.mono fun b o x h => .inl h

/-- A place is given a name. -/
theorem Mem.name (hm : Mem G κ ρ l w) {k : Nat} {o : Ob} {L : Loc} (hb : ∀ j Lj, ρ j = some Lj → Lj.b ≠ L.b) (hκ : ∀ o x, ¬ κ L.b o x) (hfr : G.w0.heap.size ≤ L.b ∨ G.M L.b)
    (hl : lget k l = .no) (hx : ∀ i m cs, lget i l = .box m cs → AV.ments k cs = false) (ho : ObR κ (ρ.put k (some L)) w k o) (hsm : k < 1000000) : Mem G κ (ρ.put k (some L)) ((k, o) :: l) w := by
  refine hm.change (k := k) (ButB.refl w L.b) (fun j Lj _ hj => hb j Lj hj) hκ hfr (fun j hj => .inl (if_neg hj)) (fun j hj => .inl (by rw [lget_cons, if_neg hj])) (fun L1 h => by rw [put_self] at h; cases h; rfl) ?_ (by rw [lget_cons, if_pos rfl]) ho (fun L hi _ => by omega)
  intro v x j m cs hbx hxm hv
  obtain ⟨i, hi⟩ := List.mem_iff_getElem?.1 hxm
  exact hv.put (ments_get (hx j m cs hbx) i x hi)

theorem ments_dIs (k : Nat) : ∀ ds : List C, AV.ments k (dIs ds) = false
  | [] => rfl
  | d :: r => by simpa [dIs, AV.ments, AV.ment] using ments_dIs k r

theorem finK_sound : ∀ {xs ys : List AV} {j : Nat} {l1 l : LL} {κ : Know} {ρ : Place}, Mem G κ ρ l w → finK l xs ys j l1 →
    ∃ κ' ρ', κ.le κ' ∧ Mem G κ' ρ' l1 w ∧ (∀ b o x, κ' b o x → κ b o x ∨ ∃ i L, ρ i = some L ∧ (lget i l).wr = true ∧ L.b = b) ∧
      (∀ i L, ρ' i = some L → j ≤ i ∧ (lget i l1).wr = true ∧ ∃ i' L', ρ i' = some L' ∧ (lget i' l).wr = true ∧ L'.b = L.b) ∧ (∀ i m cs, lget i l1 ≠ .box m cs) ∧ xs.length = ys.length ∧
      (∀ (i : Nat) v x y, xs[i]? = some x → ys[i]? = some y → AVR κ ρ v x → AVR κ' ρ' v y) ∧ ∀ (i : Nat) y, ys[i]? = some y → ∀ k, AV.ment k y = true → j ≤ k
  | [], [], j, l1, l, κ, ρ, hm, h => by
    unfold finK at h
    obtain ⟨h1, h2⟩ := h
    simp only [Bool.and_eq_true] at h2
    have hj := Nat.le_of_ble_eq_true h2.2
    have hp := parsOnly_get h2.1
    have hr : Rel G κ ρ [] l ⟨Array.replicate G.n undef, []⟩ w := ⟨hm, rfl, by simp, fun i => .j _⟩
    obtain ⟨ρ', g1, g2⟩ := hr.less (t' := []) (l' := l1) (fun i => .inl rfl) (entL_get h1)
    refine ⟨κ, ρ', Know.le_refl _, g2.m, fun b o x h => .inl h, fun i L hi => ?_, fun i m cs hb => ?_, rfl, fun i v x y h => (by simp at h), fun i y h => (by simp at h)⟩
    · have hob := g2.m.ob i
      rcases hp i with h3 | ⟨h3, sz, rows, h4⟩
      · rw [h3] at hob; simp only [ObR] at hob; rw [hob] at hi; cases hi
      · have hl : lget i l = .row true sz rows := by rcases entL_get h1 i with h5 | h5 <;> rw [h4] at h5; · cases h5
                                                     · exact h5.symm
        exact ⟨by omega, by rw [h4]; rfl, i, L, g1 i L hi, by rw [hl]; rfl, rfl⟩
    · rcases hp i with h3 | ⟨_, _, _, h3⟩ <;> rw [h3] at hb <;> cases hb
  | x :: xs, y :: ys, j, l1, l, κ, ρ, hm, h => by
    have step : ∀ {l1' : LL}, finK l xs ys (j + 1) l1' → (∀ κ' ρ' v, κ.le κ' → AVR κ ρ v x → AVR κ' ρ' v y) → (∀ k, AV.ment k y = false) →
        ∃ κ' ρ', κ.le κ' ∧ Mem G κ' ρ' l1' w ∧ (∀ b o x, κ' b o x → κ b o x ∨ ∃ i L, ρ i = some L ∧ (lget i l).wr = true ∧ L.b = b) ∧
          (∀ i L, ρ' i = some L → j ≤ i ∧ (lget i l1').wr = true ∧ ∃ i' L', ρ i' = some L' ∧ (lget i' l).wr = true ∧ L'.b = L.b) ∧ (∀ i m cs, lget i l1' ≠ .box m cs) ∧ (x :: xs).length = (y :: ys).length ∧
          (∀ (i : Nat) v x' y', (x :: xs)[i]? = some x' → (y :: ys)[i]? = some y' → AVR κ ρ v x' → AVR κ' ρ' v y') ∧ ∀ (i : Nat) y', (y :: ys)[i]? = some y' → ∀ k, AV.ment k y' = true → j ≤ k := by
      intro l1' h hxy hy0
      obtain ⟨κ', ρ', h1, h2, h3, h4, h5, h6, h7, h77⟩ := finK_sound hm h
      refine ⟨κ', ρ', h1, h2, h3, fun i L hi => ?_, h5, by simp [h6], fun i v x' y' hx hy hv => ?_, fun i y' hy k hk => ?_⟩
      · obtain ⟨h8, h9⟩ := h4 i L hi; exact ⟨by omega, h9⟩
      · cases i with
        | zero => simp at hx hy; subst hx; subst hy; exact hxy κ' ρ' v h1 hv
        | succ i => exact h7 i v x' y' (by simpa using hx) (by simpa using hy) hv
      · cases i with
        | zero => simp at hy; subst hy; rw [hy0 k] at hk; cases hk
        | succ i => have := h77 i y' (by simpa using hy) k hk; omega
    unfold finK at h
    split at h
    · exact step h (fun κ' ρ' v hk hv => by have := hv.repr; cases this; exact .d _ _ .nil) (fun k => rfl)
    · obtain ⟨rfl, h⟩ := h
      exact step h (fun κ' ρ' v hk hv => .d _ _ (hv.repr.mono hk)) (fun k => rfl)
    · rename_i id lo n sz r
      split at h
      · rename_i sz' rows hl
        obtain ⟨⟨rfl, hle, rfl⟩, h⟩ := h
        have hob := hm.ob id
        rw [hl] at hob
        obtain ⟨L, _, _, _, hL, _⟩ := hob
        obtain ⟨κ1, g1, g2, g3, g4⟩ := hm.freeze hl hL
        obtain ⟨κ', ρ', h1, h2, h3, h4, h5, h6, h7, h77⟩ := finK_sound g2 h
        have hp : ∀ {i Li}, (ρ.put id none) i = some Li → i ≠ id ∧ ρ i = some Li := fun {i Li} h => by
          unfold Place.put at h; split at h
          · cases h
          · rename_i hne; exact ⟨hne, h⟩
        refine ⟨κ', ρ', Know.le_trans g1 h1, h2, fun b o x hx => ?_, fun i Li hi => ?_, h5, by simp [h6], fun i v x' y' hx hy hv => ?_, fun i y' hy k hk => ?_⟩
        · rcases h3 b o x hx with h | ⟨i, Li, hi, hw, hb⟩
          · rcases g3 b o x h with h | h
            · exact .inl h
            · exact .inr ⟨id, L, hL, by rw [hl]; rfl, h.symm⟩
          · obtain ⟨e1, e2⟩ := hp hi
            rw [lget_lrem, if_neg e1] at hw
            exact .inr ⟨i, Li, e2, hw, hb⟩
        · obtain ⟨h8, h9, i', L', h10, h11, h12⟩ := h4 i Li hi
          obtain ⟨e1, e2⟩ := hp h10
          rw [lget_lrem, if_neg e1] at h11
          exact ⟨by omega, h9, i', L', e2, h11, h12⟩
        · cases i with
          | zero =>
            simp at hx hy; subst hx; subst hy
            have := (g4 v lo n hv hle).mono h1
            cases this with | d _ _ h => exact .d _ _ h
          | succ i =>
            have hx' : xs[i]? = some x' := by simpa using hx
            exact h7 i v x' y' hx' (by simpa using hy) (hv.mono g1).gone
        · cases i with
          | zero => simp at hy; subst hy; cases hk
          | succ i => have := h77 i y' (by simpa using hy) k hk; omega
      · exact h.elim
    · rename_i id lo n sz j' lo' n' s2
      split at h
      · rename_i sz' rows hl
        obtain ⟨⟨e1, e2, e3, e4, e5, hsm⟩, l2, rfl, h⟩ := h
        have hsm := Nat.le_of_ble_eq_true hsm
        have e2 := e2.symm
        subst e1; subst e2; subst e3; subst e4; subst e5
        have hob := hm.ob id
        rw [hl] at hob
        obtain ⟨L, arr, E, fz, hL, hh, hN, hfz, hz, hkn, hcs⟩ := hob
        obtain ⟨f1, f2⟩ := hm.fre id L hL (by rw [hl]; rfl)
        have hp : ∀ {i Li}, (ρ.put id none) i = some Li → i ≠ id ∧ ρ i = some Li := fun {i Li} h => by
          unfold Place.put at h; split at h
          · cases h
          · rename_i hne; exact ⟨hne, h⟩
        obtain ⟨κ', ρ', h1, h2, h3, h4, h5, h6, h7, h77⟩ := finK_sound (hm.drop id) h
        have hsep : ∀ i Li, (ρ.put id none) i = some Li → Li.b ≠ L.b := fun i Li hi => by
          obtain ⟨e1, e2⟩ := hp hi
          exact Ne.symm (hm.sep id i L Li (Ne.symm e1) hL e2 (by rw [hl]; rfl))
        have hno : lget j' l2 = .no := by
          have := h2.ob j'
          cases ho : lget j' l2 with
          | no => rfl
          | box m cs => exact absurd ho (h5 _ _ _)
          | row m sz rows =>
            rw [ho] at this
            obtain ⟨Lx, _, _, _, hx, _⟩ := this
            have := (h4 j' Lx hx).1
            omega
        have hκ : ∀ o x, ¬ κ' L.b o x := fun o x hx => by
          rcases h3 _ o x hx with h | ⟨i, Li, hi, _, hb⟩
          · exact f1 o x h
          · exact hsep i Li hi hb
        have hm' := h2.name (k := j') (L := L) (o := .row true sz rows) (fun i Li hi => by
            obtain ⟨_, _, i', Li', e1, _, e2⟩ := h4 i Li hi
            rw [← e2]; exact hsep i' Li' e1) hκ f2 hno (fun i m cs hb => absurd hb (h5 i m cs)) ⟨L, arr, E, fz, put_self _ _, hh, hN, hfz, hz, hkn, fun k c hc => by
              obtain ⟨x, g1, g2, g3⟩ := hcs k c hc
              exact ⟨x, g1, g2.mono h1, g3⟩⟩ hsm
        have hlsnew : ∀ v, AVR κ ρ v (.ls id lo' n' sz) → AVR κ' (ρ'.put j' (some L)) v (.ls j' lo' n' sz) := fun v hv =>
          .ls _ _ _ _ _ fun L1 h => by rw [put_self] at h; cases h; exact hv.ls_at hL
        refine ⟨κ', ρ'.put j' (some L), h1, hm', fun b o x hx => ?_, fun i Li hi => ?_, fun i m cs => ?_, by simp [h6], fun i v x' y' hx hy hv => ?_, fun i y' hy k hk => ?_⟩
        · rcases h3 b o x hx with h | ⟨i, Li, hi, hw, hb⟩
          · exact .inl h
          · obtain ⟨e1, e2⟩ := hp hi
            rw [lget_lrem, if_neg e1] at hw
            exact .inr ⟨i, Li, e2, hw, hb⟩
        · by_cases hij : i = j'
          · subst hij
            rw [put_self] at hi; cases hi
            exact ⟨Nat.le_refl _, by rw [lget_cons, if_pos rfl]; rfl, id, L, hL, by rw [hl]; rfl, rfl⟩
          · have hi' : ρ' i = some Li := by rw [← hi]; exact (if_neg hij).symm
            obtain ⟨h8, h9, i', L'', h10, h11, h12⟩ := h4 i Li hi'
            obtain ⟨e1, e2⟩ := hp h10
            rw [lget_lrem, if_neg e1] at h11
            exact ⟨by omega, by rw [lget_cons, if_neg hij]; exact h9, i', L'', e2, h11, h12⟩
        · rw [lget_cons]; split
          · simp
          · exact h5 i m cs
        · cases i with
          | zero => simp at hx hy; subst hx; subst hy; exact hlsnew v hv
          | succ i =>
            have hx' : xs[i]? = some x' := by simpa using hx
            have hy' : ys[i]? = some y' := by simpa using hy
            have hr := h7 i v x' y' hx' hy' hv.gone
            refine hr.put (Bool.eq_false_iff.2 fun hk => ?_)
            have := h77 i y' hy' _ hk
            omega
        · cases i with
          | zero => simp at hy; subst hy; simp [AV.ment] at hk; omega
          | succ i => have := h77 i y' (by simpa using hy) k hk; omega
      · exact h.elim
    · exact h.elim
  | [], _ :: _, _, _, _, _, _, _, h => by unfold finK at h; exact h.elim
  | _ :: _, [], _, _, _, _, _, _, h => by unfold finK at h; exact h.elim

/-- From the cells to the results. -/
theorem flatA_get {κ κ' : Know} {ρ ρ' : Place} : ∀ {xs ys : List AV}, shapeA xs ys = true → (∀ (i : Nat) v x y, (flatA xs)[i]? = some x → (flatA ys)[i]? = some y → AVR κ ρ v x → AVR κ' ρ' v y) → (flatA xs).length = (flatA ys).length →
    xs.length = ys.length ∧ ∀ (i : Nat) v x y, xs[i]? = some x → ys[i]? = some y → AVR κ ρ v x → AVR κ' ρ' v y
  | [], [], _, _, _ => ⟨rfl, fun i v x y h => (by simp at h)⟩
  | [], _ :: _, h, _, _ => by simp [shapeA] at h
  | x :: xs, [], h, _, _ => by unfold shapeA at h; split at h <;> simp_all
  | x :: xs, y :: ys, h, hg, hl => by
    have tail : ∀ {cs cs' : List AV}, flatA (x :: xs) = cs ++ flatA xs → flatA (y :: ys) = cs' ++ flatA ys → cs.length = cs'.length → shapeA xs ys = true →
        (∀ v, (∀ (k : Nat) u c c', cs[k]? = some c → cs'[k]? = some c' → AVR κ ρ u c → AVR κ' ρ' u c') → AVR κ ρ v x → AVR κ' ρ' v y) →
        (x :: xs).length = (y :: ys).length ∧ ∀ (i : Nat) v x' y', (x :: xs)[i]? = some x' → (y :: ys)[i]? = some y' → AVR κ ρ v x' → AVR κ' ρ' v y' := by
      intro cs cs' e1 e2 hc hs hxy
      rw [e1, e2] at hl
      simp only [List.length_append] at hl
      have h0 : ∀ (i : Nat) v a b, (flatA xs)[i]? = some a → (flatA ys)[i]? = some b → AVR κ ρ v a → AVR κ' ρ' v b := fun i v a b ha hb hv =>
        hg (cs.length + i) v a b (by rw [e1, List.getElem?_append_right (by omega)]; simpa using ha) (by rw [e2, List.getElem?_append_right (by omega), show cs.length + i - cs'.length = i by omega]; exact hb) hv
      obtain ⟨g1, g2⟩ := flatA_get hs h0 (by omega)
      refine ⟨by simp [g1], fun i v x' y' hx hy hv => ?_⟩
      cases i with
      | zero =>
        simp at hx hy; subst hx; subst hy
        refine hxy v (fun k u c c' hc1 hc2 hu => ?_) hv
        have hk := some_lt hc1
        have hk' := some_lt hc2
        exact hg k u c c' (by rw [e1, List.getElem?_append_left hk]; exact hc1) (by rw [e2, List.getElem?_append_left hk']; exact hc2) hu
      | succ i => exact g2 i v x' y' (by simpa using hx) (by simpa using hy) hv
    unfold shapeA at h
    split at h
    · rename_i e1 e2; cases e1
    · rename_i cs r cs' r' e1 e2
      cases e1; cases e2
      simp only [Bool.and_eq_true] at h
      replace h : cs.length = cs'.length ∧ shapeA xs ys = true := ⟨Nat.eq_of_beq_eq_true h.1, h.2⟩
      refine tail rfl rfl h.1 h.2 fun v hcs hv => ?_
      obtain ⟨vs, rfl, hn, ho, hv⟩ := hv.agg
      refine .ag vs _ (by rw [hn, h.1]) ho fun k u c' h1 h2 => ?_
      have hk : k < cs.length := by rw [h.1]; exact some_lt h2
      exact hcs k u _ c' (List.getElem?_eq_getElem hk) h2 (hv k u _ h1 (List.getElem?_eq_getElem hk))
    · cases h
    · cases h
    · rename_i a r b r' n1 n2 e1 e2
      cases e1; cases e2
      have f1 : flatA (x :: xs) = [x] ++ flatA xs := by
        cases x with
        | ag cs => exact (n1 cs rfl).elim
        | _ => rfl
      have f2 : flatA (y :: ys) = [y] ++ flatA ys := by
        cases y with
        | ag cs => exact (n2 cs rfl).elim
        | _ => rfl
      exact tail f1 f2 rfl h fun v hcs hv => hcs 0 v x y rfl rfl hv
    · cases h

end
end Go.V
/- Contracts proved, part 2: the text of a function. -/
namespace Go.V

def resK (ty : TypeId → Ty) (t : TL) (l : LL) : List ResultVar → (List AV → Prop) → Prop
  | [], K => K []
  | .tmp i :: r, K => force (get i t) fun x => resK ty t l r fun xs => K (x :: xs)
  | .cell i e :: r, K => force (get i t) fun a => ifB (okT (ty e)) (loadK (ty e) a l fun x => resK ty t l r fun xs => K (x :: xs))

def resOne (tmps : Array Value) : ResultVar → Sem Value
  | .tmp t => pure (tmps.getD t undef)
  | .cell p t => do loadVar t (← asAddr (tmps.getD p undef))

/-- What is asked at a function's end. -/
def endK (ty : TypeId → Ty) (rs : List ResultVar) (x1 : AV) (l1 : LL) (e : Ex) (t : TL) (l : LL) : Prop :=
  match e with
  | .x _ => False
  | _ => resK ty t l rs fun ys => match x1 with
    | .tup zs => ifB (!Nat.beq ys.length 1) (ifB (shapeA ys zs) (finK l (flatA ys) (flatA zs) 0 l1))
    | y => ifB (shapeA ys [y]) (finK l (flatA ys) (flatA [y]) 0 l1)

section
variable {P : Program} {G : Ctx} {κ : Know} {ρ : Place} {t : TL} {l : LL} {a : Act} {w : World}

theorem resK_sound {ty : TypeId → Ty} (hty : TyOk P ty) (hr : Rel G κ ρ t l a w) : ∀ {rs : List ResultVar} {K : List AV → Prop}, resK ty t l rs K →
    ∃ vs xs, (rs.mapM (resOne a.tmps)).run P w = .ok vs w ∧ vs.length = xs.length ∧ (∀ (i : Nat) v x, vs[i]? = some v → xs[i]? = some x → AVR κ ρ v x) ∧ K xs
  | [], K, h => ⟨[], [], by simp, rfl, by simp, h⟩
  | .tmp i :: r, K, h => by
    unfold resK at h
    rw [force_eq] at h
    obtain ⟨vs, xs, h1, h2, h3, h4⟩ := resK_sound hty hr h
    refine ⟨a.tmps.getD i undef :: vs, get i t :: xs, ?_, by simp [h2], fun j v x hv hx => ?_, h4⟩
    · simp only [List.mapM_cons, resOne, Sem.run_bind, Sem.run_pure, Result.andThen_ok, h1]
    · cases j with
      | zero => simp only [List.getElem?_cons_zero, Option.some.injEq] at hv hx; subst hv; subst hx; exact hr.tm i
      | succ j => exact h3 j v x (by simpa using hv) (by simpa using hx)
  | .cell i e :: r, K, h => by
    unfold resK at h
    rw [force_eq] at h
    obtain ⟨hb, h⟩ := ifB_iff.1 h
    rw [hty _ hb] at h hb
    obtain ⟨v0, x0, g1, g2, g3⟩ := loadK_sound (P := P) hr.m hb h (hr.tm i)
    obtain ⟨vs, xs, h1, h2, h3, h4⟩ := resK_sound hty hr g3
    refine ⟨v0 :: vs, x0 :: xs, ?_, by simp [h2], fun j v x hv hx => ?_, h4⟩
    · have : (do loadVar e (← asAddr (a.tmps.getD i undef)) : Sem Value).run P w = .ok v0 w := by
        cases hp : a.tmps.getD i undef with
        | pointer p =>
          cases p with
          | some ad => rw [hp] at g1; exact g1
          | none => rw [hp] at g1; simp [Instr.loadAt, Instr.sureAddr] at g1
        | _ => rw [hp] at g1; simp [Instr.loadAt, Instr.sureAddr] at g1
      simp only [List.mapM_cons, resOne, Sem.run_bind] at this ⊢
      simp only [this, Result.andThen_ok, h1, Sem.run_pure]
    · cases j with
      | zero => simp only [List.getElem?_cons_zero, Option.some.injEq] at hv hx; subst hv; subst hx; exact g2
      | succ j => exact h3 j v x (by simpa using hv) (by simpa using hx)

theorem results_run {fn : Func} {tmps : Array Value} {vs : List Value}
    (h : (fn.results.toList.mapM (resOne tmps)).run P w = .ok vs w) :
    (results fn tmps).run P w = .ok (if h : vs.toArray.size = 1 then vs.toArray[0] else .tuple vs.toArray) w := by
  have e : results fn tmps = (do let vs ← fn.results.mapM (resOne tmps); pure (if h : vs.size = 1 then vs[0] else .tuple vs)) := by
    unfold results
    congr 1
  rw [e, Array.mapM_eq_mapM_toList]
  simp only [Sem.run_bind, Sem.run_map]
  simp only [h, Result.andThen_ok, Sem.run_pure]

theorem Fn.intro {ty : TypeId → Ty} {ks : List Nat} {f : FuncId} {fn : Func} {c : Code} {xs : List AV} {l0 : LL} {x1 : AV} {l1 : LL} (hty : TyOk P ty) (hf : P.funcs[f]? = some fn) (hb : fn.body = some c)
    (hname : (fn.name == "runtime.NumGoroutine") = false) (hx : Nat.ble xs.length fn.ntmps = true) (hd : dstCode fn.ntmps c = true)
    (h : vcCode P ty ks c (slots 0 xs) l0 (endK ty fn.results.toList x1 l1)) : Fn P f xs l0 x1 l1 where
  en := ⟨fn, hf, by rw [hb]; rfl, hname⟩
  out := fun κ ρ w vs hm hvs hv => by
    have hxl := Nat.le_of_ble_eq_true hx
    refine calls_of_wp hf hb (Code.wp_mono ?_ (vcCode_sound (G := ⟨w, Mof ρ l0, κ, fn.ntmps, ρ⟩) hty c _ κ ρ _ _ _ w hd ?_ h))
    · rintro e a' w' ⟨x, κ', ρ', t', l', h1, h2, h3, h4⟩
      have key : endK ty fn.results.toList x1 l1 .n t' l' → a'.defers = [] ∧ ∃ v, (results fn a'.tmps).run P w' = .ok v w' ∧ ∃ v_1 κ' ρ', Ending.returned v = .returned v_1 ∧ κ.le κ' ∧ Mem ⟨w, Mof ρ l0, κ, 0, ρ⟩ κ' ρ' l1 w' ∧ AVR κ' ρ' v_1 x1 := by
        intro h4
        refine ⟨h3.df, ?_⟩
        unfold endK at h4
        obtain ⟨us, ys, g1, g2, g3, g4⟩ := resK_sound hty h3 h4
        refine ⟨_, results_run g1, (if h : us.toArray.size = 1 then us.toArray[0] else .tuple us.toArray), ?_⟩
        have hm3 : Mem ⟨w, Mof ρ l0, κ, 0, ρ⟩ κ' ρ' l' w' := ⟨h3.m.ob, h3.m.sep, h3.m.fre, h3.m.kn, h3.m.one, h3.m.kn0, ⟨h3.m.fr.os, h3.m.fr.tape, h3.m.fr.output, h3.m.fr.size, h3.m.fr.block⟩, h3.m.par⟩
        have one : ∀ y, ifB (shapeA ys [y]) (finK l' (flatA ys) (flatA [y]) 0 l1) → ∃ κ2 ρ2, Ending.returned (if h : us.toArray.size = 1 then us.toArray[0] else .tuple us.toArray) = Ending.returned (if h : us.toArray.size = 1 then us.toArray[0] else .tuple us.toArray) ∧ κ.le κ2 ∧ Mem ⟨w, Mof ρ l0, κ, 0, ρ⟩ κ2 ρ2 l1 w' ∧ AVR κ2 ρ2 (if h : us.toArray.size = 1 then us.toArray[0] else .tuple us.toArray) y := by
          intro y hfin
          replace hfin := ifB_iff.1 hfin
          obtain ⟨κ2, ρ2, k1, k2, _, _, _, k6, k7, _⟩ := finK_sound hm3 hfin.2
          replace ⟨k6, k7⟩ := flatA_get hfin.1 k7 k6
          have hl1 : us.length = 1 := by rw [g2, k6]; rfl
          refine ⟨κ2, ρ2, rfl, Know.le_trans h2 k1, k2, ?_⟩
          match us, ys, hl1, k6, g2 with
          | [u], [y'], _, _, _ => exact k7 0 u y' y rfl rfl (g3 0 u y' rfl rfl)
        split at g4
        · rename_i zs
          obtain ⟨hb1, g4⟩ := ifB_iff.1 g4
          replace g4 := ifB_iff.1 g4
          obtain ⟨κ2, ρ2, k1, k2, _, _, _, k6, k7, _⟩ := finK_sound hm3 g4.2
          replace ⟨k6, k7⟩ := flatA_get g4.1 k7 k6
          have hne : ¬ us.toArray.size = 1 := fun e => by
            have : ys.length = 1 := by rw [← g2]; simpa using e
            rw [this] at hb1; simp at hb1
          refine ⟨κ2, ρ2, rfl, Know.le_trans h2 k1, k2, ?_⟩
          rw [dif_neg hne]
          refine .tup _ _ (by simp [g2, k6]) fun i v z hv hz => ?_
          have hv' : us[i]? = some v := by simpa using hv
          have hiy : i < ys.length := by rw [← g2]; exact some_lt hv'
          have hyi : ys[i]? = some ys[i] := List.getElem?_eq_getElem hiy
          exact k7 i v _ z hyi hz (g3 i v _ hv' hyi)
        · exact one _ g4
      cases e with
      | normal => have h1' : some Ex.n = some x := h1; cases h1'; exact key h4
      | ret => have h1' : some Ex.r = some x := h1; cases h1'; exact key h4
      | exit id => have h1' : some (Ex.x id) = some x := h1; cases h1'; exact (show False from h4).elim
      | _ => simp [exOf] at h1
    · refine ⟨⟨hm.ob, hm.sep, hm.fre, hm.kn, hm.one, hm.kn0, ⟨rfl, rfl, rfl, Nat.le_refl _, fun _ _ _ => rfl⟩, fun i L _ h => h⟩, rfl, (by show (vs ++ Array.replicate (fn.ntmps - vs.size) undef).size = fn.ntmps; rw [Array.size_append, Array.size_replicate]; omega), fun i => ?_⟩
      rw [get_slots, if_pos (Nat.zero_le _)]
      simp only [Nat.sub_zero]
      rcases Nat.lt_or_ge i vs.size with hlt | hge
      · have h1 : (vs ++ Array.replicate (fn.ntmps - vs.size) undef).getD i undef = vs[i] := by
          rw [Array.getD_eq_getD_getElem?, Array.getElem?_append_left hlt, Array.getElem?_eq_getElem hlt]; rfl
        rw [h1]
        have hix : i < xs.length := by omega
        have h2 : xs.getD i .j = xs[i] := by simp [List.getD_eq_getElem?_getD, hix]
        rw [h2]
        exact hv i _ _ (by simp) (List.getElem?_eq_getElem hix)
      · have : xs.getD i .j = .j := by rw [List.getD_eq_getElem?_getD, List.getElem?_eq_none (by omega)]; rfl
        rw [this]; exact .j _

end
end Go.V
/- Rules: loops, names, rows that become data. -/
namespace Go.V

def renT (r : Nat → Nat) : TL → TL
  | [] => []
  | (k, x) :: t => (k, AV.ren r x) :: renT r t
def Ob.ren (r : Nat → Nat) : Ob → Ob
  | .no => .no
  | .box w cs => .box w (AV.rens r cs)
  | .row w sz rows => .row w sz rows
def renLL (r : Nat → Nat) : LL → LL
  | [] => []
  | (k, o) :: l => (r k, Ob.ren r o) :: renLL r l
def swp (k k' i : Nat) : Nat := bif Nat.beq i k then k' else i

theorem get_renT {r : Nat → Nat} : ∀ {t : TL} (i : Nat), get i (renT r t) = AV.ren r (get i t)
  | [], i => rfl
  | (k, x) :: t, i => by rw [renT, get_cons, get_cons, get_renT i]; split <;> rfl

theorem swp_eq (k k' i : Nat) : swp k k' i = if i = k then k' else i := by
  unfold swp
  by_cases h : i = k
  · subst h; simp
  · have : Nat.beq i k = false := Bool.eq_false_iff.2 fun e => h (Nat.eq_of_beq_eq_true e)
    simp [this, h]

theorem lget_swp {k k' : Nat} (hk : k ≠ k') : ∀ {l : LL}, lget k' l = .no → (∀ p, p ∈ l → p.1 ≠ k') → ∀ i, lget i (renLL (swp k k') l) = if i = k' then Ob.ren (swp k k') (lget k l) else if i = k then .no else Ob.ren (swp k k') (lget i l)
  | [], _, _, i => by simp [renLL, lget, Ob.ren]
  | (j, o) :: l, h, hp, i => by
    have hj : j ≠ k' := hp (j, o) (by simp)
    rw [lget_cons, if_neg (Ne.symm hj)] at h
    rw [renLL, lget_cons, lget_swp hk h (fun p hp' => hp p (by simp [hp'])), lget_cons, lget_cons, swp_eq]
    by_cases hjk : j = k
    · subst hjk
      simp only [if_true]
      by_cases hi : i = k'
      · simp [hi]
      · rw [if_neg hi, if_neg hi]
        by_cases hij : i = j
        · subst hij; simp [hi]
        · simp [hij, hi]
    · simp only [hjk, if_false]
      by_cases hij : i = j
      · subst hij; simp [hj, hjk]
      · simp only [hij, if_false]
        have : ¬ k = j := fun e => hjk e.symm
        simp only [this, if_false]

theorem lment_keys {k : Nat} : ∀ {l : LL}, lment k l = false → ∀ p, p ∈ l → p.1 ≠ k
  | [], _, p, hp => by simp at hp
  | (j, .box m cs) :: r, h, p, hp => by
    simp only [lment, Bool.or_eq_false_iff] at h
    rcases List.mem_cons.1 hp with rfl | hp
    · exact fun e => by rw [show j = k from e] at h; simp at h
    · exact lment_keys h.2 p hp
  | (j, .no) :: r, h, p, hp => by
    simp only [lment, Bool.or_eq_false_iff] at h
    rcases List.mem_cons.1 hp with rfl | hp
    · exact fun e => by rw [show j = k from e] at h; simp at h
    · exact lment_keys h.2 p hp
  | (j, .row m sz rows) :: r, h, p, hp => by
    simp only [lment, Bool.or_eq_false_iff] at h
    rcases List.mem_cons.1 hp with rfl | hp
    · exact fun e => by rw [show j = k from e] at h; simp at h
    · exact lment_keys h.2 p hp

section
variable {P : Program} {G : Ctx} {κ : Know} {ρ : Place} {t : TL} {l : LL} {a : Act} {w : World}

theorem ObR.ren {id id' : Nat} {ρ' : Place} {r : Nat → Nat} {o : Ob} (h : ObR κ ρ w id o) (hρ : ρ' id' = ρ id) (ha : ∀ m cs, o = .box m cs → ∀ (i : Nat) c v, cs[i]? = some c → AVR κ ρ v c → AVR κ ρ' v (AV.ren r c)) : ObR κ ρ' w id' (Ob.ren r o) := by
  cases o with
  | no => simp only [ObR, Ob.ren] at h ⊢; rw [hρ]; exact h
  | box m cs =>
    obtain ⟨L, arr, E, fz, h1, h2, h3, h4, h5⟩ := h
    refine ⟨L, arr, E, fz, by rw [hρ]; exact h1, h2, h3, h4, fun k c hc => ?_⟩
    rw [rens_eq, List.getElem?_map, Option.map_eq_some_iff] at hc
    obtain ⟨c', hc', rfl⟩ := hc
    obtain ⟨x, h6, h7, h8⟩ := h5 k c' hc'
    exact ⟨x, h6, ha m cs rfl k c' x hc' h7, h8⟩
  | row m sz rows =>
    obtain ⟨L, arr, E, fz, h1, h2⟩ := h
    exact ⟨L, arr, E, fz, by rw [hρ]; exact h1, h2⟩

/-- A local gets another name. -/
theorem Rel.swap (hr : Rel G κ ρ t l a w) {k k' : Nat} (hk : k ≠ k') (ht : tment k' t = false) (hl : lment k' l = false) (hsm : k < 1000000 ∧ k' < 1000000) : ∃ ρ', Rel G κ ρ' (renT (swp k k') t) (renLL (swp k k') l) a w := by
  obtain ⟨hm, hdf, hsz, htm⟩ := hr
  obtain ⟨hl1, hl2⟩ := lment_get hl
  have hlg := lget_swp hk hl1 (lment_keys hl)
  let ρ' : Place := fun i => if i = k' then ρ k else if i = k then none else ρ i
  have hav : ∀ v x, AV.ment k' x = false → AVR κ ρ v x → AVR κ ρ' v (AV.ren (swp k k') x) := fun v x hx h => h.ren fun i hi L hL => by
    rw [swp_eq] at hL
    by_cases hik : i = k
    · subst hik; simpa [ρ'] using hL
    · have hik' : i ≠ k' := fun e => by subst e; rw [hx] at hi; cases hi
      rw [if_neg hik] at hL
      simpa [ρ', hik, hik'] using hL
  have hback : ∀ i L, ρ' i = some L → ∃ j, ρ j = some L ∧ (lget i (renLL (swp k k') l)).wr = (lget j l).wr ∧ j = if i = k' then k else i := fun i L hi => by
    by_cases h1 : i = k'
    · subst h1
      refine ⟨k, by simpa [ρ'] using hi, ?_, by simp⟩
      rw [hlg, if_pos rfl]; cases lget k l <;> rfl
    · by_cases h2 : i = k
      · subst h2; simp [ρ', h1] at hi
      · refine ⟨i, by simpa [ρ', h1, h2] using hi, ?_, by simp [h1]⟩
        rw [hlg, if_neg h1, if_neg h2]; cases lget i l <;> rfl
  refine ⟨ρ', ⟨fun id => ?_, fun i j Li Lj hij hi hj hw => ?_, fun i L hi hw => ?_, hm.kn, hm.one, hm.kn0, hm.fr, fun i L hi h => ?_⟩, hdf, hsz, fun i => ?_⟩
  · rw [hlg]
    by_cases h1 : id = k'
    · rw [if_pos h1]
      exact (hm.ob k).ren (by simp [ρ', h1]) fun m cs e i c v hc hv => hav v c (ments_get (hl2 k m cs e) i c hc) hv
    · rw [if_neg h1]
      by_cases h2 : id = k
      · rw [if_pos h2]; simp [ObR, ρ', h2, hk]
      · rw [if_neg h2]
        exact (hm.ob id).ren (by simp [ρ', h1, h2]) fun m cs e i c v hc hv => hav v c (ments_get (hl2 id m cs e) i c hc) hv
  · obtain ⟨i', h1, h2, h3⟩ := hback i Li hi
    obtain ⟨j', h4, _, h6⟩ := hback j Lj hj
    rw [h2] at hw
    refine hm.sep i' j' Li Lj (fun e => hij ?_) h1 h4 hw
    rw [h3, h6] at e
    by_cases ei : i = k' <;> by_cases ej : j = k' <;> simp [ei, ej] at e ⊢
    · subst e; simp [ρ', ej] at hj
    · subst e; simp [ρ', ei] at hi
    · exact e
  · obtain ⟨i', h1, h2, _⟩ := hback i L hi
    rw [h2] at hw
    exact hm.fre i' L h1 hw
  · obtain ⟨i', h1, _, h3⟩ := hback i L h
    rw [if_neg (by omega)] at h3
    subst h3; exact hm.par i' L hi h1
  · rw [get_renT]
    exact hav _ _ (tment_get ht i) (htm i)

theorem VLoop.ren {ty : TypeId → Ty} {ks : List Nat} {b : Code} {Q : Ex → TL → LL → Prop} (k k' : Nat) (hc : (!Nat.beq k k' && !(tment k' t || lment k' l) && Nat.blt k 1000000 && Nat.blt k' 1000000) = true) (h : VLoop P ty ks b (renT (swp k k') t) (renLL (swp k k') l) Q) : VLoop P ty ks b t l Q where
  out := fun G κ ρ a w hd hr => by
    simp only [Bool.and_eq_true, Bool.not_eq_true', Bool.or_eq_false_iff] at hc
    obtain ⟨ρ', hr'⟩ := hr.swap (k := k) (k' := k') (fun e => by subst e; simp at hc) hc.1.1.2.1 hc.1.1.2.2 ⟨Nat.le_of_ble_eq_true hc.1.2, Nat.le_of_ble_eq_true hc.2⟩
    exact h.out G κ ρ' a w hd hr'

theorem least {p : Nat → Prop} (h : ∃ n, p n) : ∃ n, p n ∧ ∀ m, p m → n ≤ m := by
  obtain ⟨n, hn⟩ := h
  induction n using Nat.strongRecOn with
  | _ n ih =>
    by_cases hm : ∃ m, m < n ∧ p m
    · obtain ⟨m, h1, h2⟩ := hm; exact ih m h1 h2
    · exact ⟨n, hn, fun m hm' => Nat.le_of_not_lt fun hlt => hm ⟨m, hlt, hm'⟩⟩

open Classical in
/-- A loop, by what holds at its head. -/
theorem VLoop.inv {ty : TypeId → Ty} {ks : List Nat} {b : Code} {Q : Ex → TL → LL → Prop} (hty : TyOk P ty) {S : Type} (T : S → TL) (L : S → LL) (I : S → Prop) (μ : S → Nat) (s0 : S) (h0 : I s0) (hT : entT t (T s0)) (hL : entL l (L s0))
    (round : ∀ s, I s → vcCode P ty ks b (T s) (L s) fun e t' l' => match e with
      | .n => ∃ s', I s' ∧ μ s' < μ s ∧ entT t' (T s') ∧ entL l' (L s')
      | .r => Q .r t' l'
      | .x i => Q (.x i) t' l') : VLoop P ty ks b t l Q where
  out := fun G κ ρ a w hd hr => by
    let J : Act → World → Nat → Prop := fun a' w' n => ∃ s κ' ρ', μ s = n ∧ I s ∧ κ.le κ' ∧ Rel G κ' ρ' (T s) (L s) a' w'
    let M : Act → World → Nat := fun a' w' => if h : ∃ n, J a' w' n then Classical.choose (least h) else 0
    have hM : ∀ {a' w'}, (∃ n, J a' w' n) → J a' w' (M a' w') ∧ ∀ m, J a' w' m → M a' w' ≤ m := fun {a' w'} h => by
      have : M a' w' = Classical.choose (least h) := dif_pos h
      rw [this]; exact Classical.choose_spec (least h)
    refine wp_loop (fun a' w' => ∃ n, J a' w' n) M ?_ ?_
    · obtain ⟨ρ', _, h⟩ := hr.less (entT_get hT) (entL_get hL)
      exact ⟨_, s0, κ, ρ', rfl, h0, Know.le_refl _, h⟩
    · intro a1 w1 hJ
      obtain ⟨⟨s, κ1, ρ1, hs, hI, hk1, hr1⟩, _⟩ := hM hJ
      refine Code.wp_mono ?_ (vcCode_sound hty b _ κ1 ρ1 _ _ a1 w1 hd hr1 (round s hI))
      rintro e a2 w2 ⟨x, κ2, ρ2, t2, l2, h1, h2, h3, h4⟩
      cases e with
      | normal =>
        have h1' : some Ex.n = some x := h1
        cases h1'
        obtain ⟨s', g1, g2, g3, g4⟩ := h4
        obtain ⟨ρ', _, h⟩ := h3.less (entT_get g3) (entL_get g4)
        have hJ2 : J a2 w2 (μ s') := ⟨s', κ2, ρ', rfl, g1, Know.le_trans hk1 h2, h⟩
        have := (hM ⟨_, hJ2⟩).2 _ hJ2
        exact ⟨⟨_, hJ2⟩, by omega⟩
      | ret => have h1' : some Ex.r = some x := h1; cases h1'; exact ⟨.r, κ2, ρ2, t2, l2, rfl, Know.le_trans hk1 h2, h3, h4⟩
      | exit id => have h1' : some (Ex.x id) = some x := h1; cases h1'; exact ⟨.x id, κ2, ρ2, t2, l2, rfl, Know.le_trans hk1 h2, h3, h4⟩
      | _ => simp [exOf] at h1

end
end Go.V
namespace Go.V

/-! A table of types. -/

def tyGet (i : Nat) : List (Nat × Ty) → Ty
  | [] => Ty.none
  | (k, T) :: r => bif Nat.beq i k then T else tyGet i r

def TabOk (P : Program) : List (Nat × Ty) → Prop
  | [] => True
  | (k, T) :: r => T = tyOf P k ∧ TabOk P r

theorem tyOk_tab {P : Program} {tab : List (Nat × Ty)} (h : TabOk P tab) : TyOk P (fun i => tyGet i tab) := by
  intro i hi
  show tyGet i tab = tyOf P i
  replace hi : okT (tyGet i tab) = true := hi
  induction tab with
  | nil => exact absurd (show okT Ty.none = true from hi) (by decide)
  | cons p r ih =>
    obtain ⟨k, T⟩ := p
    have e : tyGet i ((k, T) :: r) = if i = k then T else tyGet i r := by
      show (bif Nat.beq i k then T else tyGet i r) = _
      by_cases h : i = k
      · subst h; simp
      · have : Nat.beq i k = false := Bool.eq_false_iff.2 fun e => h (Nat.eq_of_beq_eq_true e)
        simp [this, h]
    rw [e] at hi ⊢
    split
    · rename_i hik; subst hik; exact h.1
    · rename_i hik
      rw [if_neg hik] at hi
      exact ih h.2 hi

/-! The stops' rules. -/

theorem Wr.fit {z : Int} {k : IntKind} {K : Int → Prop} (h : k.wrap z = z) (hk : K z) : Wr z k K := ⟨by rw [h]; exact hk⟩

theorem wrap_i64 {z : Int} (h : -9223372036854775808 ≤ z) (h' : z ≤ 9223372036854775807) : IntKind.i64.wrap z = z := by
  simp only [IntKind.wrap, IntKind.signed, IntKind.bits]
  simp
  omega

end Go.V
/- A call that is handed rows of the caller's own. -/
namespace Go.V

/-- What is handed, as the caller names it, and as the contract names it. -/
def arg1 (r : Nat → Nat) (x y : AV) : Prop :=
  match x, y with
  | .d c, .d c' => wkC c c'
  | .ls id lo n sz, .ls p lo' n' sz' => id = r p ∧ lo = lo' ∧ n = n' ∧ sz = sz'
  | _, _ => False

def args1 (r : Nat → Nat) : List AV → List AV → Prop
  | [], [] => True
  | x :: xs, y :: ys => arg1 r x y ∧ args1 r xs ys
  | _, _ => False

def argR (r : Nat → Nat) : List AV → List AV → Prop
  | [], [] => True
  | x :: xs, y :: ys => (match x, y with
    | .ag cs, .ag cs' => args1 r cs cs'
    | x, y => arg1 r x y) ∧ argR r xs ys
  | _, _ => False

def parR (r : Nat → Nat) (l : LL) : LL → Prop
  | [] => True
  | (p, o) :: q => (lget (r p) l = o ∧ ∀ p', lget p' q ≠ .no → r p' ≠ r p) ∧ parR r l q

def ret (r : Nat → Nat) (k j : Nat) : Nat := bif Nat.ble 1000000 j then r j else renN k j

def retL (r : Nat → Nat) (k : Nat) : LL → LL
  | [] => []
  | (j, o) :: q => (ret r k j, o) :: retL r k q

/-- Rows that the call was handed and hands back, rows that are new. -/
def freshR (r : Nat → Nat) (k : Nat) (t : TL) (l l0 : LL) : LL → Bool
  | [] => true
  | (j, .row true _ _) :: q => (bif Nat.ble 1000000 j then (match lget j l0 with | .no => false | _ => true) else !(tment (renN k j) t || lment (renN k j) l) && Nat.blt (renN k j) 1000000) && freshR r k t l l0 q
  | _ :: _ => false

def pmap : List (Nat × Nat) → Nat → Nat
  | [], i => i
  | (p, a) :: r, i => bif Nat.beq i p then a else pmap r i

theorem arg1_get {r : Nat → Nat} {κ : Know} {ρ ρ0 : Place} {x y : AV} {v : Value} (h : arg1 r x y) (hp : ∀ p L, ρ0 p = some L → ρ (r p) = some L) (hv : AVR κ ρ v x) : AVR κ ρ0 v y := by
  unfold arg1 at h
  split at h
  · exact .d _ _ (wkC_sound h hv.repr)
  · obtain ⟨rfl, rfl, rfl, rfl⟩ := h
    exact .ls _ _ _ _ _ fun L hL => hv.ls_at (hp _ L hL)
  · exact h.elim

theorem args1_get {r : Nat → Nat} {κ : Know} {ρ ρ0 : Place} (hp : ∀ p L, ρ0 p = some L → ρ (r p) = some L) : ∀ {xs ys : List AV}, args1 r xs ys → xs.length = ys.length ∧ ∀ (i : Nat) v x y, xs[i]? = some x → ys[i]? = some y → AVR κ ρ v x → AVR κ ρ0 v y
  | [], [], _ => ⟨rfl, fun i v x y h => (by simp at h)⟩
  | [], _ :: _, h => h.elim
  | _ :: _, [], h => h.elim
  | x :: xs, y :: ys, h => by
    obtain ⟨h1, h2⟩ := args1_get (κ := κ) hp h.2
    refine ⟨by simp [h1], fun i v x' y' hx hy hv => ?_⟩
    cases i with
    | succ i => exact h2 i v x' y' (by simpa using hx) (by simpa using hy) hv
    | zero =>
      simp only [List.getElem?_cons_zero, Option.some.injEq] at hx hy
      subst hx; subst hy
      exact arg1_get h.1 hp hv

theorem argR_get {r : Nat → Nat} {κ : Know} {ρ ρ0 : Place} (hp : ∀ p L, ρ0 p = some L → ρ (r p) = some L) : ∀ {xs ys : List AV}, argR r xs ys → xs.length = ys.length ∧ ∀ (i : Nat) v x y, xs[i]? = some x → ys[i]? = some y → AVR κ ρ v x → AVR κ ρ0 v y
  | [], [], _ => ⟨rfl, fun i v x y h => (by simp at h)⟩
  | [], _ :: _, h => h.elim
  | _ :: _, [], h => h.elim
  | x :: xs, y :: ys, h => by
    obtain ⟨h1, h2⟩ := argR_get (κ := κ) hp h.2
    refine ⟨by simp [h1], fun i v x' y' hx hy hv => ?_⟩
    cases i with
    | succ i => exact h2 i v x' y' (by simpa using hx) (by simpa using hy) hv
    | zero =>
      simp only [List.getElem?_cons_zero, Option.some.injEq] at hx hy
      subst hx; subst hy
      have h3 := h.1
      split at h3
      · rename_i cs cs'
        obtain ⟨vs, rfl, hn, ho, hv⟩ := hv.agg
        obtain ⟨g1, g2⟩ := args1_get (κ := κ) hp h3
        refine .ag vs _ (by rw [hn, g1]) ho fun k u c e1 e2 => ?_
        have hk : k < cs.length := by rw [g1]; exact some_lt e2
        exact g2 k u _ c (List.getElem?_eq_getElem hk) e2 (hv k u _ e1 (List.getElem?_eq_getElem hk))
      · exact arg1_get h3 hp hv

theorem parR_get {r : Nat → Nat} {l : LL} : ∀ {l0 : LL}, parR r l l0 → ∀ p, lget p l0 ≠ .no → lget (r p) l = lget p l0 ∧ ∀ p', lget p' l0 ≠ .no → r p' = r p → p' = p
  | [], _, p, h => absurd rfl h
  | (q, o) :: s, h, p, hp => by
    obtain ⟨⟨h1, h2⟩, h3⟩ := h
    rw [lget_cons] at hp ⊢
    by_cases hpq : p = q
    · subst hpq
      rw [if_pos rfl]
      refine ⟨h1, fun p' hp' e => ?_⟩
      rw [lget_cons] at hp'
      by_cases hpp : p' = p
      · exact hpp
      · rw [if_neg hpp] at hp'; exact absurd e (h2 p' hp')
    · rw [if_neg hpq] at hp ⊢
      obtain ⟨g1, g2⟩ := parR_get h3 p hp
      refine ⟨g1, fun p' hp' e => ?_⟩
      rw [lget_cons] at hp'
      by_cases hpp : p' = q
      · subst hpp; exact absurd e.symm (h2 p hp)
      · rw [if_neg hpp] at hp'; exact g2 p' hp' e

theorem freshR_get {r : Nat → Nat} {k : Nat} {t : TL} {l l0 : LL} : ∀ {l1 : LL}, freshR r k t l l0 l1 = true → ∀ j, lget j l1 = .no ∨ ((∃ sz rows, lget j l1 = .row true sz rows) ∧
    (1000000 ≤ j ∧ lget j l0 ≠ .no ∨ j < 1000000 ∧ tment (renN k j) t = false ∧ lment (renN k j) l = false ∧ renN k j < 1000000))
  | [], _, j => .inl rfl
  | (i, .row true sz rows) :: q, h, j => by
    simp only [freshR, Bool.and_eq_true] at h
    rw [lget_cons]
    by_cases hj : j = i
    · subst hj
      rw [if_pos rfl]
      refine .inr ⟨⟨sz, rows, rfl⟩, ?_⟩
      have h := h.1
      cases hb : Nat.ble 1000000 j with
      | true =>
        rw [hb] at h
        refine .inl ⟨Nat.le_of_ble_eq_true hb, fun e => ?_⟩
        rw [e] at h; simp at h
      | false =>
        rw [hb] at h
        simp only [cond_false, Bool.and_eq_true, Bool.not_eq_true', Bool.or_eq_false_iff] at h
        exact .inr ⟨small hb, h.1.1, h.1.2, Nat.le_of_ble_eq_true h.2⟩
    · rw [if_neg hj]; exact freshR_get h.2 j

theorem ret_big {r : Nat → Nat} {k j : Nat} (h : 1000000 ≤ j) : ret r k j = r j := by unfold ret; rw [Nat.ble_eq_true_of_le h]; rfl
theorem ret_small {r : Nat → Nat} {k j : Nat} (h : j < 1000000) : ret r k j = renN k j := by
  unfold ret
  have : Nat.ble 1000000 j = false := Bool.eq_false_iff.2 fun e => by have := Nat.le_of_ble_eq_true e; omega
  rw [this]; rfl

section
variable {P : Program} {G : Ctx} {κ : Know} {ρ : Place} {t : TL} {l : LL} {a : Act} {w : World}

theorem lget_retL {r : Nat → Nat} {k : Nat} : ∀ {l1 : LL}, (∀ i j, (l1.map (·.1)).contains i = true → (l1.map (·.1)).contains j = true → ret r k i = ret r k j → i = j) → ∀ j, (l1.map (·.1)).contains j = true → lget (ret r k j) (retL r k l1) = lget j l1
  | [], _, j, h => by simp at h
  | (i, o) :: q, hi, j, hj => by
    rw [retL, lget_cons, lget_cons]
    by_cases h : j = i
    · subst h; simp
    · rw [if_neg h]
      have hj' : (q.map (·.1)).contains j = true := by
        rw [List.map_cons, List.contains_cons, beq_eq_false_iff_ne.2 h, Bool.false_or] at hj; exact hj
      have hne : ret r k j ≠ ret r k i := fun e => h (hi j i hj (by simp) e)
      rw [if_neg hne]
      exact lget_retL (fun a b ha hb => hi a b (by rw [List.map_cons, List.contains_cons, ha, Bool.or_true]) (by rw [List.map_cons, List.contains_cons, hb, Bool.or_true])) j hj'

theorem retL_key {r : Nat → Nat} {k : Nat} : ∀ {l : LL} (id : Nat), ((retL r k l).map (·.1)).contains id = true → ∃ j, id = ret r k j ∧ (l.map (·.1)).contains j = true
  | [], id, h => by simp [retL] at h
  | (i, o) :: q, id, h => by
    simp only [retL, List.map_cons, List.contains_cons, Bool.or_eq_true, beq_iff_eq] at h
    rcases h with h | h
    · exact ⟨i, h, by simp⟩
    · obtain ⟨j, h1, h2⟩ := retL_key id h
      exact ⟨j, h1, by rw [List.map_cons, List.contains_cons, h2, Bool.or_true]⟩

theorem key_retL {r : Nat → Nat} {k : Nat} : ∀ {l : LL} (j : Nat), (l.map (·.1)).contains j = true → ((retL r k l).map (·.1)).contains (ret r k j) = true
  | [], j, h => by simp at h
  | (i, o) :: q, j, h => by
    simp only [List.map_cons, List.contains_cons, Bool.or_eq_true, beq_iff_eq] at h
    simp only [retL, List.map_cons, List.contains_cons, Bool.or_eq_true, beq_iff_eq]
    rcases h with h | h
    · exact .inl (by rw [h])
    · exact .inr (key_retL j h)

theorem freshR_key {r : Nat → Nat} {k : Nat} {t : TL} {l l0 : LL} : ∀ {l1 : LL}, freshR r k t l l0 l1 = true → ∀ j, (l1.map (·.1)).contains j = true → lget j l1 ≠ .no
  | [], _, j, h => by simp at h
  | (i, .row true sz rows) :: q, hf, j, h => by
    simp only [freshR, Bool.and_eq_true] at hf
    rw [lget_cons]
    by_cases hj : j = i
    · rw [if_pos hj]; simp
    · rw [if_neg hj]
      refine freshR_key hf.2 j ?_
      rw [List.map_cons, List.contains_cons, beq_eq_false_iff_ne.2 hj, Bool.false_or] at h; exact h

theorem key_of {l : LL} {j : Nat} (h : lget j l ≠ .no) : (l.map (·.1)).contains j = true := by
  cases hc : (l.map (·.1)).contains j with
  | true => rfl
  | false => exact absurd (lget_none j hc) h

theorem AVR.same {κ κ' : Know} {ρ ρ' : Place} {v : Value} {x : AV} (hk : κ.le κ') (h : AVR κ ρ v x) (hr : ∀ k, AV.ment k x = true → ∀ L, ρ' k = some L → ρ k = some L) : AVR κ' ρ' v x := by
  have := (h.mono hk).ren (ρ' := ρ') (r := id) hr
  have e : AV.ren id x = x := by
    clear this h hr
    have key : ∀ n (x : AV), SizeOf.sizeOf x < n → AV.ren id x = x := by
      intro n
      induction n with
      | zero => intro x h; omega
      | succ n ih =>
        intro x hx
        have lst : ∀ (cs : List AV), (∀ c, c ∈ cs → SizeOf.sizeOf c < n) → AV.rens id cs = cs := by
          intro cs h
          rw [rens_eq]
          conv => rhs; rw [← List.map_id cs]
          exact List.map_congr_left fun c hc => ih c (h c hc)
        cases x with
        | ag cs => simp only [AV.ren]; rw [lst cs fun c hc => by have := List.sizeOf_lt_of_mem hc; simp at hx; omega]
        | tup cs => simp only [AV.ren]; rw [lst cs fun c hc => by have := List.sizeOf_lt_of_mem hc; simp at hx; omega]
        | _ => rfl
    exact key _ x (Nat.lt_succ_self _)
  rw [e] at this; exact this

open Classical in
/-- Where the rows lie that are handed. -/
noncomputable def hand (ρ : Place) (r : Nat → Nat) (l0 : LL) : Place := fun p => if lget p l0 = .no then none else ρ (r p)

theorem Mem.hand (hm : Mem G κ ρ l w) {r : Nat → Nat} {l0 : LL} (hp : parR r l l0) (h0 : parsOnly l0 = true) : Mem ⟨w, Mof (Go.V.hand ρ r l0) l0, κ, 0, Go.V.hand ρ r l0⟩ κ (Go.V.hand ρ r l0) l0 w := by
  have hh : ∀ {p L}, Go.V.hand ρ r l0 p = some L → lget p l0 ≠ .no ∧ ρ (r p) = some L := fun {p L} h => by
    unfold Go.V.hand at h; split at h
    · cases h
    · rename_i hne; exact ⟨hne, h⟩
  refine ⟨fun p => ?_, fun i j Li Lj hij hi hj hw => ?_, fun i L hi hw => ?_, hm.kn, hm.one, fun b o x h => .inl h, ⟨rfl, rfl, rfl, Nat.le_refl _, fun _ _ _ => rfl⟩, fun i L _ h => h⟩
  · rcases parsOnly_get h0 p with h | ⟨_, sz, rows, h⟩
    · rw [h]; simp [ObR, Go.V.hand, h]
    · have hob := hm.ob (r p)
      rw [(parR_get hp p (by rw [h]; simp)).1, h] at hob
      rw [h]
      obtain ⟨L, arr, E, fz, g1, g2⟩ := hob
      exact ⟨L, arr, E, fz, by simp [Go.V.hand, h, g1], g2⟩
  · obtain ⟨e1, e2⟩ := hh hi
    obtain ⟨e3, e4⟩ := hh hj
    obtain ⟨g1, g2⟩ := parR_get hp i e1
    exact hm.sep (r i) (r j) Li Lj (fun e => hij (g2 j e3 e.symm).symm) e2 e4 (by rw [g1]; exact hw)
  · obtain ⟨e1, e2⟩ := hh hi
    obtain ⟨g1, _⟩ := parR_get hp i e1
    exact ⟨(hm.fre (r i) L e2 (by rw [g1]; exact hw)).1, .inr ⟨i, L, hi, hw, rfl⟩⟩

/-- Behind a call that is handed rows of the caller's. -/
theorem Rel.joinedR (hr : Rel G κ ρ t l a w) {κ' : Know} {ρ1 : Place} {l0 l1 : LL} {w' : World} {k : Nat} {r : Nat → Nat} (hp : parR r l l0) (h0 : parsOnly l0 = true) (hk : κ.le κ')
    (hm1 : Mem ⟨w, Mof (Go.V.hand ρ r l0) l0, κ, 0, Go.V.hand ρ r l0⟩ κ' ρ1 l1 w') (hf : freshR r k t l l0 l1 = true) (hkeep : ∀ p, lget p l0 ≠ .no → lget p l1 ≠ .no) :
    ∃ ρ', Rel G κ' ρ' t (retL r k l1 ++ l) a w' ∧ ∀ v x, namesIn l1 x → AVR κ' ρ1 v x → AVR κ' ρ' v (AV.ren (ret r k) x) := by
  obtain ⟨hm, hdf, hsz, htm⟩ := hr
  have hh : ∀ {p L}, Go.V.hand ρ r l0 p = some L → lget p l0 ≠ .no ∧ ρ (r p) = some L := fun {p L} h => by
    unfold Go.V.hand at h; split at h
    · cases h
    · rename_i hne; exact ⟨hne, h⟩
  have hwr0 : ∀ p, lget p l0 ≠ .no → (lget (r p) l).wr = true ∧ 1000000 ≤ p := fun p h => by
    obtain ⟨g1, _⟩ := parR_get hp p h
    rcases parsOnly_get h0 p with h2 | ⟨h2, sz, rows, h3⟩
    · exact absurd h2 h
    · rw [g1, h3]; exact ⟨rfl, h2⟩
  have hM : ∀ b, Mof (Go.V.hand ρ r l0) l0 b → ∃ p L, lget p l0 ≠ .no ∧ ρ (r p) = some L ∧ L.b = b := fun b ⟨p, L, h1, _, h3⟩ => ⟨p, L, (hh h1).1, (hh h1).2, h3⟩
  have hkey := freshR_key hf
  have hnewid : ∀ j, lget j l1 ≠ .no → j < 1000000 → tment (renN k j) t = false ∧ lment (renN k j) l = false ∧ renN k j < 1000000 := fun j h1 h2 => by
    obtain ⟨_, h3⟩ := (freshR_get hf j).resolve_left h1
    exact (h3.resolve_left fun h => by omega).2
  have hold : ∀ j, lget j l1 ≠ .no → 1000000 ≤ j → lget j l0 ≠ .no := fun j h1 h2 => by
    obtain ⟨_, h3⟩ := (freshR_get hf j).resolve_left h1
    exact (h3.resolve_right fun h => by omega).2
  have hrow : ∀ j, lget j l1 ≠ .no → ∃ sz rows, lget j l1 = .row true sz rows := fun j h1 => ((freshR_get hf j).resolve_left h1).1
  have hlno : ∀ p, lget p l0 ≠ .no → lget (r p) l ≠ .no := fun p h => by rw [(parR_get hp p h).1]; exact h
  have hinj : ∀ i j, lget i l1 ≠ .no → lget j l1 ≠ .no → ret r k i = ret r k j → i = j := fun i j hi hj e => by
    by_cases h1 : 1000000 ≤ i <;> by_cases h2 : 1000000 ≤ j
    · rw [ret_big h1, ret_big h2] at e
      exact (parR_get hp j (hold j hj h2)).2 i (hold i hi h1) e
    · rw [ret_big h1, ret_small (by omega)] at e
      have := (lment_get (hnewid j hj (by omega)).2.1).1
      rw [← e] at this
      exact absurd this (hlno i (hold i hi h1))
    · rw [ret_small (by omega), ret_big h2] at e
      have := (lment_get (hnewid i hi (by omega)).2.1).1
      rw [e] at this
      exact absurd this (hlno j (hold j hj h2))
    · rw [ret_small (by omega), ret_small (by omega)] at e
      exact renN_inj e
  have hblk : ∀ b, b < w.heap.size → ¬ Mof (Go.V.hand ρ r l0) l0 b → w'.heap[b]? = w.heap[b]? := fun b hb hn => hm1.fr.block b hb hn
  classical
  let ρ' : Place := fun id => if h : ∃ j, id = ret r k j ∧ lget j l1 ≠ .no then ρ1 h.choose else ρ id
  have hρ1 : ∀ j, lget j l1 ≠ .no → ρ' (ret r k j) = ρ1 j := fun j hj => by
    have hex : ∃ i, ret r k j = ret r k i ∧ lget i l1 ≠ .no := ⟨j, rfl, hj⟩
    simp only [ρ']
    rw [dif_pos hex]
    rw [← hinj j _ hj hex.choose_spec.2 hex.choose_spec.1]
  have hρ2 : ∀ id, (¬ ∃ j, id = ret r k j ∧ lget j l1 ≠ .no) → ρ' id = ρ id := fun id h => dif_neg h
  have hl1 : ∀ j, lget j l1 ≠ .no → lget (ret r k j) (retL r k l1 ++ l) = lget j l1 := fun j hj => by
    rw [lget_append, if_pos (key_retL j (key_of hj))]
    exact lget_retL (fun i j hi hj => hinj i j (hkey i hi) (hkey j hj)) j (key_of hj)
  have hl2 : ∀ id, (¬ ∃ j, id = ret r k j ∧ lget j l1 ≠ .no) → lget id (retL r k l1 ++ l) = lget id l := fun id h => by
    rw [lget_append, if_neg]
    intro hc
    obtain ⟨j, h1, h2⟩ := retL_key id hc
    exact h ⟨j, h1, hkey j h2⟩
  /- an old name keeps its place -/
  have hplace : ∀ id L, (∀ j, lget j l1 ≠ .no → j < 1000000 → id ≠ renN k j) → ρ' id = some L → ρ id = some L := fun id L hn h => by
    by_cases hex : ∃ j, id = ret r k j ∧ lget j l1 ≠ .no
    · obtain ⟨j, rfl, hj⟩ := hex
      rw [hρ1 j hj] at h
      by_cases hb : 1000000 ≤ j
      · rw [ret_big hb]
        exact (hh (hm1.par j L hb h)).2
      · exact absurd (ret_small (by omega)) (hn j hj (by omega))
    · rw [hρ2 id hex] at h; exact h
  have hav : ∀ v x, (∀ j, lget j l1 ≠ .no → j < 1000000 → AV.ment (renN k j) x = false) → AVR κ ρ v x → AVR κ' ρ' v x := fun v x hx h =>
    h.same hk fun i hi L hL => hplace i L (fun j hj hb e => by subst e; rw [hx j hj hb] at hi; cases hi) hL
  have hother : ∀ id L, (¬ ∃ j, id = ret r k j ∧ lget j l1 ≠ .no) → ρ id = some L → L.b < w.heap.size ∧ ¬ Mof (Go.V.hand ρ r l0) l0 L.b := fun id L hex hL => by
    refine ⟨(hm.ob id).block hL, fun hb => ?_⟩
    obtain ⟨p, Lp, h1, h2, h3⟩ := hM _ hb
    have hne : r p ≠ id := fun e => hex ⟨p, by rw [ret_big (hwr0 p h1).2]; exact e.symm, hkeep p h1⟩
    exact hm.sep (r p) id Lp L hne h2 hL (hwr0 p h1).1 h3
  have hmine : ∀ j L, ρ1 j = some L → lget j l1 ≠ .no → (∀ o x, ¬ κ' L.b o x) ∧ (w.heap.size ≤ L.b ∨ Mof (Go.V.hand ρ r l0) l0 L.b) := fun j L hj hl => by
    obtain ⟨sz, rows, h⟩ := hrow j hl
    exact hm1.fre j L hj (by rw [h]; rfl)
  have hMG : ∀ b, Mof (Go.V.hand ρ r l0) l0 b → G.w0.heap.size ≤ b ∨ G.M b := fun b hb => by
    obtain ⟨p, Lp, h1, h2, h3⟩ := hM _ hb
    rw [← h3]; exact (hm.fre (r p) Lp h2 (hwr0 p h1).1).2
  refine ⟨ρ', ⟨⟨fun id => ?_, fun i j Li Lj hij hi hj hwi => ?_, fun i L hi hwi => ?_, hm1.kn, hm1.one, fun b o x h => ?_, ?_, fun i L hi h => ?_⟩, hdf, hsz, fun i => hav _ _ (fun j hj hb => tment_get (hnewid j hj hb).1 i) (htm i)⟩, fun v x hx h => h.ren fun j hj L hL => ?_⟩
  · by_cases hex : ∃ j, id = ret r k j ∧ lget j l1 ≠ .no
    · obtain ⟨j, rfl, hj⟩ := hex
      rw [hl1 j hj]
      obtain ⟨sz, rows, ho⟩ := hrow j hj
      have := hm1.ob j
      rw [ho] at this ⊢
      obtain ⟨L, arr, E, fz, g1, g2⟩ := this
      exact ⟨L, arr, E, fz, (hρ1 j hj).trans g1, g2⟩
    · rw [hl2 id hex]
      refine (hm.ob id).move hk (hρ2 id hex) (fun L hL => hblk _ (hother id L hex hL).1 (hother id L hex hL).2) ?_
      intro m cs hb i c v hc hv
      exact hav v c (fun j hj hb' => ments_get ((lment_get (hnewid j hj hb').2.1).2 id m cs hb) i c hc) hv
  · by_cases hei : ∃ p, i = ret r k p ∧ lget p l1 ≠ .no
    · obtain ⟨p, rfl, hp'⟩ := hei
      rw [hρ1 p hp'] at hi
      rw [hl1 p hp'] at hwi
      by_cases hej : ∃ q, j = ret r k q ∧ lget q l1 ≠ .no
      · obtain ⟨q, rfl, hq⟩ := hej
        rw [hρ1 q hq] at hj
        exact hm1.sep p q Li Lj (fun e => hij (by rw [e])) hi hj hwi
      · rw [hρ2 j hej] at hj
        obtain ⟨g1, g2⟩ := hother j Lj hej hj
        intro e
        rcases (hmine p Li hi hp').2 with h | h
        · omega
        · rw [e] at h; exact g2 h
    · rw [hρ2 i hei] at hi
      rw [hl2 i hei] at hwi
      by_cases hej : ∃ q, j = ret r k q ∧ lget q l1 ≠ .no
      · obtain ⟨q, rfl, hq⟩ := hej
        rw [hρ1 q hq] at hj
        obtain ⟨g1, g2⟩ := hother i Li hei hi
        intro e
        rcases (hmine q Lj hj hq).2 with h | h
        · omega
        · rw [← e] at h; exact g2 h
      · rw [hρ2 j hej] at hj
        exact hm.sep i j Li Lj hij hi hj hwi
  · by_cases hei : ∃ p, i = ret r k p ∧ lget p l1 ≠ .no
    · obtain ⟨p, rfl, hp'⟩ := hei
      rw [hρ1 p hp'] at hi
      obtain ⟨h1, h2⟩ := hmine p L hi hp'
      exact ⟨h1, h2.elim (fun h => .inl (Nat.le_trans hm.fr.size h)) (hMG _)⟩
    · rw [hρ2 i hei] at hi
      rw [hl2 i hei] at hwi
      obtain ⟨h1, h2⟩ := hm.fre i L hi hwi
      obtain ⟨g1, g2⟩ := hother i L hei hi
      refine ⟨fun o x hx => ?_, h2⟩
      rcases hm1.kn0 _ o x hx with h | h | h
      · exact h1 o x h
      · simp only at h; omega
      · exact g2 h
  · rcases hm1.kn0 b o x h with h | h | h
    · exact hm.kn0 b o x h
    · exact .inr (.inl (Nat.le_trans hm.fr.size h))
    · exact .inr (hMG b h)
  · have f1 := hm.fr; have f2 := hm1.fr
    refine ⟨f2.os.trans f1.os, f2.tape.trans f1.tape, f2.output.trans f1.output, Nat.le_trans f1.size f2.size, fun b hb hMb => ?_⟩
    refine (hblk b (Nat.lt_of_lt_of_le hb f1.size) fun h => ?_).trans (f1.block b hb hMb)
    rcases hMG b h with h | h
    · omega
    · exact hMb h
  · refine hm.par i L hi (hplace i L (fun j hj hb e => ?_) h)
    have := (hnewid j hj hb).2.2
    omega
  · have hj' := hx j hj
    rw [hρ1 j hj'] at hL
    exact hL

theorem VCall.of_fnR {f : FuncId} {xs xs0 : List AV} {l0 : LL} {x : AV} {l1 : LL} {k : Nat} {dst : Option Nat} {K : AV → TL → LL → Prop} (r : Nat → Nat) (h : Fn P f xs0 l0 x l1) (ha : argR r xs xs0) (hp : parR r l l0) (h0 : parsOnly l0 = true) 
    (hkeep : ∀ p, lget p l0 ≠ .no → lget p l1 ≠ .no) (hn : namesIn l1 x) (hf : freshR r k t l l0 l1 = true)
    (hK : K (AV.ren (ret r k) x) t (retL r k l1 ++ l)) : VCall P f xs dst t l K where
  en := h.en
  out := fun G κ ρ a w vs hr hs hv => by
    obtain ⟨e1, e2⟩ := argR_get (κ := κ) (ρ := ρ) (ρ0 := hand ρ r l0) (fun p L hL => by
      unfold hand at hL; split at hL
      · cases hL
      · exact hL) ha
    refine Calls.mono (h.out κ (hand ρ r l0) w vs (hr.m.hand hp h0) (hs.trans e1) fun i v y h1 h2 => ?_) ?_
    · have hi : i < xs.length := by rw [← hs]; exact (Array.getElem?_eq_some_iff.1 h1).1
      exact e2 i v _ y (List.getElem?_eq_getElem hi) h2 (hv i v _ h1 (List.getElem?_eq_getElem hi))
    · rintro e w' ⟨v, κ', ρ1, he, h1, h2, h3⟩
      obtain ⟨ρ', h4, h5⟩ := hr.joinedR hp h0 h1 h2 hf hkeep
      exact ⟨v, κ', ρ', _, _, _, he, h1, h4, h5 v x hn h3, hK⟩

end
end Go.V
/- A call that reads rows of the caller's own, and hands back nothing that leads to them. -/
namespace Go.V

/-- What is lent: rows, as the data that they hold now. -/
def lend1 (l : LL) (x y : AV) : Prop :=
  match x, y with
  | .d c, .d c' => wkC c c'
  | .ls id lo n sz, .d (.sl r) => match lget id l with
    | .row _ sz' rows => sz = sz' ∧ n + lo ≤ rows.length ∧ (rows.drop lo).take n = r
    | _ => False
  | _, _ => False

def lends1 (l : LL) : List AV → List AV → Prop
  | [], [] => True
  | x :: xs, y :: ys => lend1 l x y ∧ lends1 l xs ys
  | _, _ => False

def lendR (l : LL) : List AV → List AV → Prop
  | [], [] => True
  | x :: xs, y :: ys => (match x, y with
    | .ag cs, .ag cs' => lends1 l cs cs'
    | x, y => lend1 l x y) ∧ lendR l xs ys
  | _, _ => False

/-- It leads to nothing. -/
def flatC : C → Bool
  | .s _ => true
  | .sl [] => true
  | _ => false
def flatCs : List C → Bool
  | [] => true
  | c :: r => flatC c && flatCs r
def flat : AV → Bool
  | .d c => flatC c
  | _ => false
def flats : List AV → Bool
  | [] => true
  | x :: r => flat x && flats r
def flat1 : AV → Bool
  | .d c => flatC c
  | .tup cs => flats cs
  | _ => false

theorem flatC_sound {κ κ' : Know} {v : Value} {c : C} (h : flatC c = true) (hv : Repr κ v c) : Repr κ' v c := by
  cases hv with
  | s => exact .s _
  | nil => exact .nil
  | none a cap => exact .none a cap
  | sl b off n cap rows vs hn hc hk hr =>
    cases rows with
    | nil => exact .sl b off n cap [] vs hn hc (fun k c h => by simp at h) (fun k c h => by simp at h)
    | cons r q => simp [flatC] at h
  | _ => simp [flatC] at h

theorem flat_sound {κ κ' : Know} {ρ ρ' : Place} {v : Value} {x : AV} (h : flat x = true) (hv : AVR κ ρ v x) : AVR κ' ρ' v x := by
  cases x with
  | d c => exact .d _ _ (flatC_sound h hv.repr)
  | _ => simp [flat] at h

theorem flats_get : ∀ {xs : List AV}, flats xs = true → ∀ (i : Nat) x, xs[i]? = some x → flat x = true
  | [], _, i, x, h => by simp at h
  | y :: r, hf, 0, x, h => by simp only [flats, Bool.and_eq_true] at hf; simp at h; subst h; exact hf.1
  | y :: r, hf, i + 1, x, h => by simp only [flats, Bool.and_eq_true] at hf; exact flats_get hf.2 i x (by simpa using h)

theorem flat1_sound {κ κ' : Know} {ρ ρ' : Place} {v : Value} {x : AV} (h : flat1 x = true) (hv : AVR κ ρ v x) : AVR κ' ρ' v x := by
  cases x with
  | d c => exact flat_sound (x := .d c) h hv
  | tup cs =>
    obtain ⟨vs, rfl, hn, hv⟩ := hv.tuple
    exact .tup vs cs hn fun i u c h1 h2 => flat_sound (flats_get h i c h2) (hv i u c h1 h2)
  | _ => simp [flat1] at h

section
variable {P : Program} {G : Ctx} {κ : Know} {ρ : Place} {t : TL} {l : LL} {a : Act} {w : World}

/-- The caller's, where only new blocks came. -/
theorem Rel.grown (hr : Rel G κ ρ t l a w) {w' : World} (ho : w'.os = w.os) (ht : w'.tape = w.tape) (hu : w'.output = w.output) (hs : w.heap.size ≤ w'.heap.size) (hb : ∀ b, b < w.heap.size → w'.heap[b]? = w.heap[b]?) : Rel G κ ρ t l a w' := by
  obtain ⟨hm, hdf, hsz, htm⟩ := hr
  refine ⟨⟨fun id => ?_, hm.sep, hm.fre, fun b o x h => ?_, hm.one, hm.kn0, ?_, hm.par⟩, hdf, hsz, htm⟩
  · exact (hm.ob id).move (Know.le_refl _) rfl (fun L hL => hb _ ((hm.ob id).block hL)) (fun _ _ _ _ _ _ _ h => h)
  · have hbb := hm.known_block h
    have := hm.kn b o x h
    simp only [World.cell?] at this ⊢
    rw [hb b hbb]; exact this
  · have f := hm.fr
    exact ⟨ho.trans f.os, ht.trans f.tape, hu.trans f.output, Nat.le_trans f.size hs, fun b h1 h2 => (hb b (Nat.lt_of_lt_of_le h1 f.size)).trans (f.block b h1 h2)⟩

/-- All cells of the world that are one cell: what may be known while a reader runs. -/
def Know.all (w : World) : Know := fun b o x => w.cell? ⟨b, o, none⟩ = some x ∧ oneV x = true

theorem know_all_le (hm : Mem G κ ρ l w) : κ.le (Know.all w) := fun b o x h => ⟨hm.kn b o x h, hm.one b o x h⟩

theorem lend1_get (hm : Mem G κ ρ l w) {x y : AV} {v : Value} (h3 : lend1 l x y) (hv : AVR κ ρ v x) : AVR (Know.all w) (fun _ => none) v y := by
  unfold lend1 at h3
  split at h3
  · exact .d _ _ (wkC_sound h3 (hv.repr.mono (know_all_le hm)))
  · rename_i id lo n sz r
    split at h3
    · rename_i m sz' rows hl
      obtain ⟨rfl, hle, rfl⟩ := h3
      have hob := hm.ob id
      rw [hl] at hob
      obtain ⟨L, arr, E, fz, hL, hh, hN, hfz, hz, hkn, hcs⟩ := hob
      obtain ⟨cap, A, rfl, hA, hc1, hc2, hc3⟩ := hv.ls_at hL
      have hrl : ((rows.drop lo).take n).length = n := by simp; omega
      rcases Nat.eq_zero_or_pos n with h0 | hp
      · subst h0; simp only [List.take_zero]; exact .d _ _ (.none _ _)
      · have hA' : A = ⟨L.b, L.o + lo * sz, Option.none⟩ := hA.resolve_right (by omega)
        subst hA'
        have hrz : ∀ q, q ∈ (rows.drop lo).take n → q.length = sz := fun q hq => hz q (List.mem_of_mem_drop (List.mem_of_mem_take hq))
        refine .d _ _ (.sl L.b (L.o + lo * sz) n cap _ (fun k => arr.getD (L.o + lo * sz + k) undef) hrl.symm hc1 (fun k c hc => ?_) (fun k c hc => ?_))
        all_goals
          have hk := row_get hrz hrl hc
          rw [flatten_sub hz hk] at hc
          obtain ⟨x, h4, h5, h6⟩ := hcs _ c hc
          rw [← Nat.add_assoc] at h4
          have e : arr.getD (L.o + lo * sz + k) undef = x := by rw [Array.getD_eq_getD_getElem?, h4]; rfl
          rw [e]
        · exact ⟨by rw [cell_heap hh]; exact h4, h6⟩
        · exact h5.mono (know_all_le hm)
    · exact h3.elim
  · exact h3.elim

theorem lends1_get (hm : Mem G κ ρ l w) : ∀ {xs ys : List AV}, lends1 l xs ys → xs.length = ys.length ∧ ∀ (i : Nat) v x y, xs[i]? = some x → ys[i]? = some y → AVR κ ρ v x → AVR (Know.all w) (fun _ => none) v y
  | [], [], _ => ⟨rfl, fun i v x y h => (by simp at h)⟩
  | [], _ :: _, h => h.elim
  | _ :: _, [], h => h.elim
  | x :: xs, y :: ys, h => by
    obtain ⟨h1, h2⟩ := lends1_get hm h.2
    refine ⟨by simp [h1], fun i v x' y' hx hy hv => ?_⟩
    cases i with
    | succ i => exact h2 i v x' y' (by simpa using hx) (by simpa using hy) hv
    | zero =>
      simp only [List.getElem?_cons_zero, Option.some.injEq] at hx hy
      subst hx; subst hy
      exact lend1_get hm h.1 hv

theorem lend_get (hm : Mem G κ ρ l w) : ∀ {xs ys : List AV}, lendR l xs ys → xs.length = ys.length ∧ ∀ (i : Nat) v x y, xs[i]? = some x → ys[i]? = some y → AVR κ ρ v x → AVR (Know.all w) (fun _ => none) v y
  | [], [], _ => ⟨rfl, fun i v x y h => (by simp at h)⟩
  | [], _ :: _, h => h.elim
  | _ :: _, [], h => h.elim
  | x :: xs, y :: ys, h => by
    obtain ⟨h1, h2⟩ := lend_get hm h.2
    refine ⟨by simp [h1], fun i v x' y' hx hy hv => ?_⟩
    cases i with
    | succ i => exact h2 i v x' y' (by simpa using hx) (by simpa using hy) hv
    | zero =>
      simp only [List.getElem?_cons_zero, Option.some.injEq] at hx hy
      subst hx; subst hy
      have h3 := h.1
      split at h3
      · rename_i cs cs'
        obtain ⟨vs, rfl, hn, ho, hv⟩ := hv.agg
        obtain ⟨g1, g2⟩ := lends1_get hm h3
        refine .ag vs _ (by rw [hn, g1]) ho fun k u c e1 e2 => ?_
        have hk : k < cs.length := by rw [g1]; exact some_lt e2
        exact g2 k u _ c (List.getElem?_eq_getElem hk) e2 (hv k u _ e1 (List.getElem?_eq_getElem hk))
      · exact lend1_get hm h3 hv

theorem VCall.lend {f : FuncId} {xs xs0 : List AV} {x : AV} {dst : Option Nat} {K : AV → TL → LL → Prop} (h : Fn P f xs0 [] x []) (ha : lendR l xs xs0) (hx : flat1 x = true) (hK : K x t l) : VCall P f xs dst t l K where
  en := h.en
  out := fun G κ ρ a w vs hr hs hv => by
    obtain ⟨e1, e2⟩ := lend_get hr.m ha
    have hm0 : Mem ⟨w, Mof (fun _ => none) [], Know.all w, 0, fun _ => none⟩ (Know.all w) (fun _ => none) [] w :=
      ⟨fun _ => rfl, fun i j Li Lj _ hi => (by cases hi), fun i L hi => (by cases hi), fun b o x h => h.1, fun b o x h => h.2, fun b o x h => .inl h, ⟨rfl, rfl, rfl, Nat.le_refl _, fun _ _ _ => rfl⟩, fun i L _ h => h⟩
    refine Calls.mono (h.out (Know.all w) (fun _ => none) w vs hm0 (hs.trans e1) fun i v y h1 h2 => ?_) ?_
    · have hi : i < xs.length := by rw [← hs]; exact (Array.getElem?_eq_some_iff.1 h1).1
      exact e2 i v _ y (List.getElem?_eq_getElem hi) h2 (hv i v _ h1 (List.getElem?_eq_getElem hi))
    · rintro e w' ⟨v, κ', ρ1, he, h1, h2, h3⟩
      have hM : ∀ b, ¬ Mof (fun _ => none) [] b := fun b ⟨id, L, h, _⟩ => by cases h
      refine ⟨v, κ, ρ, x, t, l, he, Know.le_refl _, hr.grown h2.fr.os h2.fr.tape h2.fr.output h2.fr.size (fun b hb => h2.fr.block b hb (hM b)), flat1_sound hx h3, hK⟩

/-- Rows of bare values alone. -/
def flatL : LL → Prop
  | [] => True
  | (_, .row true _ rows) :: r => (∀ q, q ∈ rows → ∀ c, c ∈ q → flatC c = true) ∧ flatL r
  | _ :: _ => False

theorem flatL_get : ∀ {l1 : LL}, flatL l1 → ∀ j, lget j l1 = .no ∨ ∃ sz rows, lget j l1 = .row true sz rows ∧ ∀ q, q ∈ rows → ∀ c, c ∈ q → flatC c = true
  | [], _, j => .inl rfl
  | (i, .row true sz rows) :: r, h, j => by
    rw [lget_cons]
    by_cases hj : j = i
    · rw [if_pos hj]; exact .inr ⟨sz, rows, rfl, h.1⟩
    · rw [if_neg hj]; exact flatL_get h.2 j

/-- What a reader's new rows hold stays, when what it knew is forgotten. -/
theorem Mem.forget (hm : Mem G κ ρ l w) {w' : World} {κ' : Know} {ρ1 : Place} {l1 : LL} (hm1 : Mem ⟨w, Mof (fun _ => Option.none) [], Know.all w, 0, fun _ => Option.none⟩ κ' ρ1 l1 w') (hf : flatL l1) :
    Mem ⟨w, Mof (fun _ => Option.none) [], κ, 0, fun _ => Option.none⟩ κ ρ1 l1 w' := by
  have hM : ∀ b, ¬ Mof (fun _ => Option.none) [] b := fun b ⟨id, L, h, _⟩ => by cases h
  refine ⟨fun j => ?_, hm1.sep, fun i L hi hw => ?_, fun b o x h => ?_, hm.one, fun b o x h => .inl h, ⟨hm1.fr.os, hm1.fr.tape, hm1.fr.output, hm1.fr.size, hm1.fr.block⟩, hm1.par⟩
  · have hob := hm1.ob j
    rcases flatL_get hf j with h | ⟨sz, rows, h, hflat⟩
    · rw [h] at hob ⊢; exact hob
    · rw [h] at hob ⊢
      obtain ⟨L, arr, E, fz, h1, h2, h3, h4, h5, h6, h7⟩ := hob
      refine ⟨L, arr, E, fz, h1, h2, h3, h4, h5, h6, fun k c hc => ?_⟩
      obtain ⟨x, g1, g2, g3⟩ := h7 k c hc
      refine ⟨x, g1, ?_, g3⟩
      have hc' : c ∈ rows.flatten := List.mem_of_getElem? hc
      obtain ⟨q, hq, hcq⟩ := List.mem_flatten.1 hc'
      have := hflat q hq c hcq
      exact flatC_sound this g2
  · obtain ⟨h1, h2⟩ := hm1.fre i L hi hw
    have h2 := h2.resolve_right (hM _)
    refine ⟨fun o x h => ?_, .inl h2⟩
    have := hm.known_block h
    simp only at h2; omega
  · have hb := hm.known_block h
    have := hm.kn b o x h
    simp only [World.cell?] at this ⊢
    rw [hm1.fr.block b hb (hM b)]; exact this

/-- The same, where new rows are handed back. -/
theorem VCall.lendN {f : FuncId} {xs xs0 : List AV} {x : AV} {l1 : LL} {k : Nat} {dst : Option Nat} {K : AV → TL → LL → Prop} (h : Fn P f xs0 [] x l1) (ha : lendR l xs xs0) (hl1 : flatL l1) (hx : ∀ κ κ' ρ v, AVR κ ρ v x → AVR κ' ρ v x)
    (hn : namesIn l1 x) (hf : freshL k t l l1 = true) (hK : K (AV.ren (renN k) x) t (renL k l1 ++ l)) : VCall P f xs dst t l K where
  en := h.en
  out := fun G κ ρ a w vs hr hs hv => by
    obtain ⟨e1, e2⟩ := lend_get hr.m ha
    have hm0 : Mem ⟨w, Mof (fun _ => none) [], Know.all w, 0, fun _ => none⟩ (Know.all w) (fun _ => none) [] w :=
      ⟨fun _ => rfl, fun i j Li Lj _ hi => (by cases hi), fun i L hi => (by cases hi), fun b o x h => h.1, fun b o x h => h.2, fun b o x h => .inl h, ⟨rfl, rfl, rfl, Nat.le_refl _, fun _ _ _ => rfl⟩, fun i L _ h => h⟩
    refine Calls.mono (h.out (Know.all w) (fun _ => none) w vs hm0 (hs.trans e1) fun i v y h1 h2 => ?_) ?_
    · have hi : i < xs.length := by rw [← hs]; exact (Array.getElem?_eq_some_iff.1 h1).1
      exact e2 i v _ y (List.getElem?_eq_getElem hi) h2 (hv i v _ h1 (List.getElem?_eq_getElem hi))
    · rintro e w' ⟨v, κ', ρ1, he, h1, h2, h3⟩
      have hm1 := hr.m.forget h2 hl1
      obtain ⟨ρ', h4, h5⟩ := hr.joined (Know.le_refl _) hm1 hf
      exact ⟨v, κ, ρ', _, _, _, he, Know.le_refl _, h4, h5 v x hn (hx _ _ _ _ h3), hK⟩

theorem ls_any {id lo n sz : Nat} : ∀ κ κ' ρ v, AVR κ ρ v (.ls id lo n sz) → AVR κ' ρ v (.ls id lo n sz) := fun κ κ' ρ v h => by
  cases h with | ls _ _ _ _ _ h => exact .ls _ _ _ _ _ h

end
end Go.V
