/- Part 3: the abstract machine, its soundness, contracts of functions. -/
import Derived.Test.YtnohbinebhhlpaaGreatDoorK2
set_option linter.unusedVariables false
set_option linter.unusedSimpArgs false
namespace Go.V
def slots : Nat → List AV → TL
 | _, [] => []
 | i, x :: r => (i, x) :: slots (i + 1) r
theorem get_slots : ∀ {xs : List AV} {i : Nat} (k : Nat), get k (slots i xs) = if i ≤ k then xs.getD (k - i) .j else .j
 | [], i, k => by simp [slots, get]
 | x :: r, i, k => by
  rw [slots, get_cons, get_slots]
  by_cases h : k = i
  ·subst h; simp
  ·rw [if_neg h]
   by_cases h2 : i + 1 ≤ k
   ·rw [if_pos h2, if_pos (by omega)]
    have : k - i = (k - (i + 1)) + 1 := by omega
    rw [this]; simp
   ·rw [if_neg h2, if_neg (by omega)]
def entT (t' : TL) : TL → Prop
 | [] => True
 | (k, x) :: r => get k t' = x ∧ entT t' r
def entL (l' : LL) : LL → Prop
 | [] => True
 | (k, o) :: r => lget k l' = o ∧ entL l' r
theorem entT_get {t' : TL} : ∀ {T : TL}, entT t' T → ∀ i, get i T = .j ∨ get i T = get i t'
 | [], _, i => .inl rfl
 | (k, x) :: r, h, i => by
  rw [get_cons]
  by_cases hi : i = k
  ·subst hi; rw [if_pos rfl]; exact .inr h.1.symm
  ·rw [if_neg hi]; exact entT_get h.2 i
theorem entL_get {l' : LL} : ∀ {L : LL}, entL l' L → ∀ i, lget i L = .no ∨ lget i L = lget i l'
 | [], _, i => .inl rfl
 | (k, x) :: r, h, i => by
  rw [lget_cons]
  by_cases hi : i = k
  ·subst hi; rw [if_pos rfl]; exact .inr h.1.symm
  ·rw [if_neg hi]; exact entL_get h.2 i
def parsOnly : LL → Bool
 | [] => true
 | (k, .row true _ _) :: r => Nat.ble 1000000 k && parsOnly r
 | (k, .mat _ _ _) :: r => Nat.ble 1000000 k && parsOnly r
 | _ :: _ => false
theorem parsOnly_get : ∀ {l : LL}, parsOnly l = true → ∀ i, lget i l = .no ∨ (1000000 ≤ i ∧ (lget i l).mine)
 | [], _, i => .inl rfl
 | (k, .row true sz rows) :: r, h, i | (k, .mat sz rows _) :: r, h, i => by
  simp only [parsOnly, Bool.and_eq_true] at h
  rw [lget_cons]
  by_cases hi : i = k
  ·subst hi; rw [if_pos rfl]; exact .inr ⟨Nat.le_of_ble_eq_true h.1, trivial⟩
  ·rw [if_neg hi]; exact parsOnly_get h.2 i
def wkC (c c' : C) : Prop :=
 match c, c' with
 | .s (.slice none 0 0), .sl [] => True
 | c, c' => c = c'
theorem wkC_sound {κ : Know} {v : Value} {c c' : C} (h : wkC c c') (hr : Repr κ v c) : Repr κ v c' := by
 unfold wkC at h
 split at h
 ·cases hr; exact .nil
 ·subst h; exact hr
def flatA : List AV → List AV
 | [] => []
 | .ag cs :: r => cs ++ flatA r
 | x :: r => x :: flatA r
def shapeA : List AV → List AV → Bool
 | [], [] => true
 | .ag cs :: r, .ag cs' :: r' => Nat.beq cs.length cs'.length && shapeA r r'
 | .ag _ :: _, _ :: _ => false
 | _ :: _, .ag _ :: _ => false
 | _ :: r, _ :: r' => shapeA r r'
 | _, _ => false
def matD (rows : List (List (List C))) : List MC → List (List C)
 | [] => []
 | .d c :: r => [c] :: matD rows r
 | .r i lo n :: r => [.sl (((rows.getD i []).drop lo).take n)] :: matD rows r
def matIn (rows : List (List (List C))) (ix : List MC) : Prop := ∀ i lo n, MC.r i lo n ∈ ix → n + lo ≤ (rows.getD i []).length
def finK (l : LL) : List AV → List AV → Nat → LL → Prop
 | [], [], j, l1 => entL l l1 ∧ (parsOnly l1 && Nat.ble j 1000000) = true
 | x :: xs, y :: ys, j, l1 => match x, y with
  | .d (.s (.slice none 0 0)), .d (.sl []) => finK l xs ys (j + 1) l1
  | .d c, .d c' => c = c' ∧ finK l xs ys (j + 1) l1
  | .ls id lo n sz, .d (.sl r) => match lget id l with
   | .row true sz' rows => (sz = sz' ∧ n + lo ≤ rows.length ∧ (rows.drop lo).take n = r) ∧ finK (lrem id l) xs ys (j + 1) l1
   | .mat _ ix rows => (sz = 1 ∧ n + lo ≤ ix.length ∧ matIn rows ix ∧ ((matD rows ix).drop lo).take n = r) ∧ finK (lrem id l) xs ys (j + 1) l1
   | _ => False
  | .ls id lo n sz, .ls j' lo' n' s2 => match Nat.ble 1000000 j' with
   | true => (j' = id ∧ lo' = lo ∧ n' = n ∧ s2 = sz ∧ Nat.ble j 1000000 = true) ∧ finK l xs ys (j + 1) l1
   | false => match lget id l with
    | .row true sz' rows => (sz = sz' ∧ s2 = sz ∧ j' = j ∧ lo' = lo ∧ n' = n ∧ Nat.blt j 1000000 = true) ∧ ∃ l2, l1 = (j, .row true sz rows) :: l2 ∧ finK (lrem id l) xs ys (j + 1) l2
    | .mat sz' ix rows => (s2 = sz ∧ j' = j ∧ lo' = lo ∧ n' = n ∧ Nat.blt j 1000000 = true) ∧ ∃ l2, l1 = (j, .mat sz' ix rows) :: l2 ∧ finK (lrem id l) xs ys (j + 1) l2
    | _ => False
  | _, _ => False
 | _, _, _, _ => False
section
variable {P : Program} {G : Ctx} {κ : Know} {ρ : Place} {t : TL} {l : LL} {a : Act} {w : World}
def Know.add (κ : Know) (b o n : Nat) (arr : Array Value) : Know := fun b' o' x => κ b' o' x ∨ (b' = b ∧ o ≤ o' ∧ o' < o + n ∧ arr[o']? = some x)
theorem Mem.drop (hm : Mem G κ ρ l w) (id : Nat) : Mem G κ (ρ.put id none) (lrem id l) w := by
 have hp : ∀ {i L}, (ρ.put id none) i = some L → i ≠ id ∧ ρ i = some L := fun {i L} h => by
  unfold Place.put at h; split at h
  ·cases h
  ·rename_i hne; exact ⟨hne, h⟩
 refine ⟨fun i => ?_, fun i j Li Lj hij hi hj hw => ?_, fun i L hi hw => ?_, fun i L hi => hm.own i L (hp hi).2, hm.kn, hm.one, hm.kn0, hm.fr, fun i L hi h => hm.par i L hi (hp h).2⟩
 ·rw [lget_lrem]; split
  ·rename_i e; subst e; exact put_self _ _
  ·rename_i hne
   refine (hm.ob i).move (Know.le_refl _) (if_neg hne) (fun _ _ _ _ => rfl) (fun _ _ _ _ _ _ _ h => h.gone)
 ·obtain ⟨h1, h2⟩ := hp hi
  rw [lget_lrem, if_neg h1] at hw
  exact hm.sep i j Li Lj hij h2 (hp hj).2 hw
 ·obtain ⟨h1, h2⟩ := hp hi
  rw [lget_lrem, if_neg h1] at hw
  exact hm.fre i L h2 hw
theorem Mem.none (hm : Mem G κ ρ l w) : Mem G κ (fun _ => none) [] w :=
 ⟨fun _ => rfl, fun i j Li Lj _ hi => (by cases hi), fun i L hi => (by cases hi), fun i L hi => (by cases hi), hm.kn, hm.one, hm.kn0, hm.fr, fun i L _ h => (by cases h)⟩
theorem Mem.freeze (hm : Mem G κ ρ l w) {id sz : Nat} {rows : List (List C)} {L : Loc} (hl : lget id l = .row true sz rows) (hL : ρ id = some L) :
  ∃ κ', κ.le κ' ∧ Mem G κ' (ρ.put id Option.none) (lrem id l) w ∧ (∀ b o x, κ' b o x → κ b o x ∨ b = L.b) ∧ (∀ v lo n, AVR κ ρ v (.ls id lo n sz) → n + lo ≤ rows.length → AVR κ' (ρ.put id Option.none) v (.d (.sl ((rows.drop lo).take n)))) := by
 have hob := hm.ob id
 rw [hl] at hob
 obtain ⟨L', arr, E, fz, hL', hh, hN, hfz, hz, hkn, hcs⟩ := hob
 rw [hL] at hL'; cases hL'
 obtain ⟨f1, f2⟩ := hm.fre id L hL (by rw [hl]; rfl) L.b L.has_b
 have hd := hm.drop id
 refine ⟨κ.add L.b L.o rows.flatten.length arr, fun b o x h => .inl h, ⟨fun i => ?_, hd.sep, fun i Li hi hw b hb => ?_, hd.own, fun b o x h => ?_, ⟨fun b o x h => ?_, fun b o x h => .inl (hm.one.2 b o x h)⟩, fun b o x h => ?_, hd.fr, hd.par⟩, fun b o x h => h.imp (fun h => h) And.left, fun v lo n hv hle => ?_⟩
 ·refine (hd.ob i).move (fun b o x h => .inl h) rfl (fun _ _ _ _ => rfl) (fun _ _ _ _ _ _ _ h => h.mono fun b o x h => .inl h)
 ·obtain ⟨h1, h2⟩ := hd.fre i Li hi hw b hb
  refine ⟨fun o x hx => ?_, h2⟩
  rcases hx with hx | ⟨hx, _⟩
  ·exact h1 o x hx
  ·have hne : i ≠ id := fun e => by subst e; simp [Place.put] at hi
   have hi' : ρ i = some Li := by rw [← hi]; exact (if_neg hne).symm
   exact hm.sep id i L Li (Ne.symm hne) hL hi' (by rw [hl]; rfl) L.b L.has_b (hx ▸ hb)
 ·rcases h with h | ⟨rfl, _, _, h3⟩
  ·exact hm.kn b o x h
  ·rw [cell_heap hh]; exact h3
 ·rcases h with h | ⟨rfl, h1, h2, h3⟩
  ·exact hm.one.1 b o x h
  ·obtain ⟨y, h4, _, h5⟩ := hcs (o - L.o) _ (List.getElem?_eq_getElem (by omega))
   rw [show L.o + (o - L.o) = o by omega, h3] at h4; cases h4; exact h5
 ·rcases h with h | ⟨rfl, _⟩
  ·exact hm.kn0 b o x h
  ·exact .inr f2
 ·obtain ⟨cap, A, rfl, hA, hc1, hc2, hc3⟩ := hv.ls_at hL
  have hrl : ((rows.drop lo).take n).length = n := by simp; omega
  rcases Nat.eq_zero_or_pos n with h0 | hp
  ·subst h0; simp only [List.take_zero]; exact .d _ _ (.none _ _)
  ·have hA' : A = ⟨L.b, L.o + lo * sz, Option.none⟩ := hA.resolve_right (by omega)
   subst hA'
   have hrz : ∀ q, q ∈ (rows.drop lo).take n → q.length = sz := fun q hq => hz q (List.mem_of_mem_drop (List.mem_of_mem_take hq))
   have hfl : rows.flatten.length = rows.length * sz := flatten_length hz
   have hlo : lo * sz + n * sz ≤ rows.length * sz := by rw [← Nat.add_mul]; exact Nat.mul_le_mul_right _ (by omega)
   have key : ∀ (k : Nat) (c : C), ((rows.drop lo).take n).flatten[k]? = some c → k < n * sz ∧ rows.flatten[lo * sz + k]? = some c := fun k c hc => by
    have hk := row_get hrz hrl hc
    exact ⟨hk, by rw [← flatten_sub hz hk]; exact hc⟩
   refine .d _ _ (.sl L.b (L.o + lo * sz) n cap _ (fun k => arr.getD (L.o + lo * sz + k) undef) hrl.symm hc1 (fun k c hc => ?_) (fun k c hc => ?_))
   all_goals
    obtain ⟨hk, hc'⟩ := key k c hc
    obtain ⟨x, h4, h5, _⟩ := hcs _ c hc'
    rw [← Nat.add_assoc] at h4
    have e : arr.getD (L.o + lo * sz + k) undef = x := by rw [Array.getD_eq_getD_getElem?, h4]; rfl
    rw [e]
   ·exact .inr ⟨rfl, by omega, by omega, h4⟩
   ·exact h5.mono fun b o x h => .inl h
theorem Mem.name (hm : Mem G κ ρ l w) {k : Nat} {o : Ob} {L : Loc} (hb : ∀ j Lj, ρ j = some Lj → ∀ b, L.has b → ¬ Lj.has b) (hκ : ∀ b, L.has b → (∀ o x, ¬ κ b o x) ∧ (G.w0.heap.size ≤ b ∨ G.M b)) (how : ∀ b, L.has b → b < w.heap.size)
  (hl : lget k l = .no) (hx : ∀ i m cs, lget i l = .box m cs → AV.ments k cs = false) (ho : ObR κ (ρ.put k (some L)) w k o) (hsm : k < 1000000) : Mem G κ (ρ.put k (some L)) ((k, o) :: l) w := by
 refine hm.change (k := k) (ButB.refl w L.b) (fun j Lj _ hj => hb j Lj hj _ L.has_b) (hκ _ L.has_b).1 (hκ _ L.has_b).2 (fun j hj => .inl (if_neg hj)) (fun j hj => .inl (by rw [lget_cons, if_neg hj])) (fun L1 h b' hb' => by rw [put_self] at h; cases h; exact ⟨.inr ⟨fun j Lj _ hj => hb j Lj hj b' hb', hκ b' hb'⟩, how b' hb'⟩) ?_ (by rw [lget_cons, if_pos rfl]) ho (fun L hi _ => by omega)
 intro v x j m cs hbx hxm hv
 obtain ⟨i, hi⟩ := List.mem_iff_getElem?.1 hxm
 exact hv.put (ments_get (hx j m cs hbx) i x hi)
def FinR (G : Ctx) (w : World) (κ : Know) (ρ : Place) (l l1 : LL) (xs ys : List AV) (j : Nat) : Prop :=
 ∃ κ' ρ', κ.le κ' ∧ Mem G κ' ρ' l1 w ∧ (∀ b o x, κ' b o x → κ b o x ∨ ∃ i L, ρ i = some L ∧ (lget i l).wr = true ∧ L.has b) ∧
  (∀ i L, ρ' i = some L → j ≤ i ∧ (lget i l1).wr = true ∧ ∃ i' L', ρ i' = some L' ∧ (lget i' l).wr = true ∧ L' = L) ∧ (∀ i m cs, lget i l1 ≠ .box m cs) ∧ xs.length = ys.length ∧
  (∀ (i : Nat) v x y, xs[i]? = some x → ys[i]? = some y → AVR κ ρ v x → AVR κ' ρ' v y) ∧ (∀ (i : Nat) y, ys[i]? = some y → ∀ k, AV.ment k y = true → j ≤ k) ∧ ∀ i L, 1000000 ≤ i → ρ' i = some L → ρ i = some L
theorem put_none_get {k i : Nat} {L : Loc} (h : (ρ.put k none) i = some L) : i ≠ k ∧ ρ i = some L := by
 unfold Place.put at h; split at h
 ·cases h
 ·rename_i hne; exact ⟨hne, h⟩
theorem FinR.frozen {xs ys : List AV} {j id : Nat} {l1 : LL} {κ1 : Know} {L : Loc} {x : AV} {c : C} (hL : ρ id = some L) (hw : (lget id l).wr = true) (g1 : κ.le κ1) (g3 : ∀ b o x, κ1 b o x → κ b o x ∨ L.has b) (g4 : ∀ v, AVR κ ρ v x → AVR κ1 (ρ.put id none) v (.d c))
  (h : FinR G w κ1 (ρ.put id none) (lrem id l) l1 xs ys (j + 1)) : FinR G w κ ρ l l1 (x :: xs) (.d c :: ys) j := by
 obtain ⟨κ', ρ', h1, h2, h3, h4, h5, h6, h7, h77, h78⟩ := h
 refine ⟨κ', ρ', Know.le_trans g1 h1, h2, fun b o x hx => ?_, fun i Li hi => ?_, h5, by simp [h6], fun i v x' y' hx hy hv => ?_, fun i y' hy k hk => ?_, fun i Li hi h => (put_none_get (h78 i Li hi h)).2⟩
 ·rcases h3 b o x hx with h | ⟨i, Li, hi, hw', hb⟩
  ·rcases g3 b o x h with h | h
   ·exact .inl h
   ·exact .inr ⟨id, L, hL, hw, h⟩
  ·obtain ⟨e1, e2⟩ := put_none_get hi
   rw [lget_lrem, if_neg e1] at hw'
   exact .inr ⟨i, Li, e2, hw', hb⟩
 ·obtain ⟨h8, h9, i', L', h10, h11, h12⟩ := h4 i Li hi
  obtain ⟨e1, e2⟩ := put_none_get h10
  rw [lget_lrem, if_neg e1] at h11
  exact ⟨by omega, h9, i', L', e2, h11, h12⟩
 ·cases i with
  | zero =>
   simp at hx hy; subst hx; subst hy
   have := (g4 v hv).mono h1
   cases this with | d _ _ h => exact .d _ _ h
  | succ i =>
   have hx' : xs[i]? = some x' := by simpa using hx
   exact h7 i v x' y' hx' (by simpa using hy) (hv.mono g1).gone
 ·cases i with
  | zero => simp at hy; subst hy; cases hk
  | succ i => have := h77 i y' (by simpa using hy) k hk; omega
theorem FinR.handed {xs ys : List AV} {j id lo n sz : Nat} {l2 : LL} {o : Ob} (hm : Mem G κ ρ l w) (hl : lget id l = o) (ho : o.mine) (hsm : Nat.blt j 1000000 = true)
  (h : FinR G w κ (ρ.put id none) (lrem id l) l2 xs ys (j + 1)) : FinR G w κ ρ l ((j, o) :: l2) (.ls id lo n sz :: xs) (.ls j lo n sz :: ys) j := by
 obtain ⟨κ', ρ', h1, h2, h3, h4, h5, h6, h7, h77, h78⟩ := h
 have hsm := Nat.le_of_ble_eq_true hsm
 have hob := hm.ob id
 rw [hl] at hob
 obtain ⟨L, hL⟩ := hob.loc ho
 have f12 := hm.fre id L hL (by rw [hl]; exact ho.wr)
 have hsep : ∀ i Li, (ρ.put id none) i = some Li → ∀ b, L.has b → ¬ Li.has b := fun i Li hi => by
  obtain ⟨e1, e2⟩ := put_none_get hi
  exact hm.sep id i L Li (Ne.symm e1) hL e2 (by rw [hl]; exact ho.wr)
 have hno : lget j l2 = .no := by
  have := h2.ob j
  cases ho : lget j l2 with
  | no => rfl
  | box m cs => exact absurd ho (h5 _ _ _)
  | row m sz rows =>
   rw [ho] at this
   obtain ⟨Lx, _, _, _, hx, _⟩ := this
   have := (h4 j Lx hx).1
   omega
  | mat sz ix rows =>
   rw [ho] at this
   obtain ⟨Lx, hx, _⟩ := this
   have := (h4 j Lx hx).1
   omega
 have hκ : ∀ b, L.has b → (∀ o x, ¬ κ' b o x) ∧ (G.w0.heap.size ≤ b ∨ G.M b) := fun b hLb => ⟨fun o x hx => by
  rcases h3 _ o x hx with h | ⟨i, Li, hi, _, hb⟩
  ·exact (f12 b hLb).1 o x h
  ·exact hsep i Li hi b hLb hb, (f12 b hLb).2⟩
 have hm' := h2.name (k := j) (L := L) (o := o) (fun i Li hi => by
   obtain ⟨_, _, i', Li', e1, _, e2⟩ := h4 i Li hi
   rw [← e2]; exact hsep i' Li' e1) hκ (hm.own id L hL) hno (fun i m cs hb => absurd hb (h5 i m cs)) ((hob.move h1 rfl (fun _ _ _ _ => rfl) (fun m cs e => absurd e (ho.nb m cs))).mine ho (by rw [put_self]; exact hL.symm)) hsm
 have hlsnew : ∀ v, AVR κ ρ v (.ls id lo n sz) → AVR κ' (ρ'.put j (some L)) v (.ls j lo n sz) := fun v hv =>
  .ls _ _ _ _ _ fun L1 h => by rw [put_self] at h; cases h; exact hv.ls_at hL
 refine ⟨κ', ρ'.put j (some L), h1, hm', fun b o x hx => ?_, fun i Li hi => ?_, fun i m cs => ?_, by simp [h6], fun i v x' y' hx hy hv => ?_, fun i y' hy k hk => ?_, fun i Li hi h => (put_none_get (h78 i Li hi (by rw [← h]; exact (if_neg (by omega)).symm))).2⟩
 ·rcases h3 b o x hx with h | ⟨i, Li, hi, hw, hb⟩
  ·exact .inl h
  ·obtain ⟨e1, e2⟩ := put_none_get hi
   rw [lget_lrem, if_neg e1] at hw
   exact .inr ⟨i, Li, e2, hw, hb⟩
 ·by_cases hij : i = j
  ·subst hij
   rw [put_self] at hi; cases hi
   exact ⟨Nat.le_refl _, by rw [lget_cons, if_pos rfl]; exact ho.wr, id, L, hL, by rw [hl]; exact ho.wr, rfl⟩
  ·have hi' : ρ' i = some Li := by rw [← hi]; exact (if_neg hij).symm
   obtain ⟨h8, h9, i', L'', h10, h11, h12⟩ := h4 i Li hi'
   obtain ⟨e1, e2⟩ := put_none_get h10
   rw [lget_lrem, if_neg e1] at h11
   exact ⟨by omega, by rw [lget_cons, if_neg hij]; exact h9, i', L'', e2, h11, h12⟩
 ·rw [lget_cons]; split
  ·exact ho.nb m cs
  ·exact h5 i m cs
 ·cases i with
  | zero => simp at hx hy; subst hx; subst hy; exact hlsnew v hv
  | succ i =>
   have hx' : xs[i]? = some x' := by simpa using hx
   have hy' : ys[i]? = some y' := by simpa using hy
   have hr := h7 i v x' y' hx' hy' hv.gone
   refine hr.put (Bool.eq_false_iff.2 fun hk => ?_)
   have := h77 i y' hy' _ hk
   omega
 ·cases i with
  | zero => simp at hy; subst hy; simp [AV.ment] at hk; omega
  | succ i => have := h77 i y' (by simpa using hy) k hk; omega
theorem sl_all {M : Pl} {arr : Array Value} {E : TypeId} {fz : Nat × Nat} {lo n sz : Nat} {rows : List (List C)} {v : Value} (hh : w.heap[M.b]? = some (.cells arr E fz)) (hz : ∀ r, r ∈ rows → r.length = sz)
  (hcs : ∀ (k : Nat) (c : C), rows.flatten[k]? = some c → ∃ x, arr[M.o + k]? = some x ∧ Repr κ x c ∧ oneV x = true) (hkn : ∀ o x, w.cell? ⟨M.b, o, none⟩ = some x → oneV x = true → κ M.b o x) (hle : n + lo ≤ rows.length) (hv : SlAt M lo n sz v) : Repr κ v (.sl ((rows.drop lo).take n)) := by
 obtain ⟨cap, A, rfl, hA, hc1, hc2, hc3⟩ := hv
 have hrl : ((rows.drop lo).take n).length = n := by simp; omega
 rcases Nat.eq_zero_or_pos n with h0 | hp
 ·subst h0; simp only [List.take_zero]; exact .none _ _
 ·have hA' : A = ⟨M.b, M.o + lo * sz, Option.none⟩ := hA.resolve_right (by omega)
  subst hA'
  have hrz : ∀ q, q ∈ (rows.drop lo).take n → q.length = sz := fun q hq => hz q (List.mem_of_mem_drop (List.mem_of_mem_take hq))
  refine .sl M.b (M.o + lo * sz) n cap _ (fun k => arr.getD (M.o + lo * sz + k) undef) hrl.symm hc1 (fun k c hc => ?_) (fun k c hc => ?_)
  all_goals
   have hk := row_get hrz hrl hc
   rw [flatten_sub hz hk] at hc
   obtain ⟨x, h4, h5, h6⟩ := hcs _ c hc
   rw [← Nat.add_assoc] at h4
   have e : arr.getD (M.o + lo * sz + k) undef = x := by rw [Array.getD_eq_getD_getElem?, h4]; rfl
   rw [e]
  ·exact hkn _ _ (by rw [cell_heap hh]; exact h4) h6
  ·exact h5
theorem matD_get (rows : List (List (List C))) : ∀ {ix : List MC} {k : Nat} {q : List C}, (matD rows ix)[k]? = some q → ∃ c, ix[k]? = some c ∧ q = [match c with | .d c => c | .r i lo n => .sl (((rows.getD i []).drop lo).take n)]
 | [], k, q, h => by simp [matD] at h
 | .d c :: r, 0, q, h | .r i lo n :: r, 0, q, h => by simp [matD] at h; exact ⟨_, rfl, h.symm⟩
 | .d c :: r, k + 1, q, h | .r i lo n :: r, k + 1, q, h => by
  simp only [matD, List.getElem?_cons_succ] at h ⊢
  exact matD_get rows h
theorem matD_len (rows : List (List (List C))) : ∀ ix : List MC, (matD rows ix).length = ix.length
 | [] => rfl
 | .d c :: r | .r i lo n :: r => by simp [matD, matD_len rows r]
theorem matD_one (rows : List (List (List C))) (ix : List MC) : ∀ q, q ∈ matD rows ix → q.length = 1 := fun q hq => by
 obtain ⟨k, hk⟩ := List.mem_iff_getElem?.1 hq
 obtain ⟨c, _, rfl⟩ := matD_get rows hk
 rfl
theorem flat_one_get {α : Type} {rows : List (List α)} (h : ∀ q, q ∈ rows → q.length = 1) {k : Nat} {c : α} (hc : rows.flatten[k]? = some c) : rows[k]? = some [c] := by
 have hl : k < rows.length := by have := some_lt hc; rw [flatten_length h] at this; omega
 have h1 := h rows[k] (List.getElem_mem hl)
 have h2 := flatten_get h (List.getElem?_eq_getElem hl) 0 (by omega)
 rw [Nat.mul_one, Nat.add_zero, hc] at h2
 rw [List.getElem?_eq_getElem hl]
 match hq : rows[k], h1, h2 with
 | [x], _, h2 => simp at h2; rw [h2]
theorem mat_all {L : Loc} {sz : Nat} {ix : List MC} {rows : List (List (List C))} (hR : MatR κ w L sz ix rows) (hkn : ∀ b, L.has b → ∀ o x, w.cell? ⟨b, o, none⟩ = some x → oneV x = true → κ b o x) (hin : matIn rows ix) : ∃ arr E, w.heap[L.b]? = some (.cells arr E (0, 0)) ∧
  ∀ (k : Nat) (c : C), (matD rows ix).flatten[k]? = some c → ∃ x, arr[L.o + k]? = some x ∧ Repr κ x c ∧ oneV x = true := by
 obtain ⟨⟨arr, E, h1, h2, h3, h4⟩, h5, h6, _⟩ := hR
 refine ⟨arr, E, h1, fun k c hc => ?_⟩
 obtain ⟨m, g1, g2⟩ := matD_get rows (flat_one_get (matD_one rows ix) hc)
 obtain ⟨x, f1, f2, f3⟩ := h4 k m g1
 refine ⟨x, f1, ?_, f3⟩
 cases m with
 | d d => cases g2; exact f2
 | r i lo n =>
  obtain ⟨M, hM, hs⟩ := f2
  have hi : i < rows.length := by rw [← h5]; exact some_lt hM
  have hle := hin i lo n (List.mem_of_getElem? g1)
  have hg : rows.getD i [] = rows[i] := by rw [List.getD_eq_getElem?_getD, List.getElem?_eq_getElem hi, Option.getD_some]
  rw [hg] at hle
  obtain ⟨arr', E', k1, k2, k3, k4, k5⟩ := h6 i M _ hM (List.getElem?_eq_getElem hi)
  have g2 : c = .sl (((rows.getD i []).drop lo).take n) := by cases g2; rfl
  rw [g2, hg]
  exact sl_all k1 k3 k5 (hkn _ (Loc.has_i hM)) hle hs
theorem Mem.freezeM (hm : Mem G κ ρ l w) {id sz : Nat} {ix : List MC} {rows : List (List (List C))} {L : Loc} (hl : lget id l = .mat sz ix rows) (hL : ρ id = some L) (hin : matIn rows ix) :
  ∃ κ', κ.le κ' ∧ Mem G κ' (ρ.put id Option.none) (lrem id l) w ∧ (∀ b o x, κ' b o x → κ b o x ∨ L.has b) ∧ (∀ v lo n, AVR κ ρ v (.ls id lo n 1) → n + lo ≤ ix.length → AVR κ' (ρ.put id Option.none) v (.d (.sl (((matD rows ix).drop lo).take n)))) := by
 have hob := hm.ob id
 rw [hl] at hob
 obtain ⟨L', hL', hR⟩ := hob
 rw [hL] at hL'; cases hL'
 have hf := hm.fre id L hL (by rw [hl]; rfl)
 have hd := hm.drop id
 let κ' : Know := fun b o x => κ b o x ∨ (L.has b ∧ w.cell? ⟨b, o, Option.none⟩ = some x ∧ oneV x = true)
 have hle : κ.le κ' := fun b o x h => .inl h
 refine ⟨κ', hle, ⟨fun i => ?_, hd.sep, fun i Li hi hw b hb => ?_, hd.own, fun b o x h => ?_, ⟨fun b o x h => ?_, fun b o x h => .inl (hm.one.2 b o x h)⟩, fun b o x h => ?_, hd.fr, hd.par⟩, fun b o x h => h.imp_right And.left, fun v lo n hv hln => ?_⟩
 ·exact (hd.ob i).move hle rfl (fun _ _ _ _ => rfl) (fun _ _ _ _ _ _ _ h => h.mono hle)
 ·obtain ⟨h1, h2⟩ := hd.fre i Li hi hw b hb
  refine ⟨fun o x hx => ?_, h2⟩
  rcases hx with hx | ⟨hx, _⟩
  ·exact h1 o x hx
  ·obtain ⟨e1, e2⟩ := put_none_get hi
   exact hm.sep id i L Li (Ne.symm e1) hL e2 (by rw [hl]; rfl) b hx hb
 ·rcases h with h | h
  ·exact hm.kn b o x h
  ·exact h.2.1
 ·rcases h with h | h
  ·exact hm.one.1 b o x h
  ·exact h.2.2
 ·rcases h with h | h
  ·exact hm.kn0 b o x h
  ·exact .inr (hf b h.1).2
 ·have hkn : ∀ b, L.has b → ∀ o x, w.cell? ⟨b, o, Option.none⟩ = some x → oneV x = true → κ' b o x := fun b hb o x h1 h2 => .inr ⟨hb, h1, h2⟩
  obtain ⟨arr, E, hh, hcs⟩ := mat_all (κ := κ') (hR.move hle (fun _ _ => rfl)) hkn hin
  exact .d _ _ (sl_all (M := L.pl) hh (matD_one rows ix) hcs (hkn _ L.has_b) (by rw [matD_len]; exact hln) (hv.ls_at hL))
theorem finK_sound : ∀ {xs ys : List AV} {j : Nat} {l1 l : LL} {κ : Know} {ρ : Place}, Mem G κ ρ l w → finK l xs ys j l1 → FinR G w κ ρ l l1 xs ys j
 | [], [], j, l1, l, κ, ρ, hm, h => by
  unfold finK at h
  obtain ⟨h1, h2⟩ := h
  simp only [Bool.and_eq_true] at h2
  have hj := Nat.le_of_ble_eq_true h2.2
  have hp := parsOnly_get h2.1
  have hr : Rel G κ ρ [] l ⟨Array.replicate G.n undef, []⟩ w := ⟨hm, rfl, by simp, fun i => .j _⟩
  obtain ⟨ρ', g1, g2⟩ := hr.less (t' := []) (l' := l1) (fun i => .inl rfl) (entL_get h1)
  refine ⟨κ, ρ', Know.le_refl _, g2.m, fun b o x h => .inl h, fun i L hi => ?_, fun i m cs hb => ?_, rfl, fun i v x y h => (by simp at h), fun i y h => (by simp at h), fun i L _ h => g1 i L h⟩
  ·have hob := g2.m.ob i
   rcases hp i with h3 | ⟨h3, h4⟩
   ·rw [h3] at hob; simp only [ObR] at hob; rw [hob] at hi; cases hi
   ·have hl : lget i l1 = lget i l := (entL_get h1 i).resolve_left h4.ne
    exact ⟨by omega, h4.wr, i, L, g1 i L hi, by rw [← hl]; exact h4.wr, rfl⟩
  ·rcases hp i with h3 | ⟨_, h3⟩
   ·rw [h3] at hb; cases hb
   ·exact h3.nb _ _ hb
 | x :: xs, y :: ys, j, l1, l, κ, ρ, hm, h => by
  have step : ∀ {l1' : LL}, finK l xs ys (j + 1) l1' → (∀ κ' ρ' v, κ.le κ' → (∀ i L, 1000000 ≤ i → ρ' i = some L → ρ i = some L) → AVR κ ρ v x → AVR κ' ρ' v y) → (∀ k, AV.ment k y = true → j ≤ k) →
    FinR G w κ ρ l l1' (x :: xs) (y :: ys) j := by
   intro l1' h hxy hy0
   obtain ⟨κ', ρ', h1, h2, h3, h4, h5, h6, h7, h77, h78⟩ := finK_sound hm h
   refine ⟨κ', ρ', h1, h2, h3, fun i L hi => ?_, h5, by simp [h6], fun i v x' y' hx hy hv => ?_, fun i y' hy k hk => ?_, h78⟩
   ·obtain ⟨h8, h9⟩ := h4 i L hi; exact ⟨by omega, h9⟩
   ·cases i with
    | zero => simp at hx hy; subst hx; subst hy; exact hxy κ' ρ' v h1 h78 hv
    | succ i => exact h7 i v x' y' (by simpa using hx) (by simpa using hy) hv
   ·cases i with
    | zero => simp at hy; subst hy; exact hy0 k hk
    | succ i => have := h77 i y' (by simpa using hy) k hk; omega
  unfold finK at h
  split at h
  ·exact step h (fun κ' ρ' v hk _ hv => by have := hv.repr; cases this; exact .d _ _ .nil) (fun k h => by cases h)
  ·obtain ⟨rfl, h⟩ := h
   exact step h (fun κ' ρ' v hk _ hv => .d _ _ (hv.repr.mono hk)) (fun k h => by cases h)
  ·rename_i id lo n sz r
   split at h
   ·rename_i sz' rows hl
    obtain ⟨⟨rfl, hle, rfl⟩, h⟩ := h
    obtain ⟨L, hL⟩ := (show ObR κ ρ w id (.row true sz rows) from hl ▸ hm.ob id).loc trivial
    obtain ⟨κ1, g1, g2, g3, g4⟩ := hm.freeze hl hL
    exact FinR.frozen hL (by rw [hl]; rfl) g1 (fun b o x h => (g3 b o x h).imp_right .inl) (fun v hv => g4 v lo n hv hle) (finK_sound g2 h)
   ·rename_i sz' ix rows hl
    obtain ⟨⟨rfl, hle, hin, rfl⟩, h⟩ := h
    obtain ⟨L, hL⟩ := (show ObR κ ρ w id (.mat sz' ix rows) from hl ▸ hm.ob id).loc trivial
    obtain ⟨κ1, g1, g2, g3, g4⟩ := hm.freezeM hl hL hin
    exact FinR.frozen hL (by rw [hl]; rfl) g1 g3 (fun v hv => g4 v lo n hv hle) (finK_sound g2 h)
   ·exact h.elim
  ·rename_i id lo n sz j' lo' n' s2
   split at h
   ·rename_i hbig
    obtain ⟨⟨e1, e2, e3, e4, e5⟩, h⟩ := h
    subst e1; subst e2; subst e3; subst e4
    refine step h (fun κ' ρ' v hk hp hv => .ls _ _ _ _ _ fun L hL => hv.ls_at (hp _ L (Nat.le_of_ble_eq_true hbig) hL)) (fun k hk => ?_)
    have e : k = _ := (Nat.eq_of_beq_eq_true hk).symm
    have := Nat.le_of_ble_eq_true hbig
    have := Nat.le_of_ble_eq_true e5
    omega
   ·split at h
    ·rename_i sz' rows hl
     obtain ⟨⟨e1, e2, e3, e4, e5, hsm⟩, l2, rfl, h⟩ := h
     have e2 := e2.symm
     subst e1; subst e2; subst e3; subst e4; subst e5
     exact FinR.handed hm hl trivial hsm (finK_sound (hm.drop id) h)
    ·rename_i sz' ix rows hl
     obtain ⟨⟨e2, e3, e4, e5, hsm⟩, l2, rfl, h⟩ := h
     have e2 := e2.symm
     subst e2; subst e3; subst e4; subst e5
     exact FinR.handed hm hl trivial hsm (finK_sound (hm.drop id) h)
    ·exact h.elim
  ·exact h.elim
 | [], _ :: _, _, _, _, _, _, _, h => by unfold finK at h; exact h.elim
 | _ :: _, [], _, _, _, _, _, _, h => by unfold finK at h; exact h.elim
theorem flatA_get {κ κ' : Know} {ρ ρ' : Place} : ∀ {xs ys : List AV}, shapeA xs ys = true → (∀ (i : Nat) v x y, (flatA xs)[i]? = some x → (flatA ys)[i]? = some y → AVR κ ρ v x → AVR κ' ρ' v y) → (flatA xs).length = (flatA ys).length →
  xs.length = ys.length ∧ ∀ (i : Nat) v x y, xs[i]? = some x → ys[i]? = some y → AVR κ ρ v x → AVR κ' ρ' v y
 | [], [], _, _, _ => ⟨rfl, fun i v x y h => (by simp at h)⟩
 | [], _ :: _, h, _, _ => by simp [shapeA] at h
 | x :: xs, [], h, _, _ => by unfold shapeA at h; split at h <;> simp_all
 | x :: xs, y :: ys, h, hg, hl => by
  have tail : ∀ {cs cs' : List AV}, flatA (x :: xs) = cs ++ flatA xs → flatA (y :: ys) = cs' ++ flatA ys → cs.length = cs'.length → shapeA xs ys = true →
    (∀ v, (∀ (k : Nat) u c c', cs[k]? = some c → cs'[k]? = some c' → AVR κ ρ u c → AVR κ' ρ' u c') → AVR κ ρ v x → AVR κ' ρ' v y) →
    (x :: xs).length = (y :: ys).length ∧ ∀ (i : Nat) v x' y', (x :: xs)[i]? = some x' → (y :: ys)[i]? = some y' → AVR κ ρ v x' → AVR κ' ρ' v y' := by
   intro cs cs' e1 e2 hc hs hxy
   rw [e1, e2] at hl
   simp only [List.length_append] at hl
   have h0 : ∀ (i : Nat) v a b, (flatA xs)[i]? = some a → (flatA ys)[i]? = some b → AVR κ ρ v a → AVR κ' ρ' v b := fun i v a b ha hb hv =>
    hg (cs.length + i) v a b (by rw [e1, List.getElem?_append_right (by omega)]; simpa using ha) (by rw [e2, List.getElem?_append_right (by omega), show cs.length + i - cs'.length = i by omega]; exact hb) hv
   obtain ⟨g1, g2⟩ := flatA_get hs h0 (by omega)
   refine ⟨by simp [g1], fun i v x' y' hx hy hv => ?_⟩
   cases i with
   | zero =>
    simp at hx hy; subst hx; subst hy
    refine hxy v (fun k u c c' hc1 hc2 hu => ?_) hv
    have hk := some_lt hc1
    have hk' := some_lt hc2
    exact hg k u c c' (by rw [e1, List.getElem?_append_left hk]; exact hc1) (by rw [e2, List.getElem?_append_left hk']; exact hc2) hu
   | succ i => exact g2 i v x' y' (by simpa using hx) (by simpa using hy) hv
  unfold shapeA at h
  split at h
  ·rename_i e1 e2; cases e1
  ·rename_i cs r cs' r' e1 e2
   cases e1; cases e2
   simp only [Bool.and_eq_true] at h
   replace h : cs.length = cs'.length ∧ shapeA xs ys = true := ⟨Nat.eq_of_beq_eq_true h.1, h.2⟩
   refine tail rfl rfl h.1 h.2 fun v hcs hv => ?_
   obtain ⟨vs, rfl, hn, ho, hv⟩ := hv.agg
   refine .ag vs _ (by rw [hn, h.1]) ho fun k u c' h1 h2 => ?_
   have hk : k < cs.length := by rw [h.1]; exact some_lt h2
   exact hcs k u _ c' (List.getElem?_eq_getElem hk) h2 (hv k u _ h1 (List.getElem?_eq_getElem hk))
  ·cases h
  ·cases h
  ·rename_i a r b r' n1 n2 e1 e2
   cases e1; cases e2
   have f1 : flatA (x :: xs) = [x] ++ flatA xs := by
    cases x with
    | ag cs => exact (n1 cs rfl).elim
    | _ => rfl
   have f2 : flatA (y :: ys) = [y] ++ flatA ys := by
    cases y with
    | ag cs => exact (n2 cs rfl).elim
    | _ => rfl
   exact tail f1 f2 rfl h fun v hcs hv => hcs 0 v x y rfl rfl hv
  ·cases h
end
end Go.V
namespace Go.V
def resK (ty : TypeId → Ty) (t : TL) (l : LL) : List ResultVar → (List AV → Prop) → Prop
 | [], K => K []
 | .tmp i :: r, K => force (get i t) fun x => resK ty t l r fun xs => K (x :: xs)
 | .cell i e :: r, K => force (get i t) fun a => ifB (okT (ty e)) (loadK (ty e) a l fun x => resK ty t l r fun xs => K (x :: xs))
def resOne (tmps : Array Value) : ResultVar → Sem Value
 | .tmp t => pure (tmps.getD t undef)
 | .cell p t => do loadVar t (← asAddr (tmps.getD p undef))
def endK (ty : TypeId → Ty) (rs : List ResultVar) (x1 : AV) (l1 : LL) (e : Ex) (t : TL) (l : LL) : Prop :=
 match e with
 | .x _ => False
 | _ => resK ty t l rs fun ys => match x1 with
  | .tup zs => ifB (!Nat.beq ys.length 1) (ifB (shapeA ys zs) (finK l (flatA ys) (flatA zs) 0 l1))
  | y => ifB (shapeA ys [y]) (finK l (flatA ys) (flatA [y]) 0 l1)
section
variable {P : Program} {G : Ctx} {κ : Know} {ρ : Place} {t : TL} {l : LL} {a : Act} {w : World}
theorem resK_sound {ty : TypeId → Ty} (hty : TyOk P ty) (hr : Rel G κ ρ t l a w) : ∀ {rs : List ResultVar} {K : List AV → Prop}, resK ty t l rs K →
  ∃ vs xs, (rs.mapM (resOne a.tmps)).run P w = .ok vs w ∧ vs.length = xs.length ∧ (∀ (i : Nat) v x, vs[i]? = some v → xs[i]? = some x → AVR κ ρ v x) ∧ K xs
 | [], K, h => ⟨[], [], by simp, rfl, by simp, h⟩
 | .tmp i :: r, K, h => by
  unfold resK at h
  rw [force_eq] at h
  obtain ⟨vs, xs, h1, h2, h3, h4⟩ := resK_sound hty hr h
  refine ⟨a.tmps.getD i undef :: vs, get i t :: xs, ?_, by simp [h2], fun j v x hv hx => ?_, h4⟩
  ·simp only [List.mapM_cons, resOne, Sem.run_bind, Sem.run_pure, Result.andThen_ok, h1]
  ·cases j with
   | zero => simp only [List.getElem?_cons_zero, Option.some.injEq] at hv hx; subst hv; subst hx; exact hr.tm i
   | succ j => exact h3 j v x (by simpa using hv) (by simpa using hx)
 | .cell i e :: r, K, h => by
  unfold resK at h
  rw [force_eq] at h
  obtain ⟨hb, h⟩ := ifB_iff.1 h
  rw [hty _ hb] at h hb
  obtain ⟨v0, x0, g1, g2, g3⟩ := loadK_sound (P := P) hr.m hb h (hr.tm i)
  obtain ⟨vs, xs, h1, h2, h3, h4⟩ := resK_sound hty hr g3
  refine ⟨v0 :: vs, x0 :: xs, ?_, by simp [h2], fun j v x hv hx => ?_, h4⟩
  ·have : (do loadVar e (← asAddr (a.tmps.getD i undef)) : Sem Value).run P w = .ok v0 w := by
    cases hp : a.tmps.getD i undef with
    | pointer p =>
     cases p with
     | some ad => rw [hp] at g1; exact g1
     | none => rw [hp] at g1; simp [Instr.loadAt, Instr.sureAddr] at g1
    | _ => rw [hp] at g1; simp [Instr.loadAt, Instr.sureAddr] at g1
   simp only [List.mapM_cons, resOne, Sem.run_bind] at this ⊢
   simp only [this, Result.andThen_ok, h1, Sem.run_pure]
  ·cases j with
   | zero => simp only [List.getElem?_cons_zero, Option.some.injEq] at hv hx; subst hv; subst hx; exact g2
   | succ j => exact h3 j v x (by simpa using hv) (by simpa using hx)
theorem results_run {fn : Func} {tmps : Array Value} {vs : List Value}
  (h : (fn.results.toList.mapM (resOne tmps)).run P w = .ok vs w) :
  (results fn tmps).run P w = .ok (if h : vs.toArray.size = 1 then vs.toArray[0] else .tuple vs.toArray) w := by
 have e : results fn tmps = (do let vs ← fn.results.mapM (resOne tmps); pure (if h : vs.size = 1 then vs[0] else .tuple vs)) := by
  unfold results
  congr 1
 rw [e, Array.mapM_eq_mapM_toList]
 simp only [Sem.run_bind, Sem.run_map]
 simp only [h, Result.andThen_ok, Sem.run_pure]
theorem Fn.intro {ty : TypeId → Ty} {ks : List Nat} {f : FuncId} {fn : Func} {c : Code} {xs : List AV} {l0 : LL} {x1 : AV} {l1 : LL} (hty : TyOk P ty) (hf : P.funcs[f]? = some fn) (hb : fn.body = some c)
  (hname : (fn.name == "runtime.NumGoroutine") = false) (hx : Nat.ble xs.length fn.ntmps = true) (hd : dstCode fn.ntmps c = true)
  (h : vcCode P ty ks c (slots 0 xs) l0 (endK ty fn.results.toList x1 l1)) : Fn P f xs l0 x1 l1 where
 en := ⟨fn, hf, by rw [hb]; rfl, hname⟩
 out := fun κ ρ w vs hm hvs hv => by
  have hxl := Nat.le_of_ble_eq_true hx
  refine calls_of_wp hf hb (Code.wp_mono ?_ (vcCode_sound (G := ⟨w, Mof ρ l0, κ, fn.ntmps, ρ⟩) hty c _ κ ρ _ _ _ w hd ?_ h))
  ·rintro e a' w' ⟨x, κ', ρ', t', l', h1, h2, h3, h4⟩
   have key : endK ty fn.results.toList x1 l1 .n t' l' → a'.defers = [] ∧ ∃ v, (results fn a'.tmps).run P w' = .ok v w' ∧ ∃ v_1 κ' ρ', Ending.returned v = .returned v_1 ∧ κ.le κ' ∧ Mem ⟨w, Mof ρ l0, κ, 0, ρ⟩ κ' ρ' l1 w' ∧ AVR κ' ρ' v_1 x1 := by
    intro h4
    refine ⟨h3.df, ?_⟩
    unfold endK at h4
    obtain ⟨us, ys, g1, g2, g3, g4⟩ := resK_sound hty h3 h4
    refine ⟨_, results_run g1, (if h : us.toArray.size = 1 then us.toArray[0] else .tuple us.toArray), ?_⟩
    have hm3 : Mem ⟨w, Mof ρ l0, κ, 0, ρ⟩ κ' ρ' l' w' := ⟨h3.m.ob, h3.m.sep, h3.m.fre, h3.m.own, h3.m.kn, h3.m.one, h3.m.kn0, ⟨h3.m.fr.os, h3.m.fr.tape, h3.m.fr.output, h3.m.fr.size, h3.m.fr.block⟩, h3.m.par⟩
    have one : ∀ y, ifB (shapeA ys [y]) (finK l' (flatA ys) (flatA [y]) 0 l1) → ∃ κ2 ρ2, Ending.returned (if h : us.toArray.size = 1 then us.toArray[0] else .tuple us.toArray) = Ending.returned (if h : us.toArray.size = 1 then us.toArray[0] else .tuple us.toArray) ∧ κ.le κ2 ∧ Mem ⟨w, Mof ρ l0, κ, 0, ρ⟩ κ2 ρ2 l1 w' ∧ AVR κ2 ρ2 (if h : us.toArray.size = 1 then us.toArray[0] else .tuple us.toArray) y := by
     intro y hfin
     replace hfin := ifB_iff.1 hfin
     obtain ⟨κ2, ρ2, k1, k2, _, _, _, k6, k7, _⟩ := finK_sound hm3 hfin.2
     replace ⟨k6, k7⟩ := flatA_get hfin.1 k7 k6
     have hl1 : us.length = 1 := by rw [g2, k6]; rfl
     refine ⟨κ2, ρ2, rfl, Know.le_trans h2 k1, k2, ?_⟩
     match us, ys, hl1, k6, g2 with
     | [u], [y'], _, _, _ => exact k7 0 u y' y rfl rfl (g3 0 u y' rfl rfl)
    split at g4
    ·rename_i zs
     obtain ⟨hb1, g4⟩ := ifB_iff.1 g4
     replace g4 := ifB_iff.1 g4
     obtain ⟨κ2, ρ2, k1, k2, _, _, _, k6, k7, _⟩ := finK_sound hm3 g4.2
     replace ⟨k6, k7⟩ := flatA_get g4.1 k7 k6
     have hne : ¬ us.toArray.size = 1 := fun e => by
      have : ys.length = 1 := by rw [← g2]; simpa using e
      rw [this] at hb1; simp at hb1
     refine ⟨κ2, ρ2, rfl, Know.le_trans h2 k1, k2, ?_⟩
     rw [dif_neg hne]
     refine .tup _ _ (by simp [g2, k6]) fun i v z hv hz => ?_
     have hv' : us[i]? = some v := by simpa using hv
     have hiy : i < ys.length := by rw [← g2]; exact some_lt hv'
     have hyi : ys[i]? = some ys[i] := List.getElem?_eq_getElem hiy
     exact k7 i v _ z hyi hz (g3 i v _ hv' hyi)
    ·exact one _ g4
   cases e with
   | normal => have h1' : some Ex.n = some x := h1; cases h1'; exact key h4
   | ret => have h1' : some Ex.r = some x := h1; cases h1'; exact key h4
   | exit id => have h1' : some (Ex.x id) = some x := h1; cases h1'; exact (show False from h4).elim
   | _ => simp [exOf] at h1
  ·refine ⟨⟨hm.ob, hm.sep, hm.fre, hm.own, hm.kn, hm.one, hm.kn0, ⟨rfl, rfl, rfl, Nat.le_refl _, fun _ _ _ => rfl⟩, fun i L _ h => h⟩, rfl, (by show (vs ++ Array.replicate (fn.ntmps - vs.size) undef).size = fn.ntmps; rw [Array.size_append, Array.size_replicate]; omega), fun i => ?_⟩
   rw [get_slots, if_pos (Nat.zero_le _)]
   simp only [Nat.sub_zero]
   rcases Nat.lt_or_ge i vs.size with hlt | hge
   ·have h1 : (vs ++ Array.replicate (fn.ntmps - vs.size) undef).getD i undef = vs[i] := by
     rw [Array.getD_eq_getD_getElem?, Array.getElem?_append_left hlt, Array.getElem?_eq_getElem hlt]; rfl
    rw [h1]
    have hix : i < xs.length := by omega
    have h2 : xs.getD i .j = xs[i] := by simp [List.getD_eq_getElem?_getD, hix]
    rw [h2]
    exact hv i _ _ (by simp) (List.getElem?_eq_getElem hix)
   ·have : xs.getD i .j = .j := by rw [List.getD_eq_getElem?_getD, List.getElem?_eq_none (by omega)]; rfl
    rw [this]; exact .j _
end
end Go.V
namespace Go.V
def renT (r : Nat → Nat) : TL → TL
 | [] => []
 | (k, x) :: t => (k, AV.ren r x) :: renT r t
def Ob.ren (r : Nat → Nat) : Ob → Ob
 | .no => .no
 | .box w cs => .box w (AV.rens r cs)
 | .row w sz rows => .row w sz rows
 | .mat sz ix rows => .mat sz ix rows
def renLL (r : Nat → Nat) : LL → LL
 | [] => []
 | (k, o) :: l => (r k, Ob.ren r o) :: renLL r l
def swp (k k' i : Nat) : Nat := bif Nat.beq i k then k' else i
theorem get_renT {r : Nat → Nat} : ∀ {t : TL} (i : Nat), get i (renT r t) = AV.ren r (get i t)
 | [], i => rfl
 | (k, x) :: t, i => by rw [renT, get_cons, get_cons, get_renT i]; split <;> rfl
theorem swp_eq (k k' i : Nat) : swp k k' i = if i = k then k' else i := by
 unfold swp
 by_cases h : i = k
 ·subst h; simp
 ·have : Nat.beq i k = false := Bool.eq_false_iff.2 fun e => h (Nat.eq_of_beq_eq_true e)
  simp [this, h]
theorem lget_swp {k k' : Nat} (hk : k ≠ k') : ∀ {l : LL}, lget k' l = .no → (∀ p, p ∈ l → p.1 ≠ k') → ∀ i, lget i (renLL (swp k k') l) = if i = k' then Ob.ren (swp k k') (lget k l) else if i = k then .no else Ob.ren (swp k k') (lget i l)
 | [], _, _, i => by simp [renLL, lget, Ob.ren]
 | (j, o) :: l, h, hp, i => by
  have hj : j ≠ k' := hp (j, o) (by simp)
  rw [lget_cons, if_neg (Ne.symm hj)] at h
  rw [renLL, lget_cons, lget_swp hk h (fun p hp' => hp p (by simp [hp'])), lget_cons, lget_cons, swp_eq]
  by_cases hjk : j = k
  ·subst hjk
   simp only [if_true]
   by_cases hi : i = k'
   ·simp [hi]
   ·rw [if_neg hi, if_neg hi]
    by_cases hij : i = j
    ·subst hij; simp [hi]
    ·simp [hij, hi]
  ·simp only [hjk, if_false]
   by_cases hij : i = j
   ·subst hij; simp [hj, hjk]
   ·simp only [hij, if_false]
    have : ¬ k = j := fun e => hjk e.symm
    simp only [this, if_false]
theorem lment_keys {k : Nat} : ∀ {l : LL}, lment k l = false → ∀ p, p ∈ l → p.1 ≠ k
 | [], _, p, hp => by simp at hp
 | (j, .box m cs) :: r, h, p, hp => by
  simp only [lment, Bool.or_eq_false_iff] at h
  rcases List.mem_cons.1 hp with rfl | hp
  ·exact fun e => by rw [show j = k from e] at h; simp at h
  ·exact lment_keys h.2 p hp
 | (j, .no) :: r, h, p, hp => by
  simp only [lment, Bool.or_eq_false_iff] at h
  rcases List.mem_cons.1 hp with rfl | hp
  ·exact fun e => by rw [show j = k from e] at h; simp at h
  ·exact lment_keys h.2 p hp
 | (j, .row m sz rows) :: r, h, p, hp | (j, .mat m sz rows) :: r, h, p, hp => by
  simp only [lment, Bool.or_eq_false_iff] at h
  rcases List.mem_cons.1 hp with rfl | hp
  ·exact fun e => by rw [show j = k from e] at h; simp at h
  ·exact lment_keys h.2 p hp
section
variable {P : Program} {G : Ctx} {κ : Know} {ρ : Place} {t : TL} {l : LL} {a : Act} {w : World}
theorem ObR.ren {id id' : Nat} {ρ' : Place} {r : Nat → Nat} {o : Ob} (h : ObR κ ρ w id o) (hρ : ρ' id' = ρ id) (ha : ∀ m cs, o = .box m cs → ∀ (i : Nat) c v, cs[i]? = some c → AVR κ ρ v c → AVR κ ρ' v (AV.ren r c)) : ObR κ ρ' w id' (Ob.ren r o) := by
 cases o with
 | no => simp only [ObR, Ob.ren] at h ⊢; rw [hρ]; exact h
 | box m cs =>
  obtain ⟨L, arr, E, fz, h1, h2, h3, h4, h5⟩ := h
  refine ⟨L, arr, E, fz, by rw [hρ]; exact h1, h2, h3, h4, fun k c hc => ?_⟩
  rw [rens_eq, List.getElem?_map, Option.map_eq_some_iff] at hc
  obtain ⟨c', hc', rfl⟩ := hc
  obtain ⟨x, h6, h7, h8⟩ := h5 k c' hc'
  exact ⟨x, h6, ha m cs rfl k c' x hc' h7, h8⟩
 | row m sz rows =>
  obtain ⟨L, arr, E, fz, h1, h2⟩ := h
  exact ⟨L, arr, E, fz, by rw [hρ]; exact h1, h2⟩
 | mat sz ix rows =>
  obtain ⟨L, h1, h2⟩ := h
  exact ⟨L, by rw [hρ]; exact h1, h2⟩
theorem Rel.swap (hr : Rel G κ ρ t l a w) {k k' : Nat} (hk : k ≠ k') (ht : tment k' t = false) (hl : lment k' l = false) (hsm : k < 1000000 ∧ k' < 1000000) : ∃ ρ', Rel G κ ρ' (renT (swp k k') t) (renLL (swp k k') l) a w := by
 obtain ⟨hm, hdf, hsz, htm⟩ := hr
 obtain ⟨hl1, hl2⟩ := lment_get hl
 have hlg := lget_swp hk hl1 (lment_keys hl)
 let ρ' : Place := fun i => if i = k' then ρ k else if i = k then none else ρ i
 have hav : ∀ v x, AV.ment k' x = false → AVR κ ρ v x → AVR κ ρ' v (AV.ren (swp k k') x) := fun v x hx h => h.ren fun i hi L hL => by
  rw [swp_eq] at hL
  by_cases hik : i = k
  ·subst hik; simpa [ρ'] using hL
  ·have hik' : i ≠ k' := fun e => by subst e; rw [hx] at hi; cases hi
   rw [if_neg hik] at hL
   simpa [ρ', hik, hik'] using hL
 have hback : ∀ i L, ρ' i = some L → ∃ j, ρ j = some L ∧ (lget i (renLL (swp k k') l)).wr = (lget j l).wr ∧ j = if i = k' then k else i := fun i L hi => by
  by_cases h1 : i = k'
  ·subst h1
   refine ⟨k, by simpa [ρ'] using hi, ?_, by simp⟩
   rw [hlg, if_pos rfl]; cases lget k l <;> rfl
  ·by_cases h2 : i = k
   ·subst h2; simp [ρ', h1] at hi
   ·refine ⟨i, by simpa [ρ', h1, h2] using hi, ?_, by simp [h1]⟩
    rw [hlg, if_neg h1, if_neg h2]; cases lget i l <;> rfl
 refine ⟨ρ', ⟨fun id => ?_, fun i j Li Lj hij hi hj hw => ?_, fun i L hi hw => ?_, fun i L hi => ?_, hm.kn, hm.one, hm.kn0, hm.fr, fun i L hi h => ?_⟩, hdf, hsz, fun i => ?_⟩
 ·rw [hlg]
  by_cases h1 : id = k'
  ·rw [if_pos h1]
   exact (hm.ob k).ren (by simp [ρ', h1]) fun m cs e i c v hc hv => hav v c (ments_get (hl2 k m cs e) i c hc) hv
  ·rw [if_neg h1]
   by_cases h2 : id = k
   ·rw [if_pos h2]; simp [ObR, ρ', h2, hk]
   ·rw [if_neg h2]
    exact (hm.ob id).ren (by simp [ρ', h1, h2]) fun m cs e i c v hc hv => hav v c (ments_get (hl2 id m cs e) i c hc) hv
 ·obtain ⟨i', h1, h2, h3⟩ := hback i Li hi
  obtain ⟨j', h4, _, h6⟩ := hback j Lj hj
  rw [h2] at hw
  refine hm.sep i' j' Li Lj (fun e => hij ?_) h1 h4 hw
  rw [h3, h6] at e
  by_cases ei : i = k' <;> by_cases ej : j = k' <;> simp [ei, ej] at e ⊢
  ·subst e; simp [ρ', ej] at hj
  ·subst e; simp [ρ', ei] at hi
  ·exact e
 ·obtain ⟨i', h1, h2, _⟩ := hback i L hi
  rw [h2] at hw
  exact hm.fre i' L h1 hw
 ·obtain ⟨i', h1, _, _⟩ := hback i L hi
  exact hm.own i' L h1
 ·obtain ⟨i', h1, _, h3⟩ := hback i L h
  rw [if_neg (by omega)] at h3
  subst h3; exact hm.par i' L hi h1
 ·rw [get_renT]
  exact hav _ _ (tment_get ht i) (htm i)
theorem VLoop.ren {ty : TypeId → Ty} {ks : List Nat} {b : Code} {Q : Ex → TL → LL → Prop} (k k' : Nat) (hc : (!Nat.beq k k' && !(tment k' t || lment k' l) && Nat.blt k 1000000 && Nat.blt k' 1000000) = true) (h : VLoop P ty ks b (renT (swp k k') t) (renLL (swp k k') l) Q) : VLoop P ty ks b t l Q where
 out := fun G κ ρ a w hd hr => by
  simp only [Bool.and_eq_true, Bool.not_eq_true', Bool.or_eq_false_iff] at hc
  obtain ⟨ρ', hr'⟩ := hr.swap (k := k) (k' := k') (fun e => by subst e; simp at hc) hc.1.1.2.1 hc.1.1.2.2 ⟨Nat.le_of_ble_eq_true hc.1.2, Nat.le_of_ble_eq_true hc.2⟩
  exact h.out G κ ρ' a w hd hr'
theorem least {p : Nat → Prop} (h : ∃ n, p n) : ∃ n, p n ∧ ∀ m, p m → n ≤ m := by
 obtain ⟨n, hn⟩ := h
 induction n using Nat.strongRecOn with
 | _ n ih =>
  by_cases hm : ∃ m, m < n ∧ p m
  ·obtain ⟨m, h1, h2⟩ := hm; exact ih m h1 h2
  ·exact ⟨n, hn, fun m hm' => Nat.le_of_not_lt fun hlt => hm ⟨m, hlt, hm'⟩⟩
open Classical in
theorem VLoop.inv {ty : TypeId → Ty} {ks : List Nat} {b : Code} {Q : Ex → TL → LL → Prop} (hty : TyOk P ty) {S : Type} (T : S → TL) (L : S → LL) (I : S → Prop) (μ : S → Nat) (s0 : S) (h0 : I s0) (hT : entT t (T s0)) (hL : entL l (L s0))
  (round : ∀ s, I s → vcCode P ty ks b (T s) (L s) fun e t' l' => match e with
   | .n => ∃ s', I s' ∧ μ s' < μ s ∧ entT t' (T s') ∧ entL l' (L s')
   | .r => Q .r t' l'
   | .x i => Q (.x i) t' l') : VLoop P ty ks b t l Q where
 out := fun G κ ρ a w hd hr => by
  let J : Act → World → Nat → Prop := fun a' w' n => ∃ s κ' ρ', μ s = n ∧ I s ∧ κ.le κ' ∧ Rel G κ' ρ' (T s) (L s) a' w'
  let M : Act → World → Nat := fun a' w' => if h : ∃ n, J a' w' n then Classical.choose (least h) else 0
  have hM : ∀ {a' w'}, (∃ n, J a' w' n) → J a' w' (M a' w') ∧ ∀ m, J a' w' m → M a' w' ≤ m := fun {a' w'} h => by
   have : M a' w' = Classical.choose (least h) := dif_pos h
   rw [this]; exact Classical.choose_spec (least h)
  refine wp_loop (fun a' w' => ∃ n, J a' w' n) M ?_ ?_
  ·obtain ⟨ρ', _, h⟩ := hr.less (entT_get hT) (entL_get hL)
   exact ⟨_, s0, κ, ρ', rfl, h0, Know.le_refl _, h⟩
  ·intro a1 w1 hJ
   obtain ⟨⟨s, κ1, ρ1, hs, hI, hk1, hr1⟩, _⟩ := hM hJ
   refine Code.wp_mono ?_ (vcCode_sound hty b _ κ1 ρ1 _ _ a1 w1 hd hr1 (round s hI))
   rintro e a2 w2 ⟨x, κ2, ρ2, t2, l2, h1, h2, h3, h4⟩
   cases e with
   | normal =>
    have h1' : some Ex.n = some x := h1
    cases h1'
    obtain ⟨s', g1, g2, g3, g4⟩ := h4
    obtain ⟨ρ', _, h⟩ := h3.less (entT_get g3) (entL_get g4)
    have hJ2 : J a2 w2 (μ s') := ⟨s', κ2, ρ', rfl, g1, Know.le_trans hk1 h2, h⟩
    have := (hM ⟨_, hJ2⟩).2 _ hJ2
    exact ⟨⟨_, hJ2⟩, by omega⟩
   | ret => have h1' : some Ex.r = some x := h1; cases h1'; exact ⟨.r, κ2, ρ2, t2, l2, rfl, Know.le_trans hk1 h2, h3, h4⟩
   | exit id => have h1' : some (Ex.x id) = some x := h1; cases h1'; exact ⟨.x id, κ2, ρ2, t2, l2, rfl, Know.le_trans hk1 h2, h3, h4⟩
   | _ => simp [exOf] at h1
end
end Go.V
namespace Go.V
def tyGet (i : Nat) : List (Nat × Ty) → Ty
 | [] => Ty.none
 | (k, T) :: r => bif Nat.beq i k then T else tyGet i r
def TabOk (P : Program) : List (Nat × Ty) → Prop
 | [] => True
 | (k, T) :: r => T = tyOf P k ∧ TabOk P r
theorem tyOk_tab {P : Program} {tab : List (Nat × Ty)} (h : TabOk P tab) : TyOk P (fun i => tyGet i tab) := by
 intro i hi
 show tyGet i tab = tyOf P i
 replace hi : okT (tyGet i tab) = true := hi
 induction tab with
 | nil => exact absurd (show okT Ty.none = true from hi) (by decide)
 | cons p r ih =>
  obtain ⟨k, T⟩ := p
  have e : tyGet i ((k, T) :: r) = if i = k then T else tyGet i r := by
   show (bif Nat.beq i k then T else tyGet i r) = _
   by_cases h : i = k
   ·subst h; simp
   ·have : Nat.beq i k = false := Bool.eq_false_iff.2 fun e => h (Nat.eq_of_beq_eq_true e)
    simp [this, h]
  rw [e] at hi ⊢
  split
  ·rename_i hik; subst hik; exact h.1
  ·rename_i hik
   rw [if_neg hik] at hi
   exact ih h.2 hi
theorem Wr.fit {z : Int} {k : IntKind} {K : Int → Prop} (h : k.wrap z = z) (hk : K z) : Wr z k K := ⟨by rw [h]; exact hk⟩
theorem wrap_i64 {z : Int} (h : -9223372036854775808 ≤ z) (h' : z ≤ 9223372036854775807) : IntKind.i64.wrap z = z := by
 simp only [IntKind.wrap, IntKind.signed, IntKind.bits]
 simp
 omega
end Go.V
namespace Go.V
def arg1 (r : Nat → Nat) (x y : AV) : Prop :=
 match x, y with
 | .d c, .d c' => wkC c c'
 | .ls id lo n sz, .ls p lo' n' sz' => id = r p ∧ lo = lo' ∧ n = n' ∧ sz = sz'
 | _, _ => False
def args1 (r : Nat → Nat) : List AV → List AV → Prop
 | [], [] => True
 | x :: xs, y :: ys => arg1 r x y ∧ args1 r xs ys
 | _, _ => False
def argR (r : Nat → Nat) : List AV → List AV → Prop
 | [], [] => True
 | x :: xs, y :: ys => (match x, y with
  | .ag cs, .ag cs' => args1 r cs cs'
  | x, y => arg1 r x y) ∧ argR r xs ys
 | _, _ => False
def parR (r : Nat → Nat) (l : LL) : LL → Prop
 | [] => True
 | (p, o) :: q => (lget (r p) l = o ∧ ∀ p', lget p' q ≠ .no → r p' ≠ r p) ∧ parR r l q
def ret (r : Nat → Nat) (k j : Nat) : Nat := bif Nat.ble 1000000 j then r j else renN k j
def retL (r : Nat → Nat) (k : Nat) : LL → LL
 | [] => []
 | (j, o) :: q => (ret r k j, o) :: retL r k q
def freshR (r : Nat → Nat) (k : Nat) (t : TL) (l l0 : LL) : LL → Bool
 | [] => true
 | (j, .row true _ _) :: q => (bif Nat.ble 1000000 j then (match lget j l0 with | .no => false | _ => true) else !(tment (renN k j) t || lment (renN k j) l) && Nat.blt (renN k j) 1000000) && freshR r k t l l0 q
 | (j, .mat _ _ _) :: q => (bif Nat.ble 1000000 j then (match lget j l0 with | .no => false | _ => true) else !(tment (renN k j) t || lment (renN k j) l) && Nat.blt (renN k j) 1000000) && freshR r k t l l0 q
 | _ :: _ => false
def pmap : List (Nat × Nat) → Nat → Nat
 | [], i => i
 | (p, a) :: r, i => bif Nat.beq i p then a else pmap r i
theorem arg1_get {r : Nat → Nat} {κ : Know} {ρ ρ0 : Place} {x y : AV} {v : Value} (h : arg1 r x y) (hp : ∀ p L, ρ0 p = some L → ρ (r p) = some L) (hv : AVR κ ρ v x) : AVR κ ρ0 v y := by
 unfold arg1 at h
 split at h
 ·exact .d _ _ (wkC_sound h hv.repr)
 ·obtain ⟨rfl, rfl, rfl, rfl⟩ := h
  exact .ls _ _ _ _ _ fun L hL => hv.ls_at (hp _ L hL)
 ·exact h.elim
theorem args1_get {r : Nat → Nat} {κ : Know} {ρ ρ0 : Place} (hp : ∀ p L, ρ0 p = some L → ρ (r p) = some L) : ∀ {xs ys : List AV}, args1 r xs ys → xs.length = ys.length ∧ ∀ (i : Nat) v x y, xs[i]? = some x → ys[i]? = some y → AVR κ ρ v x → AVR κ ρ0 v y
 | [], [], _ => ⟨rfl, fun i v x y h => (by simp at h)⟩
 | [], _ :: _, h => h.elim
 | _ :: _, [], h => h.elim
 | x :: xs, y :: ys, h => by
  obtain ⟨h1, h2⟩ := args1_get (κ := κ) hp h.2
  refine ⟨by simp [h1], fun i v x' y' hx hy hv => ?_⟩
  cases i with
  | succ i => exact h2 i v x' y' (by simpa using hx) (by simpa using hy) hv
  | zero =>
   simp only [List.getElem?_cons_zero, Option.some.injEq] at hx hy
   subst hx; subst hy
   exact arg1_get h.1 hp hv
theorem argR_get {r : Nat → Nat} {κ : Know} {ρ ρ0 : Place} (hp : ∀ p L, ρ0 p = some L → ρ (r p) = some L) : ∀ {xs ys : List AV}, argR r xs ys → xs.length = ys.length ∧ ∀ (i : Nat) v x y, xs[i]? = some x → ys[i]? = some y → AVR κ ρ v x → AVR κ ρ0 v y
 | [], [], _ => ⟨rfl, fun i v x y h => (by simp at h)⟩
 | [], _ :: _, h => h.elim
 | _ :: _, [], h => h.elim
 | x :: xs, y :: ys, h => by
  obtain ⟨h1, h2⟩ := argR_get (κ := κ) hp h.2
  refine ⟨by simp [h1], fun i v x' y' hx hy hv => ?_⟩
  cases i with
  | succ i => exact h2 i v x' y' (by simpa using hx) (by simpa using hy) hv
  | zero =>
   simp only [List.getElem?_cons_zero, Option.some.injEq] at hx hy
   subst hx; subst hy
   have h3 := h.1
   split at h3
   ·rename_i cs cs'
    obtain ⟨vs, rfl, hn, ho, hv⟩ := hv.agg
    obtain ⟨g1, g2⟩ := args1_get (κ := κ) hp h3
    refine .ag vs _ (by rw [hn, g1]) ho fun k u c e1 e2 => ?_
    have hk : k < cs.length := by rw [g1]; exact some_lt e2
    exact g2 k u _ c (List.getElem?_eq_getElem hk) e2 (hv k u _ e1 (List.getElem?_eq_getElem hk))
   ·exact arg1_get h3 hp hv
theorem parR_get {r : Nat → Nat} {l : LL} : ∀ {l0 : LL}, parR r l l0 → ∀ p, lget p l0 ≠ .no → lget (r p) l = lget p l0 ∧ ∀ p', lget p' l0 ≠ .no → r p' = r p → p' = p
 | [], _, p, h => absurd rfl h
 | (q, o) :: s, h, p, hp => by
  obtain ⟨⟨h1, h2⟩, h3⟩ := h
  rw [lget_cons] at hp ⊢
  by_cases hpq : p = q
  ·subst hpq
   rw [if_pos rfl]
   refine ⟨h1, fun p' hp' e => ?_⟩
   rw [lget_cons] at hp'
   by_cases hpp : p' = p
   ·exact hpp
   ·rw [if_neg hpp] at hp'; exact absurd e (h2 p' hp')
  ·rw [if_neg hpq] at hp ⊢
   obtain ⟨g1, g2⟩ := parR_get h3 p hp
   refine ⟨g1, fun p' hp' e => ?_⟩
   rw [lget_cons] at hp'
   by_cases hpp : p' = q
   ·subst hpp; exact absurd e.symm (h2 p hp)
   ·rw [if_neg hpp] at hp'; exact g2 p' hp' e
theorem freshR_get {r : Nat → Nat} {k : Nat} {t : TL} {l l0 : LL} : ∀ {l1 : LL}, freshR r k t l l0 l1 = true → ∀ j, lget j l1 = .no ∨ ((lget j l1).mine ∧
  (1000000 ≤ j ∧ lget j l0 ≠ .no ∨ j < 1000000 ∧ tment (renN k j) t = false ∧ lment (renN k j) l = false ∧ renN k j < 1000000))
 | [], _, j => .inl rfl
 | (i, .row true sz rows) :: q, h, j | (i, .mat sz rows _) :: q, h, j => by
  simp only [freshR, Bool.and_eq_true] at h
  rw [lget_cons]
  by_cases hj : j = i
  ·subst hj
   rw [if_pos rfl]
   refine .inr ⟨trivial, ?_⟩
   have h := h.1
   cases hb : Nat.ble 1000000 j with
   | true =>
    rw [hb] at h
    refine .inl ⟨Nat.le_of_ble_eq_true hb, fun e => ?_⟩
    rw [e] at h; simp at h
   | false =>
    rw [hb] at h
    simp only [cond_false, Bool.and_eq_true, Bool.not_eq_true', Bool.or_eq_false_iff] at h
    exact .inr ⟨small hb, h.1.1, h.1.2, Nat.le_of_ble_eq_true h.2⟩
  ·rw [if_neg hj]; exact freshR_get h.2 j
theorem ret_big {r : Nat → Nat} {k j : Nat} (h : 1000000 ≤ j) : ret r k j = r j := by unfold ret; rw [Nat.ble_eq_true_of_le h]; rfl
theorem ret_small {r : Nat → Nat} {k j : Nat} (h : j < 1000000) : ret r k j = renN k j := by
 unfold ret
 have : Nat.ble 1000000 j = false := Bool.eq_false_iff.2 fun e => by have := Nat.le_of_ble_eq_true e; omega
 rw [this]; rfl
section
variable {P : Program} {G : Ctx} {κ : Know} {ρ : Place} {t : TL} {l : LL} {a : Act} {w : World}
theorem lget_retL {r : Nat → Nat} {k : Nat} : ∀ {l1 : LL}, (∀ i j, (l1.map (·.1)).contains i = true → (l1.map (·.1)).contains j = true → ret r k i = ret r k j → i = j) → ∀ j, (l1.map (·.1)).contains j = true → lget (ret r k j) (retL r k l1) = lget j l1
 | [], _, j, h => by simp at h
 | (i, o) :: q, hi, j, hj => by
  rw [retL, lget_cons, lget_cons]
  by_cases h : j = i
  ·subst h; simp
  ·rw [if_neg h]
   have hj' : (q.map (·.1)).contains j = true := by
    rw [List.map_cons, List.contains_cons, beq_eq_false_iff_ne.2 h, Bool.false_or] at hj; exact hj
   have hne : ret r k j ≠ ret r k i := fun e => h (hi j i hj (by simp) e)
   rw [if_neg hne]
   exact lget_retL (fun a b ha hb => hi a b (by rw [List.map_cons, List.contains_cons, ha, Bool.or_true]) (by rw [List.map_cons, List.contains_cons, hb, Bool.or_true])) j hj'
theorem retL_key {r : Nat → Nat} {k : Nat} : ∀ {l : LL} (id : Nat), ((retL r k l).map (·.1)).contains id = true → ∃ j, id = ret r k j ∧ (l.map (·.1)).contains j = true
 | [], id, h => by simp [retL] at h
 | (i, o) :: q, id, h => by
  simp only [retL, List.map_cons, List.contains_cons, Bool.or_eq_true, beq_iff_eq] at h
  rcases h with h | h
  ·exact ⟨i, h, by simp⟩
  ·obtain ⟨j, h1, h2⟩ := retL_key id h
   exact ⟨j, h1, by rw [List.map_cons, List.contains_cons, h2, Bool.or_true]⟩
theorem key_retL {r : Nat → Nat} {k : Nat} : ∀ {l : LL} (j : Nat), (l.map (·.1)).contains j = true → ((retL r k l).map (·.1)).contains (ret r k j) = true
 | [], j, h => by simp at h
 | (i, o) :: q, j, h => by
  simp only [List.map_cons, List.contains_cons, Bool.or_eq_true, beq_iff_eq] at h
  simp only [retL, List.map_cons, List.contains_cons, Bool.or_eq_true, beq_iff_eq]
  rcases h with h | h
  ·exact .inl (by rw [h])
  ·exact .inr (key_retL j h)
theorem freshR_key {r : Nat → Nat} {k : Nat} {t : TL} {l l0 : LL} : ∀ {l1 : LL}, freshR r k t l l0 l1 = true → ∀ j, (l1.map (·.1)).contains j = true → lget j l1 ≠ .no
 | [], _, j, h => by simp at h
 | (i, .row true sz rows) :: q, hf, j, h | (i, .mat sz rows _) :: q, hf, j, h => by
  simp only [freshR, Bool.and_eq_true] at hf
  rw [lget_cons]
  by_cases hj : j = i
  ·rw [if_pos hj]; simp
  ·rw [if_neg hj]
   refine freshR_key hf.2 j ?_
   rw [List.map_cons, List.contains_cons, beq_eq_false_iff_ne.2 hj, Bool.false_or] at h; exact h
theorem key_of {l : LL} {j : Nat} (h : lget j l ≠ .no) : (l.map (·.1)).contains j = true := by
 cases hc : (l.map (·.1)).contains j with
 | true => rfl
 | false => exact absurd (lget_none j hc) h
theorem AVR.same {κ κ' : Know} {ρ ρ' : Place} {v : Value} {x : AV} (hk : κ.le κ') (h : AVR κ ρ v x) (hr : ∀ k, AV.ment k x = true → ∀ L, ρ' k = some L → ρ k = some L) : AVR κ' ρ' v x := by
 have := (h.mono hk).ren (ρ' := ρ') (r := id) hr
 have e : AV.ren id x = x := by
  clear this h hr
  have key : ∀ n (x : AV), SizeOf.sizeOf x < n → AV.ren id x = x := by
   intro n
   induction n with
   | zero => intro x h; omega
   | succ n ih =>
    intro x hx
    have lst : ∀ (cs : List AV), (∀ c, c ∈ cs → SizeOf.sizeOf c < n) → AV.rens id cs = cs := by
     intro cs h
     rw [rens_eq]
     conv => rhs; rw [← List.map_id cs]
     exact List.map_congr_left fun c hc => ih c (h c hc)
    cases x with
    | ag cs => simp only [AV.ren]; rw [lst cs fun c hc => by have := List.sizeOf_lt_of_mem hc; simp at hx; omega]
    | tup cs => simp only [AV.ren]; rw [lst cs fun c hc => by have := List.sizeOf_lt_of_mem hc; simp at hx; omega]
    | _ => rfl
  exact key _ x (Nat.lt_succ_self _)
 rw [e] at this; exact this
open Classical in
noncomputable def hand (ρ : Place) (r : Nat → Nat) (l0 : LL) : Place := fun p => if lget p l0 = .no then none else ρ (r p)
theorem Mem.hand (hm : Mem G κ ρ l w) {r : Nat → Nat} {l0 : LL} (hp : parR r l l0) (h0 : parsOnly l0 = true) : Mem ⟨w, Mof (Go.V.hand ρ r l0) l0, κ, 0, Go.V.hand ρ r l0⟩ κ (Go.V.hand ρ r l0) l0 w := by
 have hh : ∀ {p L}, Go.V.hand ρ r l0 p = some L → lget p l0 ≠ .no ∧ ρ (r p) = some L := fun {p L} h => by
  unfold Go.V.hand at h; split at h
  ·cases h
  ·rename_i hne; exact ⟨hne, h⟩
 refine ⟨fun p => ?_, fun i j Li Lj hij hi hj hw => ?_, fun i L hi hw b hb => ?_, fun i L hi => hm.own _ L (hh hi).2, hm.kn, hm.one, fun b o x h => .inl h, ⟨rfl, rfl, rfl, Nat.le_refl _, fun _ _ _ => rfl⟩, fun i L _ h => h⟩
 ·rcases parsOnly_get h0 p with h | ⟨_, h⟩
  ·rw [h]; simp [ObR, Go.V.hand, h]
  ·have hob := hm.ob (r p)
   rw [(parR_get hp p h.ne).1] at hob
   exact hob.mine h (if_neg h.ne)
 ·obtain ⟨e1, e2⟩ := hh hi
  obtain ⟨e3, e4⟩ := hh hj
  obtain ⟨g1, g2⟩ := parR_get hp i e1
  exact hm.sep (r i) (r j) Li Lj (fun e => hij (g2 j e3 e.symm).symm) e2 e4 (by rw [g1]; exact hw)
 ·obtain ⟨e1, e2⟩ := hh hi
  obtain ⟨g1, _⟩ := parR_get hp i e1
  exact ⟨(hm.fre (r i) L e2 (by rw [g1]; exact hw) b hb).1, .inr ⟨i, L, hi, hw, hb⟩⟩
theorem Rel.joinedR (hr : Rel G κ ρ t l a w) {κ' : Know} {ρ1 : Place} {l0 l1 : LL} {w' : World} {k : Nat} {r : Nat → Nat} (hp : parR r l l0) (h0 : parsOnly l0 = true) (hk : κ.le κ')
  (hm1 : Mem ⟨w, Mof (Go.V.hand ρ r l0) l0, κ, 0, Go.V.hand ρ r l0⟩ κ' ρ1 l1 w') (hf : freshR r k t l l0 l1 = true) (hkeep : ∀ p, lget p l0 ≠ .no → lget p l1 ≠ .no) :
  ∃ ρ', Rel G κ' ρ' t (retL r k l1 ++ l) a w' ∧ ∀ v x, namesIn l1 x → AVR κ' ρ1 v x → AVR κ' ρ' v (AV.ren (ret r k) x) := by
 obtain ⟨hm, hdf, hsz, htm⟩ := hr
 have hh : ∀ {p L}, Go.V.hand ρ r l0 p = some L → lget p l0 ≠ .no ∧ ρ (r p) = some L := fun {p L} h => by
  unfold Go.V.hand at h; split at h
  ·cases h
  ·rename_i hne; exact ⟨hne, h⟩
 have hwr0 : ∀ p, lget p l0 ≠ .no → (lget (r p) l).wr = true ∧ 1000000 ≤ p := fun p h => by
  obtain ⟨g1, _⟩ := parR_get hp p h
  rcases parsOnly_get h0 p with h2 | ⟨h2, h3⟩
  ·exact absurd h2 h
  ·rw [g1]; exact ⟨h3.wr, h2⟩
 have hM : ∀ b, Mof (Go.V.hand ρ r l0) l0 b → ∃ p L, lget p l0 ≠ .no ∧ ρ (r p) = some L ∧ L.has b := fun b ⟨p, L, h1, _, h3⟩ => ⟨p, L, (hh h1).1, (hh h1).2, h3⟩
 have hkey := freshR_key hf
 have hnewid : ∀ j, lget j l1 ≠ .no → j < 1000000 → tment (renN k j) t = false ∧ lment (renN k j) l = false ∧ renN k j < 1000000 := fun j h1 h2 => by
  obtain ⟨_, h3⟩ := (freshR_get hf j).resolve_left h1
  exact (h3.resolve_left fun h => by omega).2
 have hold : ∀ j, lget j l1 ≠ .no → 1000000 ≤ j → lget j l0 ≠ .no := fun j h1 h2 => by
  obtain ⟨_, h3⟩ := (freshR_get hf j).resolve_left h1
  exact (h3.resolve_right fun h => by omega).2
 have hrow : ∀ j, lget j l1 ≠ .no → (lget j l1).mine := fun j h1 => ((freshR_get hf j).resolve_left h1).1
 have hlno : ∀ p, lget p l0 ≠ .no → lget (r p) l ≠ .no := fun p h => by rw [(parR_get hp p h).1]; exact h
 have hinj : ∀ i j, lget i l1 ≠ .no → lget j l1 ≠ .no → ret r k i = ret r k j → i = j := fun i j hi hj e => by
  by_cases h1 : 1000000 ≤ i <;> by_cases h2 : 1000000 ≤ j
  ·rw [ret_big h1, ret_big h2] at e
   exact (parR_get hp j (hold j hj h2)).2 i (hold i hi h1) e
  ·rw [ret_big h1, ret_small (by omega)] at e
   have := (lment_get (hnewid j hj (by omega)).2.1).1
   rw [← e] at this
   exact absurd this (hlno i (hold i hi h1))
  ·rw [ret_small (by omega), ret_big h2] at e
   have := (lment_get (hnewid i hi (by omega)).2.1).1
   rw [e] at this
   exact absurd this (hlno j (hold j hj h2))
  ·rw [ret_small (by omega), ret_small (by omega)] at e
   exact renN_inj e
 have hblk : ∀ b, b < w.heap.size → ¬ Mof (Go.V.hand ρ r l0) l0 b → w'.heap[b]? = w.heap[b]? := fun b hb hn => hm1.fr.block b hb hn
 classical
 let ρ' : Place := fun id => if h : ∃ j, id = ret r k j ∧ lget j l1 ≠ .no then ρ1 h.choose else ρ id
 have hρ1 : ∀ j, lget j l1 ≠ .no → ρ' (ret r k j) = ρ1 j := fun j hj => by
  have hex : ∃ i, ret r k j = ret r k i ∧ lget i l1 ≠ .no := ⟨j, rfl, hj⟩
  simp only [ρ']
  rw [dif_pos hex]
  rw [← hinj j _ hj hex.choose_spec.2 hex.choose_spec.1]
 have hρ2 : ∀ id, (¬ ∃ j, id = ret r k j ∧ lget j l1 ≠ .no) → ρ' id = ρ id := fun id h => dif_neg h
 have hl1 : ∀ j, lget j l1 ≠ .no → lget (ret r k j) (retL r k l1 ++ l) = lget j l1 := fun j hj => by
  rw [lget_append, if_pos (key_retL j (key_of hj))]
  exact lget_retL (fun i j hi hj => hinj i j (hkey i hi) (hkey j hj)) j (key_of hj)
 have hl2 : ∀ id, (¬ ∃ j, id = ret r k j ∧ lget j l1 ≠ .no) → lget id (retL r k l1 ++ l) = lget id l := fun id h => by
  rw [lget_append, if_neg]
  intro hc
  obtain ⟨j, h1, h2⟩ := retL_key id hc
  exact h ⟨j, h1, hkey j h2⟩
 have hplace : ∀ id L, (∀ j, lget j l1 ≠ .no → j < 1000000 → id ≠ renN k j) → ρ' id = some L → ρ id = some L := fun id L hn h => by
  by_cases hex : ∃ j, id = ret r k j ∧ lget j l1 ≠ .no
  ·obtain ⟨j, rfl, hj⟩ := hex
   rw [hρ1 j hj] at h
   by_cases hb : 1000000 ≤ j
   ·rw [ret_big hb]
    exact (hh (hm1.par j L hb h)).2
   ·exact absurd (ret_small (by omega)) (hn j hj (by omega))
  ·rw [hρ2 id hex] at h; exact h
 have hav : ∀ v x, (∀ j, lget j l1 ≠ .no → j < 1000000 → AV.ment (renN k j) x = false) → AVR κ ρ v x → AVR κ' ρ' v x := fun v x hx h =>
  h.same hk fun i hi L hL => hplace i L (fun j hj hb e => by subst e; rw [hx j hj hb] at hi; cases hi) hL
 have hother : ∀ id L, (¬ ∃ j, id = ret r k j ∧ lget j l1 ≠ .no) → ρ id = some L → ∀ b, L.has b → b < w.heap.size ∧ ¬ Mof (Go.V.hand ρ r l0) l0 b := fun id L hex hL b hLb => by
  refine ⟨hm.own id L hL b hLb, fun hb => ?_⟩
  obtain ⟨p, Lp, h1, h2, h3⟩ := hM _ hb
  have hne : r p ≠ id := fun e => hex ⟨p, by rw [ret_big (hwr0 p h1).2]; exact e.symm, hkeep p h1⟩
  exact hm.sep (r p) id Lp L hne h2 hL (hwr0 p h1).1 b h3 hLb
 have hmine : ∀ j L, ρ1 j = some L → lget j l1 ≠ .no → ∀ b, L.has b → (∀ o x, ¬ κ' b o x) ∧ (w.heap.size ≤ b ∨ Mof (Go.V.hand ρ r l0) l0 b) := fun j L hj hl =>
  hm1.fre j L hj (hrow j hl).wr
 have hMG : ∀ b, Mof (Go.V.hand ρ r l0) l0 b → G.w0.heap.size ≤ b ∨ G.M b := fun b hb => by
  obtain ⟨p, Lp, h1, h2, h3⟩ := hM _ hb
  exact (hm.fre (r p) Lp h2 (hwr0 p h1).1 b h3).2
 refine ⟨ρ', ⟨⟨fun id => ?_, fun i j Li Lj hij hi hj hwi => ?_, fun i L hi hwi b hLb => ?_, fun i L hi b hLb => ?_, hm1.kn, hm1.one, fun b o x h => ?_, ?_, fun i L hi h => ?_⟩, hdf, hsz, fun i => hav _ _ (fun j hj hb => tment_get (hnewid j hj hb).1 i) (htm i)⟩, fun v x hx h => h.ren fun j hj L hL => ?_⟩
 ·by_cases hex : ∃ j, id = ret r k j ∧ lget j l1 ≠ .no
  ·obtain ⟨j, rfl, hj⟩ := hex
   rw [hl1 j hj]
   exact (hm1.ob j).mine (hrow j hj) (hρ1 j hj)
  ·rw [hl2 id hex]
   refine (hm.ob id).move hk (hρ2 id hex) (fun L hL b hb => hblk _ (hother id L hex hL b hb).1 (hother id L hex hL b hb).2) ?_
   intro m cs hb i c v hc hv
   exact hav v c (fun j hj hb' => ments_get ((lment_get (hnewid j hj hb').2.1).2 id m cs hb) i c hc) hv
 ·by_cases hei : ∃ p, i = ret r k p ∧ lget p l1 ≠ .no
  ·obtain ⟨p, rfl, hp'⟩ := hei
   rw [hρ1 p hp'] at hi
   rw [hl1 p hp'] at hwi
   by_cases hej : ∃ q, j = ret r k q ∧ lget q l1 ≠ .no
   ·obtain ⟨q, rfl, hq⟩ := hej
    rw [hρ1 q hq] at hj
    exact hm1.sep p q Li Lj (fun e => hij (by rw [e])) hi hj hwi
   ·rw [hρ2 j hej] at hj
    intro b e1 e2
    obtain ⟨g1, g2⟩ := hother j Lj hej hj b e2
    rcases (hmine p Li hi hp' b e1).2 with h | h
    ·omega
    ·exact g2 h
  ·rw [hρ2 i hei] at hi
   rw [hl2 i hei] at hwi
   by_cases hej : ∃ q, j = ret r k q ∧ lget q l1 ≠ .no
   ·obtain ⟨q, rfl, hq⟩ := hej
    rw [hρ1 q hq] at hj
    intro b e1 e2
    obtain ⟨g1, g2⟩ := hother i Li hei hi b e1
    rcases (hmine q Lj hj hq b e2).2 with h | h
    ·omega
    ·exact g2 h
   ·rw [hρ2 j hej] at hj
    exact hm.sep i j Li Lj hij hi hj hwi
 ·by_cases hei : ∃ p, i = ret r k p ∧ lget p l1 ≠ .no
  ·obtain ⟨p, rfl, hp'⟩ := hei
   rw [hρ1 p hp'] at hi
   obtain ⟨h1, h2⟩ := hmine p L hi hp' b hLb
   exact ⟨h1, h2.elim (fun h => .inl (Nat.le_trans hm.fr.size h)) (hMG _)⟩
  ·rw [hρ2 i hei] at hi
   rw [hl2 i hei] at hwi
   obtain ⟨h1, h2⟩ := hm.fre i L hi hwi b hLb
   obtain ⟨g1, g2⟩ := hother i L hei hi b hLb
   refine ⟨fun o x hx => ?_, h2⟩
   rcases hm1.kn0 _ o x hx with h | h | h
   ·exact h1 o x h
   ·simp only at h; omega
   ·exact g2 h
 ·by_cases hei : ∃ p, i = ret r k p ∧ lget p l1 ≠ .no
  ·obtain ⟨p, rfl, hp'⟩ := hei
   rw [hρ1 p hp'] at hi
   exact hm1.own p L hi b hLb
  ·rw [hρ2 i hei] at hi
   exact Nat.lt_of_lt_of_le (hm.own i L hi b hLb) hm1.fr.size
 ·rcases hm1.kn0 b o x h with h | h | h
  ·exact hm.kn0 b o x h
  ·exact .inr (.inl (Nat.le_trans hm.fr.size h))
  ·exact .inr (hMG b h)
 ·have f1 := hm.fr; have f2 := hm1.fr
  refine ⟨f2.os.trans f1.os, f2.tape.trans f1.tape, f2.output.trans f1.output, Nat.le_trans f1.size f2.size, fun b hb hMb => ?_⟩
  refine (hblk b (Nat.lt_of_lt_of_le hb f1.size) fun h => ?_).trans (f1.block b hb hMb)
  rcases hMG b h with h | h
  ·omega
  ·exact hMb h
 ·refine hm.par i L hi (hplace i L (fun j hj hb e => ?_) h)
  have := (hnewid j hj hb).2.2
  omega
 ·have hj' := hx j hj
  rw [hρ1 j hj'] at hL
  exact hL
theorem VCall.of_fnR {f : FuncId} {xs xs0 : List AV} {l0 : LL} {x : AV} {l1 : LL} {k : Nat} {dst : Option Nat} {K : AV → TL → LL → Prop} (r : Nat → Nat) (h : Fn P f xs0 l0 x l1) (ha : argR r xs xs0) (hp : parR r l l0) (h0 : parsOnly l0 = true) 
  (hkeep : ∀ p, lget p l0 ≠ .no → lget p l1 ≠ .no) (hn : namesIn l1 x) (hf : freshR r k t l l0 l1 = true)
  (hK : K (AV.ren (ret r k) x) t (retL r k l1 ++ l)) : VCall P f xs dst t l K where
 en := h.en
 out := fun G κ ρ a w vs hr hs hv => by
  obtain ⟨e1, e2⟩ := argR_get (κ := κ) (ρ := ρ) (ρ0 := hand ρ r l0) (fun p L hL => by
   unfold hand at hL; split at hL
   ·cases hL
   ·exact hL) ha
  refine Calls.mono (h.out κ (hand ρ r l0) w vs (hr.m.hand hp h0) (hs.trans e1) fun i v y h1 h2 => ?_) ?_
  ·have hi : i < xs.length := by rw [← hs]; exact (Array.getElem?_eq_some_iff.1 h1).1
   exact e2 i v _ y (List.getElem?_eq_getElem hi) h2 (hv i v _ h1 (List.getElem?_eq_getElem hi))
  ·rintro e w' ⟨v, κ', ρ1, he, h1, h2, h3⟩
   obtain ⟨ρ', h4, h5⟩ := hr.joinedR hp h0 h1 h2 hf hkeep
   exact ⟨v, κ', ρ', _, _, _, he, h1, h4, h5 v x hn h3, hK⟩
end
end Go.V
namespace Go.V
def lend1 (l : LL) (x y : AV) : Prop :=
 match x, y with
 | .d c, .d c' => wkC c c'
 | .ls id lo n sz, .d (.sl r) => match lget id l with
  | .row _ sz' rows => sz = sz' ∧ n + lo ≤ rows.length ∧ (rows.drop lo).take n = r
  | .mat _ ix rows => sz = 1 ∧ n + lo ≤ ix.length ∧ matIn rows ix ∧ ((matD rows ix).drop lo).take n = r
  | _ => False
 | .ms id i lo n sz, .d (.sl r) => match lget id l with
  | .mat sz' _ rows => sz = sz' ∧ ∃ row, rows[i]? = some row ∧ n + lo ≤ row.length ∧ (row.drop lo).take n = r
  | _ => False
 | _, _ => False
def lends1 (l : LL) : List AV → List AV → Prop
 | [], [] => True
 | x :: xs, y :: ys => lend1 l x y ∧ lends1 l xs ys
 | _, _ => False
def lendR (l : LL) : List AV → List AV → Prop
 | [], [] => True
 | x :: xs, y :: ys => (match x, y with
  | .ag cs, .ag cs' => lends1 l cs cs'
  | x, y => lend1 l x y) ∧ lendR l xs ys
 | _, _ => False
def flatC : C → Bool
 | .s _ => true
 | .sl [] => true
 | _ => false
def flat : AV → Bool
 | .d c => flatC c
 | _ => false
def flats : List AV → Bool
 | [] => true
 | x :: r => flat x && flats r
def flat1 : AV → Bool
 | .d c => flatC c
 | .tup cs => flats cs
 | _ => false
theorem flatC_sound {κ κ' : Know} {v : Value} {c : C} (h : flatC c = true) (hv : Repr κ v c) : Repr κ' v c := by
 cases hv with
 | s => exact .s _
 | nil => exact .nil
 | none a cap => exact .none a cap
 | sl b off n cap rows vs hn hc hk hr =>
  cases rows with
  | nil => exact .sl b off n cap [] vs hn hc (fun k c h => by simp at h) (fun k c h => by simp at h)
  | cons r q => simp [flatC] at h
 | _ => simp [flatC] at h
theorem flat_sound {κ κ' : Know} {ρ ρ' : Place} {v : Value} {x : AV} (h : flat x = true) (hv : AVR κ ρ v x) : AVR κ' ρ' v x := by
 cases x with
 | d c => exact .d _ _ (flatC_sound h hv.repr)
 | _ => simp [flat] at h
theorem flats_get : ∀ {xs : List AV}, flats xs = true → ∀ (i : Nat) x, xs[i]? = some x → flat x = true
 | [], _, i, x, h => by simp at h
 | y :: r, hf, 0, x, h => by simp only [flats, Bool.and_eq_true] at hf; simp at h; subst h; exact hf.1
 | y :: r, hf, i + 1, x, h => by simp only [flats, Bool.and_eq_true] at hf; exact flats_get hf.2 i x (by simpa using h)
theorem flat1_sound {κ κ' : Know} {ρ ρ' : Place} {v : Value} {x : AV} (h : flat1 x = true) (hv : AVR κ ρ v x) : AVR κ' ρ' v x := by
 cases x with
 | d c => exact flat_sound (x := .d c) h hv
 | tup cs =>
  obtain ⟨vs, rfl, hn, hv⟩ := hv.tuple
  exact .tup vs cs hn fun i u c h1 h2 => flat_sound (flats_get h i c h2) (hv i u c h1 h2)
 | _ => simp [flat1] at h
section
variable {P : Program} {G : Ctx} {κ : Know} {ρ : Place} {t : TL} {l : LL} {a : Act} {w : World}
theorem Rel.grown (hr : Rel G κ ρ t l a w) {w' : World} (ho : w'.os = w.os) (ht : w'.tape = w.tape) (hu : w'.output = w.output) (hs : w.heap.size ≤ w'.heap.size) (hb : ∀ b, b < w.heap.size → w'.heap[b]? = w.heap[b]?) : Rel G κ ρ t l a w' := by
 obtain ⟨hm, hdf, hsz, htm⟩ := hr
 refine ⟨⟨fun id => ?_, hm.sep, hm.fre, fun i L hi b h => Nat.lt_of_lt_of_le (hm.own i L hi b h) hs, fun b o x h => ?_, hm.one, hm.kn0, ?_, hm.par⟩, hdf, hsz, htm⟩
 ·exact (hm.ob id).move (Know.le_refl _) rfl (fun L hL b h => hb b (hm.own id L hL b h)) (fun _ _ _ _ _ _ _ h => h)
 ·have hbb := hm.known_block h
  have := hm.kn b o x h
  simp only [World.cell?] at this ⊢
  rw [hb b hbb]; exact this
 ·have f := hm.fr
  exact ⟨ho.trans f.os, ht.trans f.tape, hu.trans f.output, Nat.le_trans f.size hs, fun b h1 h2 => (hb b (Nat.lt_of_lt_of_le h1 f.size)).trans (f.block b h1 h2)⟩
def Know.all (w : World) : Know := fun b o x => w.cell? ⟨b, o, none⟩ = some x ∧ oneV x = true
theorem know_all_le (hm : Mem G κ ρ l w) : κ.le (Know.all w) := fun b o x h => ⟨hm.kn b o x h, hm.one.1 b o x h⟩
theorem lend1_get (hm : Mem G κ ρ l w) {x y : AV} {v : Value} (h3 : lend1 l x y) (hv : AVR κ ρ v x) : AVR (Know.all w) (fun _ => none) v y := by
 unfold lend1 at h3
 split at h3
 ·exact .d _ _ (wkC_sound h3 (hv.repr.mono (know_all_le hm)))
 ·rename_i id lo n sz r
  split at h3
  ·rename_i m sz' rows hl
   obtain ⟨rfl, hle, rfl⟩ := h3
   have hob := hm.ob id
   rw [hl] at hob
   obtain ⟨L, arr, E, fz, hL, hh, hN, hfz, hz, hkn, hcs⟩ := hob
   exact .d _ _ (sl_all (M := L.pl) hh hz (fun k c hc => by obtain ⟨x, h4, h5, h6⟩ := hcs k c hc; exact ⟨x, h4, h5.mono (know_all_le hm), h6⟩) (fun _ _ h h' => ⟨h, h'⟩) hle (hv.ls_at hL))
  ·rename_i sz' ix rows hl
   obtain ⟨rfl, hle, hin, rfl⟩ := h3
   have hob := hm.ob id
   rw [hl] at hob
   obtain ⟨L, hL, hR⟩ := hob
   obtain ⟨arr, E, hh, hcs⟩ := mat_all (hR.move (know_all_le hm) (fun _ _ => rfl)) (fun _ _ _ _ h h' => ⟨h, h'⟩) hin
   exact .d _ _ (sl_all (M := L.pl) hh (matD_one rows ix) hcs (fun _ _ h h' => ⟨h, h'⟩) (by rw [matD_len]; exact hle) (hv.ls_at hL))
  ·exact h3.elim
 ·rename_i id i lo n sz r
  split at h3
  ·rename_i sz' ix rows hl
   obtain ⟨rfl, row, hrow, hle, rfl⟩ := h3
   have hob := hm.ob id
   rw [hl] at hob
   obtain ⟨L, hL, hR⟩ := hob
   obtain ⟨M, hM, hs⟩ := hv.ms_at hL
   obtain ⟨arr, E, hh, _, hz, _, hcs⟩ := hR.2.2.1 i M row hM hrow
   exact .d _ _ (sl_all hh hz (fun k c hc => by obtain ⟨x, h4, h5, h6⟩ := hcs k c hc; exact ⟨x, h4, h5.mono (know_all_le hm), h6⟩) (fun _ _ h h' => ⟨h, h'⟩) hle hs)
  ·exact h3.elim
 ·exact h3.elim
theorem lends1_get (hm : Mem G κ ρ l w) : ∀ {xs ys : List AV}, lends1 l xs ys → xs.length = ys.length ∧ ∀ (i : Nat) v x y, xs[i]? = some x → ys[i]? = some y → AVR κ ρ v x → AVR (Know.all w) (fun _ => none) v y
 | [], [], _ => ⟨rfl, fun i v x y h => (by simp at h)⟩
 | [], _ :: _, h => h.elim
 | _ :: _, [], h => h.elim
 | x :: xs, y :: ys, h => by
  obtain ⟨h1, h2⟩ := lends1_get hm h.2
  refine ⟨by simp [h1], fun i v x' y' hx hy hv => ?_⟩
  cases i with
  | succ i => exact h2 i v x' y' (by simpa using hx) (by simpa using hy) hv
  | zero =>
   simp only [List.getElem?_cons_zero, Option.some.injEq] at hx hy
   subst hx; subst hy
   exact lend1_get hm h.1 hv
theorem lend_get (hm : Mem G κ ρ l w) : ∀ {xs ys : List AV}, lendR l xs ys → xs.length = ys.length ∧ ∀ (i : Nat) v x y, xs[i]? = some x → ys[i]? = some y → AVR κ ρ v x → AVR (Know.all w) (fun _ => none) v y
 | [], [], _ => ⟨rfl, fun i v x y h => (by simp at h)⟩
 | [], _ :: _, h => h.elim
 | _ :: _, [], h => h.elim
 | x :: xs, y :: ys, h => by
  obtain ⟨h1, h2⟩ := lend_get hm h.2
  refine ⟨by simp [h1], fun i v x' y' hx hy hv => ?_⟩
  cases i with
  | succ i => exact h2 i v x' y' (by simpa using hx) (by simpa using hy) hv
  | zero =>
   simp only [List.getElem?_cons_zero, Option.some.injEq] at hx hy
   subst hx; subst hy
   have h3 := h.1
   split at h3
   ·rename_i cs cs'
    obtain ⟨vs, rfl, hn, ho, hv⟩ := hv.agg
    obtain ⟨g1, g2⟩ := lends1_get hm h3
    refine .ag vs _ (by rw [hn, g1]) ho fun k u c e1 e2 => ?_
    have hk : k < cs.length := by rw [g1]; exact some_lt e2
    exact g2 k u _ c (List.getElem?_eq_getElem hk) e2 (hv k u _ e1 (List.getElem?_eq_getElem hk))
   ·exact lend1_get hm h3 hv
theorem VCall.lend {f : FuncId} {xs xs0 : List AV} {x : AV} {dst : Option Nat} {K : AV → TL → LL → Prop} (h : Fn P f xs0 [] x []) (ha : lendR l xs xs0) (hx : flat1 x = true) (hK : K x t l) : VCall P f xs dst t l K where
 en := h.en
 out := fun G κ ρ a w vs hr hs hv => by
  obtain ⟨e1, e2⟩ := lend_get hr.m ha
  have hm0 : Mem ⟨w, Mof (fun _ => none) [], Know.all w, 0, fun _ => none⟩ (Know.all w) (fun _ => none) [] w :=
   ⟨fun _ => rfl, fun i j Li Lj _ hi => (by cases hi), fun i L hi => (by cases hi), fun i L hi => (by cases hi), fun b o x h => h.1, ⟨fun b o x h => h.2, Know.le_trans hr.m.one.2 (know_all_le hr.m)⟩, fun b o x h => .inl h, ⟨rfl, rfl, rfl, Nat.le_refl _, fun _ _ _ => rfl⟩, fun i L _ h => h⟩
  refine Calls.mono (h.out (Know.all w) (fun _ => none) w vs hm0 (hs.trans e1) fun i v y h1 h2 => ?_) ?_
  ·have hi : i < xs.length := by rw [← hs]; exact (Array.getElem?_eq_some_iff.1 h1).1
   exact e2 i v _ y (List.getElem?_eq_getElem hi) h2 (hv i v _ h1 (List.getElem?_eq_getElem hi))
  ·rintro e w' ⟨v, κ', ρ1, he, h1, h2, h3⟩
   have hM : ∀ b, ¬ Mof (fun _ => none) [] b := fun b ⟨id, L, h, _⟩ => by cases h
   refine ⟨v, κ, ρ, x, t, l, he, Know.le_refl _, hr.grown h2.fr.os h2.fr.tape h2.fr.output h2.fr.size (fun b hb => h2.fr.block b hb (hM b)), flat1_sound hx h3, hK⟩
def flatL : LL → Prop
 | [] => True
 | (_, .row true _ rows) :: r => (∀ q, q ∈ rows → ∀ c, c ∈ q → flatC c = true) ∧ flatL r
 | (_, .mat _ ix rows) :: r => ((∀ c, MC.d c ∈ ix → flatC c = true) ∧ ∀ row, row ∈ rows → ∀ q, q ∈ row → ∀ c, c ∈ q → flatC c = true) ∧ flatL r
 | _ :: _ => False
def flatO : Ob → Prop
 | .row true _ rows => ∀ q, q ∈ rows → ∀ c, c ∈ q → flatC c = true
 | .mat _ ix rows => (∀ c, MC.d c ∈ ix → flatC c = true) ∧ ∀ row, row ∈ rows → ∀ q, q ∈ row → ∀ c, c ∈ q → flatC c = true
 | _ => False
theorem flatL_get : ∀ {l1 : LL}, flatL l1 → ∀ j, lget j l1 = .no ∨ flatO (lget j l1)
 | [], _, j => .inl rfl
 | (i, .row true sz rows) :: r, h, j | (i, .mat sz rows _) :: r, h, j => by
  rw [lget_cons]
  by_cases hj : j = i
  ·rw [if_pos hj]; exact .inr h.1
  ·rw [if_neg hj]; exact flatL_get h.2 j
theorem RowC.flat {κ κ' : Know} {o sz kn : Nat} {rows : List (List C)} {arr : Array Value} (h : RowC κ o sz kn rows arr) (hf : ∀ q, q ∈ rows → ∀ c, c ∈ q → flatC c = true) : RowC κ' o sz kn rows arr :=
 ⟨h.1, h.2.1, fun k c hc => by
  obtain ⟨x, g1, g2, g3⟩ := h.2.2 k c hc
  obtain ⟨q, hq, hcq⟩ := List.mem_flatten.1 (List.mem_of_getElem? hc)
  exact ⟨x, g1, flatC_sound (hf q hq c hcq) g2, g3⟩⟩
theorem ObR.flat {κ κ' : Know} {w : World} {id : Nat} {o : Ob} (h : ObR κ ρ w id o) (hf : flatO o) : ObR κ' ρ w id o := by
 cases o with
 | no => exact hf.elim
 | box m cs => exact hf.elim
 | row m sz rows =>
  obtain ⟨L, arr, E, fz, h1, h2, h3, h4, h5⟩ := h
  cases m with
  | false => exact hf.elim
  | true => exact ⟨L, arr, E, fz, h1, h2, h3, h4, RowC.flat h5 hf⟩
 | mat sz ix rows =>
  obtain ⟨L, h1, ⟨arr, E, g1, g2, g3, g4⟩, g5, g6, g7⟩ := h
  refine ⟨L, h1, ⟨arr, E, g1, g2, g3, fun k c hc => ?_⟩, g5, fun r M row hM hr => ?_, g7⟩
  ·obtain ⟨x, f1, f2, f3⟩ := g4 k c hc
   refine ⟨x, f1, ?_, f3⟩
   cases c with
   | d c => exact flatC_sound (hf.1 c (List.mem_of_getElem? hc)) f2
   | r i lo n => exact f2
  ·obtain ⟨arr, E, f1, f2, f3⟩ := g6 r M row hM hr
   exact ⟨arr, E, f1, f2, f3.flat (hf.2 row (List.mem_of_getElem? hr))⟩
theorem Mem.forget (hm : Mem G κ ρ l w) {w' : World} {κ' : Know} {ρ1 : Place} {l1 : LL} (hm1 : Mem ⟨w, Mof (fun _ => Option.none) [], Know.all w, 0, fun _ => Option.none⟩ κ' ρ1 l1 w') (hf : flatL l1) :
  Mem ⟨w, Mof (fun _ => Option.none) [], κ, 0, fun _ => Option.none⟩ κ ρ1 l1 w' := by
 have hM : ∀ b, ¬ Mof (fun _ => Option.none) [] b := fun b ⟨id, L, h, _⟩ => by cases h
 refine ⟨fun j => ?_, hm1.sep, fun i L hi hw b hb => ?_, hm1.own, fun b o x h => ?_, hm.one, fun b o x h => .inl h, ⟨hm1.fr.os, hm1.fr.tape, hm1.fr.output, hm1.fr.size, hm1.fr.block⟩, hm1.par⟩
 ·have hob := hm1.ob j
  rcases flatL_get hf j with h | h
  ·rw [h] at hob ⊢; exact hob
  ·exact hob.flat h
 ·obtain ⟨h1, h2⟩ := hm1.fre i L hi hw b hb
  have h2 := h2.resolve_right (hM _)
  refine ⟨fun o x h => ?_, .inl h2⟩
  have := hm.known_block h
  simp only at h2; omega
 ·have hb := hm.known_block h
  have := hm.kn b o x h
  simp only [World.cell?] at this ⊢
  rw [hm1.fr.block b hb (hM b)]; exact this
theorem VCall.lendN {f : FuncId} {xs xs0 : List AV} {x : AV} {l1 : LL} {k : Nat} {dst : Option Nat} {K : AV → TL → LL → Prop} (h : Fn P f xs0 [] x l1) (ha : lendR l xs xs0) (hl1 : flatL l1) (hx : ∀ κ κ' ρ v, AVR κ ρ v x → AVR κ' ρ v x)
  (hn : namesIn l1 x) (hf : freshL k t l l1 = true) (hK : K (AV.ren (renN k) x) t (renL k l1 ++ l)) : VCall P f xs dst t l K where
 en := h.en
 out := fun G κ ρ a w vs hr hs hv => by
  obtain ⟨e1, e2⟩ := lend_get hr.m ha
  have hm0 : Mem ⟨w, Mof (fun _ => none) [], Know.all w, 0, fun _ => none⟩ (Know.all w) (fun _ => none) [] w :=
   ⟨fun _ => rfl, fun i j Li Lj _ hi => (by cases hi), fun i L hi => (by cases hi), fun i L hi => (by cases hi), fun b o x h => h.1, ⟨fun b o x h => h.2, Know.le_trans hr.m.one.2 (know_all_le hr.m)⟩, fun b o x h => .inl h, ⟨rfl, rfl, rfl, Nat.le_refl _, fun _ _ _ => rfl⟩, fun i L _ h => h⟩
  refine Calls.mono (h.out (Know.all w) (fun _ => none) w vs hm0 (hs.trans e1) fun i v y h1 h2 => ?_) ?_
  ·have hi : i < xs.length := by rw [← hs]; exact (Array.getElem?_eq_some_iff.1 h1).1
   exact e2 i v _ y (List.getElem?_eq_getElem hi) h2 (hv i v _ h1 (List.getElem?_eq_getElem hi))
  ·rintro e w' ⟨v, κ', ρ1, he, h1, h2, h3⟩
   have hm1 := hr.m.forget h2 hl1
   obtain ⟨ρ', h4, h5⟩ := hr.joined (Know.le_refl _) hm1 hf
   exact ⟨v, κ, ρ', _, _, _, he, Know.le_refl _, h4, h5 v x hn (hx _ _ _ _ h3), hK⟩
theorem ls_any {id lo n sz : Nat} : ∀ κ κ' ρ v, AVR κ ρ v (.ls id lo n sz) → AVR κ' ρ v (.ls id lo n sz) := fun κ κ' ρ v h => by
 cases h with | ls _ _ _ _ _ h => exact .ls _ _ _ _ _ h
end
end Go.V
namespace Go.V
def One (f : (AV → Prop) → Prop) : Prop := ∀ K, f K → ∃ x, K x ∧ f (fun y => y = x)
theorem One.pure (x : AV) : One (fun K => K x) := fun K h => ⟨x, h, rfl⟩
theorem One.false : One (fun _ => False) := fun _ h => h.elim
theorem One.ifB {b : Bool} {f : (AV → Prop) → Prop} (hf : One f) : One (fun K => Go.V.ifB b (f K)) := fun K h => by
 obtain ⟨hb, h⟩ := ifB_iff.1 h
 obtain ⟨x, h1, h2⟩ := hf K h
 exact ⟨x, h1, ifB_iff.2 ⟨hb, h2⟩⟩
theorem One.chk {p : Prop} {f : (AV → Prop) → Prop} (hf : One f) : One (fun K => Chk p (f K)) := fun K h => by
 obtain ⟨hp, h⟩ := h
 obtain ⟨x, h1, h2⟩ := hf K h
 exact ⟨x, h1, hp, h2⟩
theorem One.wr {z : Int} {k : IntKind} (g : Int → AV) : One (fun K => Wr z k fun z => K (g z)) := fun K h => by
 obtain ⟨h⟩ := h
 exact ⟨g (k.wrap z), h, ⟨rfl⟩⟩
theorem One.at {rows : List (List C)} {i : Nat} {f : List C → (AV → Prop) → Prop} (hf : ∀ r, One (f r)) : One (fun K => At rows i fun r => f r K) := fun K h => by
 obtain ⟨r, hr, h⟩ := h
 obtain ⟨x, h1, h2⟩ := hf r K h
 exact ⟨x, h1, r, hr, h2⟩
theorem one_headK (cs : List AV) : One (headK cs) := fun K h => by
 obtain ⟨x, h1, h2⟩ := headK_iff.1 h
 exact ⟨x, h2, headK_iff.2 ⟨x, h1, rfl⟩⟩
theorem one_headCK (cs : List C) : One (headCK cs) := fun K h => by
 obtain ⟨x, h1, h2⟩ := headCK_iff.1 h
 exact ⟨.d x, h2, headCK_iff.2 ⟨x, h1, rfl⟩⟩
theorem one_arithK (k k' : IntKind) (z : Int) : One (arithK k k' z) := One.ifB (One.wr fun z => .d (.s (.int k z)))
theorem one_cmpK (k k' : IntKind) (b : Bool) : One (cmpK k k' b) := One.ifB (One.pure _)
theorem one_binIK (op : BinOp) (k : IntKind) (a : Int) (k' : IntKind) (b : Int) : One (binIK op k a k' b) := by
 cases op
 all_goals first
  | exact one_arithK _ _ _
  | exact one_cmpK _ _ _
  | exact One.chk (one_arithK _ _ _)
  | exact One.chk (One.ifB (One.pure _))
  | exact One.chk (One.wr fun z => .d (.s (.int k z)))
  | exact One.chk (One.pure _)
  | exact One.false
theorem one_binSK (op : BinOp) (a b : ByteArray) : One (binSK op a b) := by
 cases op
 all_goals first
  | exact One.chk (One.pure _)
  | exact One.pure _
  | exact One.false
theorem one_binBK (op : BinOp) (a b : Bool) : One (binBK op a b) := by
 cases op
 all_goals first
  | exact One.pure _
  | exact One.false
theorem one_binNsK (op : BinOp) (sh : Nat) (c : C) : One (binNsK op sh c) := fun K h => by
 unfold binNsK at h ⊢
 split at h
 ·exact One.ifB (One.chk (One.pure _)) K h
 ·exact One.ifB (One.chk (One.pure _)) K h
 ·exact One.ifB (One.pure _) K h
 ·exact One.ifB (One.pure _) K h
 ·exact h.elim
theorem one_binNiK (op : BinOp) (sh : Nat) (c : C) : One (binNiK op sh c) := fun K h => by
 unfold binNiK at h ⊢
 split at h
 ·exact One.ifB (One.pure _) K h
 ·exact One.ifB (One.pure _) K h
 ·exact One.ifB (One.pure _) K h
 ·exact One.ifB (One.pure _) K h
 ·exact h.elim
theorem one_binK (op : BinOp) (sh : Nat) (cst : Bool) (x y : AV) : One (binK op sh cst x y) := fun K h => by
 unfold binK at h ⊢
 split at h
 ·exact one_binIK _ _ _ _ _ K h
 ·exact one_binSK _ _ _ K h
 ·exact One.ifB (one_binBK _ _ _) K h
 ·exact One.ifB (one_binNsK _ _ _) K h
 ·exact One.ifB (one_binNiK _ _ _) K h
 ·exact h.elim
theorem one_unK (op : UnOp) (x : AV) : One (unK op x) := fun K h => by
 unfold unK at h ⊢
 split at h
 ·exact One.pure _ K h
 ·exact One.wr (fun z => .d (.s (.int _ z))) K h
 ·exact h.elim
theorem one_convK (T : Ty) (x : AV) : One (convK T x) := fun K h => by
 unfold convK at h ⊢
 split at h
 ·split at h
  ·exact One.wr (fun z => .d (.s (.int _ z))) K h
  ·exact h.elim
 ·exact One.ifB (One.pure _) K h
 ·exact h.elim
theorem one_indexK (x i : AV) : One (indexK x i) := fun K h => by
 unfold indexK at h ⊢
 split at h
 ·exact One.chk (One.pure _) K h
 ·exact h.elim
theorem one_extractK (x : AV) (i : Nat) : One (extractK x i) := fun K h => by
 unfold extractK at h ⊢
 split at h
 ·exact one_headK _ K h
 ·exact h.elim
theorem one_maxK (x y : AV) : One (maxK x y) := fun K h => by
 unfold maxK at h ⊢
 split at h
 ·exact One.pure _ K h
 ·exact h.elim
theorem one_minK (x y : AV) : One (minK x y) := fun K h => by
 unfold minK at h ⊢
 split at h
 ·exact One.pure _ K h
 ·exact h.elim
theorem one_partK (T : Ty) (off : Nat) (cs : List AV) : One (partK T off cs) := fun K h => by
 unfold partK at h ⊢
 split at h
 ·split at h
  ·exact One.pure _ K h
  ·exact One.ifB (One.pure _) K h
 ·exact one_headK _ K h
theorem one_rowK (T : Ty) (sz f : Nat) (rows : List (List C)) (i : Nat) : One (rowK T sz f rows i) := fun K h => by
 unfold rowK at h ⊢
 split at h
 ·exact One.ifB (One.at fun r => One.pure _) K h
 ·exact One.at (fun r => one_headCK _) K h
def OneL (m : Nat → Bool) (f : LL → (AV → Prop) → Prop) : Prop := ∀ l K, f l K → ∃ x, K x ∧ ∀ l', (∀ id, m id = true → lget id l' = lget id l) → f l' (fun y => y = x)
theorem One.l {m : Nat → Bool} {f : (AV → Prop) → Prop} (h : One f) : OneL m (fun _ => f) := fun l K hk => by
 obtain ⟨x, h1, h2⟩ := h K hk
 exact ⟨x, h1, fun _ _ => h2⟩
theorem live_eq {id : Nat} {l l' : LL} (h : lget id l' = lget id l) : live id l' = live id l := by unfold live; rw [h]
theorem ment_self (id : Nat) : Nat.beq id id = true := by simp
theorem one_mcK (id sz : Nat) (c : MC) : One (mcK id sz c) := fun K h => by
 cases c with
 | d c =>
  have h : forceC c fun c => K (.d c) := h
  rw [forceC_eq] at h
  exact ⟨_, h, show forceC c fun x => (fun y => y = AV.d c) (.d x) by rw [forceC_eq]⟩
 | r i lo n => exact ⟨_, h, rfl⟩
theorem one_loadK (T : Ty) (a : AV) : OneL (fun id => AV.ment id a) (loadK T a) := fun l K h => by
 cases a with
 | lp id off =>
  simp only [loadK] at h
  split at h
  ·rename_i m cs hl
   obtain ⟨x, h1, h2⟩ := one_partK _ _ _ K h
   exact ⟨x, h1, fun l' hl' => by simp only [loadK, hl' id (ment_self id), hl]; exact h2⟩
  ·exact h.elim
 | pe id i f sz =>
  simp only [loadK] at h
  split at h
  ·rename_i m sz' rows hl
   obtain ⟨x, h1, h2⟩ := One.ifB (one_rowK _ _ _ _ _) K h
   exact ⟨x, h1, fun l' hl' => by simp only [loadK, hl' id (ment_self id), hl]; exact h2⟩
  ·rename_i sz' ix rows hl
   obtain ⟨hb, c, hc, h⟩ := ifB_iff.1 h
   obtain ⟨x, h1, h2⟩ := one_mcK id sz' c K h
   exact ⟨x, h1, fun l' hl' => by simp only [loadK, hl' id (ment_self id), hl]; exact ifB_iff.2 ⟨hb, c, hc, h2⟩⟩
  ·exact h.elim
 | me id r i f sz =>
  simp only [loadK] at h
  split at h
  ·rename_i sz' ix rows hl
   obtain ⟨hb, row, hr, h⟩ := ifB_iff.1 h
   obtain ⟨x, h1, h2⟩ := one_rowK _ _ _ _ _ K h
   exact ⟨x, h1, fun l' hl' => by simp only [loadK, hl' id (ment_self id), hl]; exact ifB_iff.2 ⟨hb, row, hr, h2⟩⟩
  ·exact h.elim
 | ep rows i f sz => exact One.l (one_rowK T sz f rows i) l K h
 | pp cs off => exact One.l (one_partK T off (dIs cs)) l K h
 | _ => exact h.elim
theorem one_fieldAddrK (T : Ty) (x : AV) (i : Nat) : OneL (fun id => AV.ment id x) (fieldAddrK T x i) := fun l K h => by
 unfold fieldAddrK at h
 split at h
 ·rename_i off n g r hd
  have hn := (ifB_iff.1 h).1
  replace h := (ifB_iff.1 h).2
  cases x with
  | lp id o =>
   obtain ⟨h1, h2⟩ := ifB_iff.1 h
   exact ⟨_, h2, fun l' hl' => by unfold fieldAddrK; rw [hd]; exact ifB_iff.2 ⟨hn, ifB_iff.2 ⟨by rw [live_eq (hl' id (ment_self id))]; exact h1, rfl⟩⟩⟩
  | pe id k f sz =>
   obtain ⟨h1, h2⟩ := ifB_iff.1 h
   exact ⟨_, h2, fun l' hl' => by unfold fieldAddrK; rw [hd]; exact ifB_iff.2 ⟨hn, ifB_iff.2 ⟨by rw [live_eq (hl' id (ment_self id))]; exact h1, rfl⟩⟩⟩
  | me id r k f sz =>
   obtain ⟨h1, h2⟩ := ifB_iff.1 h
   exact ⟨_, h2, fun l' hl' => by unfold fieldAddrK; rw [hd]; exact ifB_iff.2 ⟨hn, ifB_iff.2 ⟨by rw [live_eq (hl' id (ment_self id))]; exact h1, rfl⟩⟩⟩
  | ep rows k f sz => exact ⟨_, h, fun l' _ => by unfold fieldAddrK; rw [hd]; exact ifB_iff.2 ⟨hn, rfl⟩⟩
  | pp cs o => exact ⟨_, h, fun l' _ => by unfold fieldAddrK; rw [hd]; exact ifB_iff.2 ⟨hn, rfl⟩⟩
  | _ => exact h.elim
 ·exact h.elim
theorem one_indexAddrK (T : Ty) (x i : AV) : OneL (fun id => AV.ment id x) (indexAddrK T x i) := fun l K h => by
 unfold indexAddrK at h
 split at h
 ·rename_i id lo len sz k n
  have hb := (ifB_iff.1 h).1
  obtain ⟨hc, h⟩ := (ifB_iff.1 h).2
  exact ⟨_, h, fun l' hl' => by unfold indexAddrK; exact ifB_iff.2 ⟨by rw [live_eq (hl' id (ment_self id))]; exact hb, hc, rfl⟩⟩
 ·rename_i id r lo len sz k n
  have hb := (ifB_iff.1 h).1
  obtain ⟨hc, h⟩ := (ifB_iff.1 h).2
  exact ⟨_, h, fun l' hl' => by unfold indexAddrK; exact ifB_iff.2 ⟨by rw [live_eq (hl' id (ment_self id))]; exact hb, hc, rfl⟩⟩
 ·rename_i id m sz k n
  have hb := (ifB_iff.1 h).1
  obtain ⟨hc, h⟩ := (ifB_iff.1 h).2
  exact ⟨_, h, fun l' hl' => by unfold indexAddrK; exact ifB_iff.2 ⟨by rw [live_eq (hl' id (ment_self id))]; exact hb, hc, rfl⟩⟩
 ·have hb := (ifB_iff.1 h).1
  obtain ⟨hc, h⟩ := (ifB_iff.1 h).2
  exact ⟨_, h, fun l' _ => by unfold indexAddrK; exact ifB_iff.2 ⟨hb, hc, rfl⟩⟩
 ·have hb := (ifB_iff.1 h).1
  obtain ⟨hc, h⟩ := (ifB_iff.1 h).2
  exact ⟨_, h, fun l' _ => by unfold indexAddrK; exact ifB_iff.2 ⟨hb, hc, rfl⟩⟩
 ·exact h.elim
theorem one_nilK (x : AV) : OneL (fun id => AV.ment id x) (nilK x) := fun l K h => by
 unfold nilK at h
 split at h
 ·rename_i id off
  obtain ⟨h1, h2⟩ := ifB_iff.1 h
  exact ⟨_, h2, fun l' hl' => by unfold nilK; exact ifB_iff.2 ⟨by rw [live_eq (hl' id (ment_self id))]; exact h1, rfl⟩⟩
 ·exact ⟨_, h, fun l' _ => rfl⟩
 ·exact ⟨_, h, fun l' _ => rfl⟩
 ·exact ⟨_, h, fun l' _ => rfl⟩
 ·exact h.elim
theorem one_lenK (sh : Nat) (x : AV) : OneL (fun id => AV.ment id x) (lenK sh x) := fun l K h => by
 unfold lenK at h
 split at h
 ·obtain ⟨h1, h2⟩ := ifB_iff.1 h
  exact ⟨_, h2, fun l' _ => by unfold lenK; exact ifB_iff.2 ⟨h1, rfl⟩⟩
 ·obtain ⟨h1, h2⟩ := ifB_iff.1 h
  exact ⟨_, h2, fun l' _ => by unfold lenK; exact ifB_iff.2 ⟨h1, rfl⟩⟩
 ·obtain ⟨h1, h2⟩ := ifB_iff.1 h
  exact ⟨_, h2, fun l' _ => by unfold lenK; exact ifB_iff.2 ⟨h1, rfl⟩⟩
 ·rename_i id lo len sz
  obtain ⟨h1, h2⟩ := ifB_iff.1 h
  exact ⟨_, h2, fun l' hl' => by unfold lenK; exact ifB_iff.2 ⟨by rw [live_eq (hl' id (ment_self id))]; exact h1, rfl⟩⟩
 ·rename_i id r lo len sz
  obtain ⟨h1, h2⟩ := ifB_iff.1 h
  exact ⟨_, h2, fun l' hl' => by unfold lenK; exact ifB_iff.2 ⟨by rw [live_eq (hl' id (ment_self id))]; exact h1, rfl⟩⟩
 ·exact h.elim
theorem one_boundK (x : Option AV) (d : Int) (K : Int → Prop) (h : boundK x d K) : ∃ i, K i ∧ ∀ K' : Int → Prop, K' i → boundK x d K' := by
 unfold boundK at h ⊢
 split at h
 ·exact ⟨_, h, fun K' h => h⟩
 ·exact ⟨_, h, fun K' h => h⟩
 ·exact h.elim
theorem one_sliceK (T : Ty) (x : AV) (lo hi : Option AV) : OneL (fun id => AV.ment id x) (sliceK T x lo hi) := fun l K h => by
 unfold sliceK at h
 split at h
 ·obtain ⟨hb, h⟩ := ifB_iff.1 h
  obtain ⟨a, h, ha⟩ := one_boundK _ _ _ h
  obtain ⟨b, h, hb'⟩ := one_boundK _ _ _ h
  obtain ⟨hc, h⟩ := h
  exact ⟨_, h, fun l' _ => by unfold sliceK; exact ifB_iff.2 ⟨hb, ha _ (hb' _ ⟨hc, rfl⟩)⟩⟩
 ·obtain ⟨hb, h⟩ := ifB_iff.1 h
  obtain ⟨a, h, ha⟩ := one_boundK _ _ _ h
  obtain ⟨b, h, hb'⟩ := one_boundK _ _ _ h
  obtain ⟨hc, h⟩ := h
  exact ⟨_, h, fun l' _ => by unfold sliceK; exact ifB_iff.2 ⟨hb, ha _ (hb' _ ⟨hc, rfl⟩)⟩⟩
 ·rename_i id b0 len sz
  split at h
  ·rename_i m sz' rows hl
   have hb := (ifB_iff.1 h).1
   replace h := (ifB_iff.1 h).2
   obtain ⟨a, h, ha⟩ := one_boundK _ _ _ h
   obtain ⟨b, h, hb'⟩ := one_boundK _ _ _ h
   obtain ⟨hc, h⟩ := h
   exact ⟨_, h, fun l' hl' => by
    unfold sliceK
    simp only [hl' id (ment_self id), hl]
    exact ifB_iff.2 ⟨hb, ha _ (hb' _ ⟨hc, rfl⟩)⟩⟩
  ·rename_i sz' ix rows hl
   have hb := (ifB_iff.1 h).1
   replace h := (ifB_iff.1 h).2
   obtain ⟨a, h, ha⟩ := one_boundK _ _ _ h
   obtain ⟨b, h, hb'⟩ := one_boundK _ _ _ h
   obtain ⟨hc, h⟩ := h
   exact ⟨_, h, fun l' hl' => by
    unfold sliceK
    simp only [hl' id (ment_self id), hl]
    exact ifB_iff.2 ⟨hb, ha _ (hb' _ ⟨hc, rfl⟩)⟩⟩
  ·exact h.elim
 ·rename_i id r b0 len sz
  have hb := (ifB_iff.1 h).1
  replace h := (ifB_iff.1 h).2
  obtain ⟨a, h, ha⟩ := one_boundK _ _ _ h
  obtain ⟨b, h, hb'⟩ := one_boundK _ _ _ h
  obtain ⟨hc, h⟩ := h
  exact ⟨_, h, fun l' hl' => by unfold sliceK; exact ifB_iff.2 ⟨by rw [live_eq (hl' id (ment_self id))]; exact hb, ha _ (hb' _ ⟨hc, rfl⟩)⟩⟩
 ·rename_i id n sz
  have hb := (ifB_iff.1 h).1
  replace h := (ifB_iff.1 h).2
  obtain ⟨a, h, ha⟩ := one_boundK _ _ _ h
  obtain ⟨b, h, hb'⟩ := one_boundK _ _ _ h
  obtain ⟨hc, h⟩ := h
  exact ⟨_, h, fun l' hl' => by unfold sliceK; exact ifB_iff.2 ⟨by rw [live_eq (hl' id (ment_self id))]; exact hb, ha _ (hb' _ ⟨hc, rfl⟩)⟩⟩
 ·exact h.elim
theorem one_conv2K (Te Tb : Ty) (x : AV) : OneL (fun id => AV.ment id x) (conv2K Te Tb x) := fun l K h => by
 have hb := (ifB_iff.1 h).1
 have h2 := (ifB_iff.1 h).2
 clear h
 split at h2
 ·rename_i id lo n sz
  split at h2
  ·rename_i m sz' rows hl
   have hb2 := (ifB_iff.1 h2).1
   obtain ⟨r, h3, h4, ⟨s, h5, h6⟩⟩ := (ifB_iff.1 h2).2
   refine ⟨_, h6, fun l' hl' => ifB_iff.2 ⟨hb, ?_⟩⟩
   simp only [hl' id (ment_self id), hl]
   exact ifB_iff.2 ⟨hb2, ⟨r, h3, h4, ⟨s, h5, rfl⟩⟩⟩
  ·exact h2.elim
 ·obtain ⟨s, h5, h6⟩ := h2
  exact ⟨_, h6, fun l' _ => ifB_iff.2 ⟨hb, ⟨s, h5, rfl⟩⟩⟩
 ·exact h2.elim
theorem oneCell_eq {l l' : LL} {y : AV} (h : ∀ id, AV.ment id y = true → lget id l' = lget id l) : oneCell l' y = oneCell l y := by
 cases y with
 | lp id o => exact live_eq (h id (ment_self id))
 | ls id lo n sz => exact live_eq (h id (ment_self id))
 | ms id r lo n sz => exact live_eq (h id (ment_self id))
 | _ => rfl
theorem one_buildK (T : Ty) : ∀ (ps : List (Nat × AV)) (cs : List AV), OneL (fun id => AV.ments id (ps.map (·.2))) (fun l => buildK T l cs ps)
 | [], cs => fun l K h => ⟨_, h, fun l' _ => rfl⟩
 | (i, x) :: r, cs => fun l K h => by
  replace h : buildK T l cs ((i, x) :: r) K := h
  unfold buildK at h
  split at h
  ·rename_i off n g q hd
   split at h
   ·rename_i xs
    obtain ⟨hb, h⟩ := ifB_iff.1 h
    obtain ⟨y, h1, h2⟩ := one_buildK T r _ l K h
    exact ⟨y, h1, fun l' hl' => by
     show buildK T l' cs ((i, AV.ag xs) :: r) _
     unfold buildK
     simp only [hd]
     exact ifB_iff.2 ⟨hb, h2 l' fun id hid => hl' id (by simp only [List.map_cons, AV.ments, hid, Bool.or_true])⟩⟩
   ·rename_i y' hy
    obtain ⟨hb, h⟩ := ifB_iff.1 h
    obtain ⟨hs, h⟩ := setK_iff.1 h
    obtain ⟨z, h1, h2⟩ := one_buildK T r _ l K h
    refine ⟨z, h1, fun l' hl' => ?_⟩
    have e : oneCell l' x = oneCell l x := oneCell_eq fun id hid => hl' id (by simp only [List.map_cons, AV.ments, hid, Bool.true_or])
    have hr := h2 l' fun id hid => hl' id (by simp only [List.map_cons, AV.ments, hid, Bool.or_true])
    show buildK T l' cs ((i, x) :: r) _
    unfold buildK
    simp only [hd]
    cases x with
    | ag xs => exact absurd rfl (hy xs)
    | _ => exact ifB_iff.2 ⟨by rw [e]; exact hb, setK_iff.2 ⟨hs, hr⟩⟩
  ·exact h.elim
def OneN (m : Nat → Bool) (k : Nat) (f : TL → LL → (AV → TL → LL → Prop) → Prop) : Prop := ∀ t l K, f t l K → tment k t = false ∧ lment k l = false ∧ k < 1000000 ∧ ∃ x o, K x t ((k, o) :: l) ∧
 ∀ t' l', (∀ id, m id = true → lget id l' = lget id l) → tment k t' = false → lment k l' = false → f t' l' (fun y t1 l1 => y = x ∧ t1 = t' ∧ l1 = (k, o) :: l')
theorem one_newK {m : Nat → Bool} (k : Nat) (x : Nat → AV) (o : Ob) : OneN m k (newK (some k) x o) := fun t l K h => by
 unfold newK at h
 simp only at h
 split at h
 ·rename_i hm
  simp only [Bool.or_eq_false_iff] at hm
  refine ⟨hm.1.1, hm.1.2, small hm.2, x k, o, h, fun t' l' _ ht hl => ?_⟩
  unfold newK
  simp only [ht, hl, hm.2, Bool.or_self]
  exact ⟨trivial, trivial, trivial⟩
 ·exact h.elim
theorem OneN.ifB {m : Nat → Bool} {k : Nat} {b : Bool} {f : TL → LL → (AV → TL → LL → Prop) → Prop} (hf : OneN m k f) : OneN m k (fun t l K => Go.V.ifB b (f t l K)) := fun t l K h => by
 obtain ⟨hb, h⟩ := ifB_iff.1 h
 obtain ⟨h1, h2, h3, x, o, h4, h5⟩ := hf t l K h
 exact ⟨h1, h2, h3, x, o, h4, fun t' l' ha ht hl => ifB_iff.2 ⟨hb, h5 t' l' ha ht hl⟩⟩
theorem OneN.chk {m : Nat → Bool} {k : Nat} {p : Prop} {f : TL → LL → (AV → TL → LL → Prop) → Prop} (hf : OneN m k f) : OneN m k (fun t l K => Chk p (f t l K)) := fun t l K h => by
 obtain ⟨hb, h⟩ := h
 obtain ⟨h1, h2, h3, x, o, h4, h5⟩ := hf t l K h
 exact ⟨h1, h2, h3, x, o, h4, fun t' l' ha ht hl => ⟨hb, h5 t' l' ha ht hl⟩⟩
theorem one_allocK {m : Nat → Bool} (T : Ty) (k : Nat) : OneN m k (allocK T (some k)) := by
 unfold allocK
 cases Nat.beq T.sh 6 with
 | true => exact OneN.ifB (one_newK k _ _)
 | false => exact OneN.ifB (one_newK k _ _)
theorem boxK_eq {x : AV} (hx : ∀ cs, x ≠ .ag cs) (dst : Option Nat) (t : TL) (l : LL) (K : AV → TL → LL → Prop) : boxK dst x t l K = ifB (oneCell l x) (newK dst (fun k => .lp k 0) (.box true [x]) t l K) := by
 cases x with
 | ag cs => exact absurd rfl (hx cs)
 | _ => rfl
theorem one_boxK (x : AV) (k : Nat) : OneN (fun id => AV.ment id x) k (boxK (some k) x) := fun t l K h => by
 by_cases hx : ∀ cs, x ≠ .ag cs
 ·rw [boxK_eq hx] at h
  obtain ⟨hb, h⟩ := ifB_iff.1 h
  obtain ⟨h1, h2, h3, y, o, h4, h5⟩ := one_newK (m := fun id => AV.ment id x) k _ _ t l K h
  exact ⟨h1, h2, h3, y, o, h4, fun t' l' ha ht hl => by
   rw [boxK_eq hx]
   exact ifB_iff.2 ⟨by rw [oneCell_eq ha]; exact hb, h5 t' l' ha ht hl⟩⟩
 ·cases x with
  | ag cs => exact one_newK (m := fun id => AV.ment id (.ag cs)) k (fun k => .lp k 0) (.box true cs) t l K h
  | _ => exact absurd (fun cs e => by cases e) hx
theorem one_rowsK (n : Nat) : ∀ (ps : List (Nat × AV)) (j : Nat) (K : List (List C) → Prop), rowsK n j ps K → ∃ rows, K rows ∧ ∀ K' : List (List C) → Prop, K' rows → rowsK n j ps K'
 | [], j, K, h => ⟨[], h, fun K' h => h⟩
 | (i, x) :: r, j, K, h => by
  unfold rowsK at h
  obtain ⟨hb, h⟩ := ifB_iff.1 h
  split at h
  ·rename_i cs hcs
   obtain ⟨hb2, h⟩ := ifB_iff.1 h
   obtain ⟨rows, h1, h2⟩ := one_rowsK n r _ _ h
   exact ⟨cs :: rows, h1, fun K' hK => by
    unfold rowsK
    refine ifB_iff.2 ⟨hb, ?_⟩
    rw [hcs]
    exact ifB_iff.2 ⟨hb2, h2 _ hK⟩⟩
  ·exact h.elim
theorem one_buildSliceK0 {m : Nat → Bool} (T : Ty) (n : Nat) (ps : List (Nat × AV)) (k : Nat) : OneN m k (buildSliceK0 T n ps (some k)) := fun t l K h => by
 obtain ⟨hb, h⟩ := ifB_iff.1 h
 obtain ⟨rows, h, hr⟩ := one_rowsK _ _ _ _ h
 obtain ⟨h1, h2, h3, x, o, h4, h5⟩ := one_newK (m := m) k _ _ t l K h
 exact ⟨h1, h2, h3, x, o, h4, fun t' l' ha ht hl => ifB_iff.2 ⟨hb, hr _ (h5 t' l' ha ht hl)⟩⟩
theorem one_buildSliceK (T : Ty) (n : Nat) (ps : List (Nat × AV)) (k : Nat) : OneN (fun id => ps.any fun p => AV.ment id p.2) k (buildSliceK T n ps (some k)) := fun t l K h => by
 unfold buildSliceK at h ⊢
 split at h
 ·rename_i id2 lo n2 sz2
  obtain ⟨hb, h⟩ := ifB_iff.1 h
  obtain ⟨h1, h2, h3, y, o, h4, h5⟩ := one_newK (m := fun _ => false) k _ _ t l K h
  refine ⟨h1, h2, h3, y, o, h4, fun t' l' ha ht hl => ifB_iff.2 ⟨?_, h5 t' l' (fun id h => by cases h) ht hl⟩⟩
  rw [live_eq (ha id2 (by simp [AV.ment]))]; exact hb
 ·rename_i hps
  obtain ⟨h1, h2, h3, y, o, h4, h5⟩ := one_buildSliceK0 (m := fun _ => false) T n ps k t l K h
  exact ⟨h1, h2, h3, y, o, h4, fun t' l' ha ht hl => h5 t' l' (fun id h => by cases h) ht hl⟩
theorem one_makeK {m : Nat → Bool} (T : Ty) (a b : AV) (k : Nat) : OneN m k (makeK T a b (some k)) := fun t l K h => by
 unfold makeK at h ⊢
 split at h
 ·exact OneN.ifB (OneN.chk (one_newK k _ _)) t l K h
 ·exact h.elim
end Go.V
namespace Go.V
def quietOp : Op → Bool
 | .move _ | .assign _ | .load _ _ | .nilCheck _ | .binOp _ _ _ _ _ | .unOp _ _ _ | .convert _ _ _ | .fieldAddr _ _ _ | .indexAddr _ _ _ | .index _ _ _ | .extract _ _ => true
 | .slice _ _ _ _ none => true
 | .build _ _ => true
 | .call ⟨.builtin .len, _, _⟩ | .call ⟨.builtin .max, _, _⟩ | .call ⟨.builtin .min, _, _⟩ => true
 | .pick _ _ _ => true
 | _ => false
def SameAt (xs : List Operand) (t t' : TL) (l l' : LL) : Prop := (∀ x, x ∈ xs → ev t' x = ev t x) ∧ ∀ x id, x ∈ xs → AV.ment id (ev t x) = true → lget id l' = lget id l
theorem evs_same {t t' : TL} : ∀ {xs : List Operand}, (∀ x, x ∈ xs → ev t' x = ev t x) → evs t' xs = evs t xs
 | [], _ => rfl
 | x :: r, h => by rw [evs, evs, h x (by simp), evs_same fun y hy => h y (by simp [hy])]
theorem evps_mem {t : TL} : ∀ {xs : List (Nat × Operand)} {p : Nat × AV}, p ∈ evps t xs → ∃ y, y ∈ xs.map (·.2) ∧ p.2 = ev t y
 | [], p, h => by simp [evps] at h
 | (i, x) :: r, p, h => by
  simp only [evps, List.mem_cons] at h
  rcases h with rfl | h
  ·exact ⟨x, by simp, rfl⟩
  ·obtain ⟨y, h1, h2⟩ := evps_mem h
   exact ⟨y, by simp only [List.map_cons, List.mem_cons]; exact .inr h1, h2⟩
theorem evps_same {t t' : TL} : ∀ {xs : List (Nat × Operand)}, (∀ x, x ∈ xs.map (·.2) → ev t' x = ev t x) → evps t' xs = evps t xs
 | [], _ => rfl
 | (i, x) :: r, h => by rw [evps, evps, h x (by simp), evps_same fun y hy => h y (by simp at hy ⊢; exact .inr hy)]
theorem ments_evps {t : TL} {id : Nat} : ∀ {xs : List (Nat × Operand)}, AV.ments id ((evps t xs).map (·.2)) = true → ∃ y, y ∈ xs.map (·.2) ∧ AV.ment id (ev t y) = true
 | [], h => by simp [evps, AV.ments] at h
 | (i, x) :: r, h => by
  simp only [evps, List.map_cons, AV.ments, Bool.or_eq_true] at h
  rcases h with h | h
  ·exact ⟨x, by simp, h⟩
  ·obtain ⟨y, h1, h2⟩ := ments_evps h
   exact ⟨y, by simp only [List.map_cons, List.mem_cons]; exact .inr h1, h2⟩
section
variable {P : Program} {ty : TypeId → Ty}
theorem triv (x : AV) (t : TL) (l : LL) : (fun y => y = x ∧ t = t ∧ l = l) = fun y => y = x := by funext y; simp
theorem vcOp_read {op : Op} {dst : Option Nat} {t : TL} {l : LL} {K : AV → TL → LL → Prop} (hq : quietOp op = true) (h : vcOp P ty op dst t l K) :
  ∃ x, K x t l ∧ ∀ t' l', SameAt op.operands.toList t t' l l' → vcOp P ty op dst t' l' (fun y t1 l1 => y = x ∧ t1 = t' ∧ l1 = l') := by
 unfold vcOp at h
 split at h
 ·rename_i x
  exact ⟨_, evK_iff.1 h, fun t' l' hs => evK_iff.2 ⟨hs.1 x (by simp [Op.operands]), rfl, rfl⟩⟩
 ·rename_i x
  exact ⟨_, evK_iff.1 h, fun t' l' hs => evK_iff.2 ⟨hs.1 x (by simp [Op.operands]), rfl, rfl⟩⟩
 ·rename_i c a b
  have h := evK_iff.1 h
  split at h
  ·rename_i e
   refine ⟨_, evK_iff.1 h, fun t' l' hs => ?_⟩
   refine evK_iff.2 ?_
   rw [hs.1 c (by simp [Op.operands]), e]
   exact evK_iff.2 ⟨hs.1 a (by simp [Op.operands]), rfl, rfl⟩
  ·rename_i e
   refine ⟨_, evK_iff.1 h, fun t' l' hs => ?_⟩
   refine evK_iff.2 ?_
   rw [hs.1 c (by simp [Op.operands]), e]
   exact evK_iff.2 ⟨hs.1 b (by simp [Op.operands]), rfl, rfl⟩
  ·exact h.elim
 ·simp [quietOp] at hq
 ·simp [quietOp] at hq
 ·rename_i e ps
  obtain ⟨hb, h⟩ := ifB_iff.1 h
  have h := partsK_iff.1 h
  obtain ⟨x, h1, h2⟩ := one_buildK _ _ _ l _ h
  refine ⟨x, h1, fun t' l' hs => ifB_iff.2 ⟨hb, partsK_iff.2 ?_⟩⟩
  have hops : ∀ y, y ∈ ps.toList.map (·.2) → y ∈ (Op.build e ps).operands.toList := fun y hy => by simpa [Op.operands] using hy
  rw [evps_same fun y hy => hs.1 y (hops y hy), triv]
  refine h2 l' fun id hid => ?_
  obtain ⟨y, hy, hm⟩ := ments_evps hid
  exact hs.2 y id (hops y hy) hm
 ·simp [quietOp] at hq
 ·rename_i e a
  have h := evK_iff.1 h
  obtain ⟨hb, h⟩ := ifB_iff.1 h
  obtain ⟨x, h1, h2⟩ := one_loadK _ _ l _ h
  refine ⟨x, h1, fun t' l' hs => evK_iff.2 ?_⟩
  rw [hs.1 a (by simp [Op.operands])]
  refine ifB_iff.2 ⟨hb, ?_⟩
  rw [triv]
  exact h2 l' fun id hid => hs.2 a id (by simp [Op.operands]) hid
 ·simp [quietOp] at hq
 ·rename_i a
  have h := evK_iff.1 h
  obtain ⟨x, h1, h2⟩ := one_nilK _ l _ h
  refine ⟨x, h1, fun t' l' hs => evK_iff.2 ?_⟩
  rw [hs.1 a (by simp [Op.operands]), triv]
  exact h2 l' fun id hid => hs.2 a id (by simp [Op.operands]) hid
 ·rename_i op e x y yt
  have h := evK_iff.1 h
  have h := evK_iff.1 h
  obtain ⟨hb, h⟩ := ifB_iff.1 h
  obtain ⟨v, h1, h2⟩ := one_binK _ _ _ _ _ _ h
  refine ⟨v, h1, fun t' l' hs => evK_iff.2 (evK_iff.2 ?_)⟩
  rw [hs.1 x (by simp [Op.operands]), hs.1 y (by simp [Op.operands])]
  exact ifB_iff.2 ⟨hb, by rw [triv]; exact h2⟩
 ·rename_i op e x
  have h := evK_iff.1 h
  obtain ⟨v, h1, h2⟩ := one_unK _ _ _ h
  refine ⟨v, h1, fun t' l' hs => evK_iff.2 ?_⟩
  rw [hs.1 x (by simp [Op.operands]), triv]
  exact h2
 ·rename_i e b x
  have h := evK_iff.1 h
  split at h
  ·rename_i e4
   obtain ⟨v, h1, h2⟩ := one_conv2K _ _ _ l _ h
   refine ⟨v, h1, fun t' l' hs => evK_iff.2 ?_⟩
   simp only [e4, and_true]
   rw [hs.1 x (by simp [Op.operands])]
   exact h2 l' fun id hid => hs.2 x id (by simp [Op.operands]) hid
  rename_i e4
  obtain ⟨hb, h⟩ := ifB_iff.1 h
  obtain ⟨v, h1, h2⟩ := one_convK _ _ _ h
  refine ⟨v, h1, fun t' l' hs => evK_iff.2 ?_⟩
  simp only [e4, and_true]
  rw [hs.1 x (by simp [Op.operands])]
  exact ifB_iff.2 ⟨hb, h2⟩
 ·simp [quietOp] at hq
 ·rename_i e x lo hi
  have h := evK_iff.1 h
  have h := optK_iff.1 h
  have h := optK_iff.1 h
  obtain ⟨v, h1, h2⟩ := one_sliceK _ _ _ _ l _ h
  refine ⟨v, h1, fun t' l' hs => evK_iff.2 (optK_iff.2 (optK_iff.2 ?_))⟩
  have hopt : ∀ o : Option Operand, (∀ y, y ∈ o.toList → y ∈ (Op.slice e x lo hi none).operands.toList) → o.map (ev t') = o.map (ev t) := fun o ho => by
   cases o with
   | none => rfl
   | some y => simp only [Option.map_some]; rw [hs.1 y (ho y (by simp))]
  rw [hs.1 x (by simp [Op.operands]), hopt lo (fun y hy => by simp [Op.operands]; simp at hy; simp [hy]), hopt hi (fun y hy => by simp [Op.operands]; simp at hy; simp [hy]), triv]
  exact h2 l' fun id hid => hs.2 x id (by simp [Op.operands]) hid
 ·rename_i e x i
  have h := evK_iff.1 h
  obtain ⟨hb, h⟩ := ifB_iff.1 h
  obtain ⟨v, h1, h2⟩ := one_fieldAddrK _ _ _ l _ h
  refine ⟨v, h1, fun t' l' hs => evK_iff.2 ?_⟩
  rw [hs.1 x (by simp [Op.operands])]
  exact ifB_iff.2 ⟨hb, by rw [triv]; exact h2 l' fun id hid => hs.2 x id (by simp [Op.operands]) hid⟩
 ·rename_i e x i
  have h := evK_iff.1 h
  have h := evK_iff.1 h
  obtain ⟨v, h1, h2⟩ := one_indexAddrK _ _ _ l _ h
  refine ⟨v, h1, fun t' l' hs => evK_iff.2 (evK_iff.2 ?_)⟩
  rw [hs.1 x (by simp [Op.operands]), hs.1 i (by simp [Op.operands]), triv]
  exact h2 l' fun id hid => hs.2 x id (by simp [Op.operands]) hid
 ·rename_i e x i
  have h := evK_iff.1 h
  have h := evK_iff.1 h
  obtain ⟨hb, h⟩ := ifB_iff.1 h
  obtain ⟨v, h1, h2⟩ := one_indexK _ _ _ h
  refine ⟨v, h1, fun t' l' hs => evK_iff.2 (evK_iff.2 ?_)⟩
  rw [hs.1 x (by simp [Op.operands]), hs.1 i (by simp [Op.operands])]
  exact ifB_iff.2 ⟨hb, by rw [triv]; exact h2⟩
 ·rename_i x i
  have h := evK_iff.1 h
  obtain ⟨v, h1, h2⟩ := one_extractK _ _ _ h
  refine ⟨v, h1, fun t' l' hs => evK_iff.2 ?_⟩
  rw [hs.1 x (by simp [Op.operands]), triv]
  exact h2
 ·simp [quietOp] at hq
 ·rename_i b args tys
  rw [evsK_eq] at h
  have hops : ∀ y, y ∈ args.toList → y ∈ (Op.call ⟨.builtin b, args, tys⟩).operands.toList := fun y hy => by simpa [Op.operands, Call.operands] using hy
  have hev : ∀ t' l', SameAt (Op.call ⟨.builtin b, args, tys⟩).operands.toList t t' l l' → evs t' args.toList = evs t args.toList := fun t' l' hs => evs_same fun y hy => hs.1 y (hops y hy)
  have hm1 : ∀ {x : AV}, evs t args.toList = [x] → ∃ y, y ∈ args.toList ∧ x = ev t y := fun {x} hx => by
   match hxs : args.toList, hx with
   | [o], hx => simp [evs] at hx; exact ⟨o, by simp, hx.symm⟩
  unfold builtinK at h
  split at h
  ·rename_i e tl x he hx
   obtain ⟨v, h1, h2⟩ := one_lenK _ _ l _ h
   refine ⟨v, h1, fun t' l' hs => ?_⟩
   show evsK t' args.toList _
   rw [evsK_eq, hev t' l' hs, hx, he]
   simp only [builtinK, and_true]
   obtain ⟨y, hy, rfl⟩ := hm1 hx
   exact h2 l' fun id hid => hs.2 y id (hops y hy) hid
  ·rename_i x y hx
   obtain ⟨v, h1, h2⟩ := one_maxK _ _ _ h
   refine ⟨v, h1, fun t' l' hs => ?_⟩
   show evsK t' args.toList _
   rw [evsK_eq, hev t' l' hs, hx]
   simp only [builtinK, and_true]; exact h2
  ·rename_i x y hx
   obtain ⟨v, h1, h2⟩ := one_minK _ _ _ h
   refine ⟨v, h1, fun t' l' hs => ?_⟩
   show evsK t' args.toList _
   rw [evsK_eq, hev t' l' hs, hx]
   simp only [builtinK, and_true]; exact h2
  ·simp [quietOp] at hq
  ·simp [quietOp] at hq
  ·exact h.elim
 ·simp [quietOp] at hq
 ·exact h.elim
def newOp : Op → Bool
 | .alloc _ | .box _ _ | .buildSlice _ _ _ | .makeSlice _ _ _ => true
 | _ => false
theorem vcOp_new {op : Op} {k : Nat} {t : TL} {l : LL} {K : AV → TL → LL → Prop} (hq : newOp op = true) (h : vcOp P ty op (some k) t l K) :
  tment k t = false ∧ lment k l = false ∧ k < 1000000 ∧ ∃ x o, K x t ((k, o) :: l) ∧ ∀ t' l', SameAt op.operands.toList t t' l l' → tment k t' = false → lment k l' = false →
   vcOp P ty op (some k) t' l' (fun y t1 l1 => y = x ∧ t1 = t' ∧ l1 = (k, o) :: l') := by
 unfold vcOp at h
 split at h
 case h_4 e =>
  obtain ⟨hb, h⟩ := ifB_iff.1 h
  obtain ⟨h1, h2, h3, x, o, h4, h5⟩ := one_allocK (m := fun _ => false) (ty e) k t l K h
  exact ⟨h1, h2, h3, x, o, h4, fun t' l' hs ht hl => ifB_iff.2 ⟨hb, h5 t' l' (fun id h => by cases h) ht hl⟩⟩
 case h_5 e a =>
  have h := evK_iff.1 h
  obtain ⟨h1, h2, h3, x, o, h4, h5⟩ := one_boxK _ k t l K h
  refine ⟨h1, h2, h3, x, o, h4, fun t' l' hs ht hl => evK_iff.2 ?_⟩
  rw [hs.1 a (by simp [Op.operands])]
  exact h5 t' l' (fun id hid => hs.2 a id (by simp [Op.operands]) hid) ht hl
 case h_7 e n ps =>
  have h := partsK_iff.1 h
  obtain ⟨h1, h2, h3, x, o, h4, h5⟩ := one_buildSliceK _ _ _ k t l K h
  refine ⟨h1, h2, h3, x, o, h4, fun t' l' hs ht hl => partsK_iff.2 ?_⟩
  rw [evps_same fun y hy => hs.1 y (by simpa [Op.operands] using hy)]
  refine h5 t' l' (fun id h => ?_) ht hl
  obtain ⟨p, hp, hid⟩ := List.any_eq_true.1 h
  obtain ⟨y, hy, e⟩ := evps_mem hp
  rw [e] at hid
  exact hs.2 y id (by simpa [Op.operands] using hy) hid
 case h_14 e a b =>
  have h := evK_iff.1 h
  have h := evK_iff.1 h
  obtain ⟨h1, h2, h3, x, o, h4, h5⟩ := one_makeK (m := fun _ => false) _ _ _ k t l K h
  refine ⟨h1, h2, h3, x, o, h4, fun t' l' hs ht hl => evK_iff.2 (evK_iff.2 ?_)⟩
  rw [hs.1 a (by simp [Op.operands]), hs.1 b (by simp [Op.operands])]
  exact h5 t' l' (fun id h => by cases h) ht hl
 all_goals first
  | exact h.elim
  | simp [newOp] at hq
end
end Go.V
namespace Go.V
structure QCall (P : Program) (f : FuncId) (xs : List AV) (l : LL) (K : AV → Prop) : Prop where
 out : ∃ x, K x ∧ ∀ t' l' dst, (∀ id, AV.ments id xs = true → lget id l' = lget id l) → VCall P f xs dst t' l' (fun y t1 l1 => y = x ∧ t1 = t' ∧ l1 = l')
def clean : List Nat → AV → Bool
 | [], _ => true
 | k :: r, x => !AV.ment k x && clean r x
def cleans : List Nat → List AV → Bool
 | [], _ => true
 | k :: r, xs => !AV.ments k xs && cleans r xs
def cleanO (na : List Nat) : Ob → Bool
 | .box _ cs => cleans na cs
 | _ => true
theorem clean_iff {x : AV} : ∀ {na : List Nat}, clean na x = true ↔ ∀ k, k ∈ na → AV.ment k x = false
 | [] => by simp [clean]
 | k :: r => by simp [clean, clean_iff (na := r)]
theorem cleans_iff {xs : List AV} : ∀ {na : List Nat}, cleans na xs = true ↔ ∀ k, k ∈ na → AV.ments k xs = false
 | [] => by simp [cleans]
 | k :: r => by simp [cleans, cleans_iff (na := r)]
def callQ (P : Program) (x : AV) (xs : List AV) (l : LL) (K : AV → Prop) : Prop :=
 match x with
 | .d (.fn f caps) => QCall P f (xs ++ capAs caps) l K
 | _ => False
def headQ (na : List Nat) (x : AV) (l' : LL) (K : AV → LL → Prop) : Prop :=
 match l' with
 | nb :: _ => ifB (clean na x && cleanO na nb.2) (K x [nb])
 | [] => False
def callVal : Op → Option (Operand × Array Operand)
 | .call ⟨.value f, args, _⟩ => some (f, args)
 | _ => none
def vcQ1 (P : Program) (ty : TypeId → Ty) (na : List Nat) (o : Oper) (t : TL) (l : LL) (K : AV → LL → Prop) : Prop :=
 ifB (cleans na (evs t o.op.operands.toList)) (match callVal o.op with
  | some (f, args) => evK t f fun f => evsK t args.toList fun xs => callQ P f xs l fun x => ifB (clean na x) (K x [])
  | none => match quietOp o.op with
   | true => vcOp P ty o.op o.dst t l fun x _ _ => ifB (clean na x) (K x [])
   | false => ifB (newOp o.op) (match o.dst with
    | some k => vcOp P ty o.op (some k) t l fun x _ l' => headQ na x l' K
    | none => False))
def vcQ (P : Program) (ty : TypeId → Ty) (D : List (Option Nat)) : List Oper → List (List Nat) → TL → LL → (TL → LL → Prop) → Prop
 | [], _, t, l, K => K t l
 | o :: r, ns, t, l, K => match o.guard with
  | none => vcQ1 P ty (ns.headD []) o t l fun x nb => vcQ P ty D r ns.tail (push o.dst x t) (nb ++ l) K
  | some (j, want) => match gslot D j with
   | none => False
   | some g => guardO g want (get g t) t (fun t => vcQ1 P ty (ns.headD []) o t l fun x nb => vcQ P ty D r ns.tail (push o.dst x t) (nb ++ l) K) (fun t => vcQ P ty D r ns.tail (push o.dst skipV t) l K)
def allK : List Nat → (Nat → Prop) → Prop
 | [], _ => True
 | [i], F => F i
 | i :: j :: r, F => F i ∧ allK (j :: r) F
theorem allK_mem {F : Nat → Prop} : ∀ {is : List Nat}, allK is F → ∀ i, i ∈ is → F i
 | [i], h, j, hj => by simp at hj; subst hj; exact h
 | i :: k :: r, h, j, hj => by
  rcases List.mem_cons.1 hj with rfl | hj
  ·exact h.1
  ·exact allK_mem h.2 j hj
def vcG (P : Program) (ty : TypeId → Ty) (D : List (Option Nat)) (o : Oper) (t : TL) (l : LL) (K : TL → LL → Prop) : Prop :=
 match o.guard with
 | none => vcOp P ty o.op o.dst t l fun x t l => K (push o.dst x t) l
 | some (j, want) => match gslot D j with
  | none => False
  | some g => guardO g want (get g t) t (fun t => vcOp P ty o.op o.dst t l fun x t l => K (push o.dst x t) l) (fun t => K (push o.dst skipV t) l)
def bitB (L i : Nat) : Bool := Nat.beq (Nat.land 1 (Nat.shiftRight L i)) 1
def edB (L : Nat) : List Edge → Bool
 | [] => true
 | e :: r => (match e.ground with
  | .textOnly _ => true
  | .gcOnly _ => true
  | _ => bitB L e.on) && edB L r
def rdy (L : Nat) : Nat → List Oper → List Nat
 | _, [] => []
 | j, o :: r => match !bitB L j && edB L o.after.toList with
  | true => j :: rdy L (j + 1) r
  | false => rdy L (j + 1) r
def nth : List Oper → Nat → Option Oper
 | [], _ => none
 | o :: _, 0 => some o
 | _ :: r, i + 1 => nth r i
def vcAny (P : Program) (ty : TypeId → Ty) (D : List (Option Nat)) (ops : List Oper) : Nat → Nat → TL → LL → (TL → LL → Prop) → Prop
 | 0, L, t, l, K => match rdy L 0 ops with
  | [] => K t l
  | _ :: _ => False
 | n + 1, L, t, l, K => match rdy L 0 ops with
  | [] => K t l
  | i :: r => allK (i :: r) fun i => match nth ops i with
   | some o => vcG P ty D o t l fun t l => vcAny P ty D ops n (Nat.lor L (Nat.shiftLeft 1 i)) t l K
   | none => False
theorem bitB_eq (L i : Nat) : bitB L i = L.testBit i := by
 unfold bitB Nat.testBit
 show Nat.beq (1 &&& (L >>> i)) 1 = (1 &&& (L >>> i) != 0)
 rw [Nat.and_comm, Nat.and_one_is_mod]
 rcases Nat.mod_two_eq_zero_or_one (L >>> i) with h | h <;> rw [h] <;> rfl
theorem edB_iff {L : Nat} : ∀ {es : List Edge}, edB L es = true ↔ ∀ e, e ∈ es → Region.binds .any e = true → L.testBit e.on = true
 | [] => by simp [edB]
 | e :: r => by
  simp only [edB, Bool.and_eq_true, edB_iff (es := r), List.mem_cons, forall_eq_or_imp]
  refine and_congr_left fun _ => ?_
  unfold Region.binds
  cases e.ground <;> simp [bitB_eq]
theorem mem_rdy {L : Nat} : ∀ {os : List Oper} {j i : Nat}, i ∈ rdy L j os ↔ j ≤ i ∧ ∃ o, os[i - j]? = some o ∧ L.testBit i = false ∧ ∀ e, e ∈ o.after.toList → Region.binds .any e = true → L.testBit e.on = true
 | [], j, i => by simp [rdy]
 | o :: r, j, i => by
  have ih := mem_rdy (L := L) (os := r) (j := j + 1) (i := i)
  have tail : (i ∈ rdy L (j + 1) r) ↔ (j < i ∧ ∃ o', (o :: r)[i - j]? = some o' ∧ L.testBit i = false ∧ ∀ e, e ∈ o'.after.toList → Region.binds .any e = true → L.testBit e.on = true) := by
   rw [ih]
   constructor
   ·rintro ⟨h1, o', h2, h3⟩
    refine ⟨by omega, o', ?_, h3⟩
    rw [show i - j = (i - (j + 1)) + 1 by omega]; simpa using h2
   ·rintro ⟨h1, o', h2, h3⟩
    refine ⟨by omega, o', ?_, h3⟩
    rw [show i - j = (i - (j + 1)) + 1 by omega] at h2; simpa using h2
  have here : (!bitB L j && edB L o.after.toList) = true ↔ L.testBit j = false ∧ ∀ e, e ∈ o.after.toList → Region.binds .any e = true → L.testBit e.on = true := by
   rw [Bool.and_eq_true, edB_iff, bitB_eq, Bool.not_eq_true']
  unfold rdy
  split
  ·rename_i hc
   rw [here] at hc
   rw [List.mem_cons, tail]
   constructor
   ·rintro (rfl | ⟨h1, h2⟩)
    ·exact ⟨Nat.le_refl _, o, by simp, hc⟩
    ·exact ⟨by omega, h2⟩
   ·rintro ⟨h1, o', h2, h3⟩
    rcases Nat.lt_or_ge j i with h | h
    ·exact .inr ⟨h, o', h2, h3⟩
    ·exact .inl (by omega)
  ·rename_i hc
   rw [tail]
   constructor
   ·rintro ⟨h1, h2⟩; exact ⟨by omega, h2⟩
   ·rintro ⟨h1, o', h2, h3⟩
    refine ⟨?_, o', h2, h3⟩
    rcases Nat.lt_or_ge j i with h | h
    ·exact h
    ·exfalso
     have : i = j := by omega
     subst this
     simp at h2; subst h2
     rw [here.2 h3] at hc; cases hc
theorem nth_eq : ∀ (os : List Oper) (i : Nat), nth os i = os[i]?
 | [], i => by simp [nth]
 | o :: r, 0 => by simp [nth]
 | o :: r, i + 1 => by simp [nth, nth_eq r i]
section
variable {P : Program} {G : Ctx} {κ : Know} {ρ : Place} {t : TL} {l : LL} {a : Act} {w : World}
theorem vcG_sound {ty : TypeId → Ty} (hty : TyOk P ty) {ops : Array Oper} {K : TL → LL → Prop} {Q : Exit → Act → World → Prop} {next : Act → World → Prop} {o : Oper} {i : Nat} (hi : ops[i]? = some o)
  (hd : ∀ d, o.dst = some d → d < G.n) (hr : Rel G κ ρ t l a w) (h : vcG P ty (ops.toList.map (·.dst)) o t l K)
  (hQ : ∀ κ' ρ' t' l' a' w', κ.le κ' → Rel G κ' ρ' t' l' a' w' → K t' l' → next a' w') : wpOp P ops Q i next a w := by
 have yes : ∀ t, Rel G κ ρ t l a w → vcOp P ty o.op o.dst t l (fun x t l => K (push o.dst x t) l) → o.wp P a w next Q := fun t hr h =>
  Oper.wp_of_goes hd (vcOp_sound hty hr h) fun κ' ρ' x t' l' a' w' h1 h2 h3 => hQ κ' ρ' _ l' a' w' h1 h2 h3
 have no : ∀ t, Rel G κ ρ t l a w → K (push o.dst skipV t) l → next (a.put o.dst undef) w := fun t hr h => hQ κ ρ _ l _ w (Know.le_refl _) (hr.push (.d _ _ (.s _)) hd) h
 unfold vcG at h
 unfold wpOp
 simp only [hi]
 split at h
 ·rename_i hg
  rw [if_pos (by simp [Region.wanted, hg])]
  exact .inl (yes t hr h)
 ·rename_i j want hg
  split at h
  ·exact h.elim
  ·rename_i g hgs
   unfold guardO at h
   split at h
   ·rename_i c hc
    have hv := hr.tm g
    rw [hc] at hv
    have e := hv.val
    have hy := bool_at hgs e
    have h4 : Rel G κ ρ ((g, .d (.s (.bool c))) :: t) l a w := hr.told (by rw [e]; exact .mk _)
    cases want with
    | true =>
     cases c with
     | true => rw [if_pos (by simp [Region.wanted, hg, hy])]; exact .inl (yes _ h4 (h.t rfl))
     | false => rw [if_neg (by simp [Region.wanted, hg, hy])]; exact no _ h4 (h.f rfl)
    | false =>
     cases c with
     | true => rw [if_neg (by simp [Region.wanted, hg, hy])]; exact no _ h4 (h.t rfl)
     | false => rw [if_pos (by simp [Region.wanted, hg, hy])]; exact .inl (yes _ h4 (h.f rfl))
   ·rename_i vs hc
    have hv := hr.tm g
    rw [hc] at hv
    have e := hv.val
    rw [if_neg (by
     have hy : yielded ops a.tmps j = none := tup_at hgs e
     simp [Region.wanted, hg, hy])]
    exact no _ hr h
   ·exact h.elim
theorem vcAny_sound {ty : TypeId → Ty} (hty : TyOk P ty) {ops : Array Oper} {K : TL → LL → Prop} {Q : Exit → Act → World → Prop} (hd : ∀ o, o ∈ ops.toList → ∀ d, o.dst = some d → d < G.n) :
  ∀ (n : Nat) (L : Nat) (listed : Array Bool) (κ : Know) (ρ : Place) (t : TL) (l : LL) (a : Act) (w : World), listed.size = ops.size → (∀ i, i < ops.size → listed.getD i false = L.testBit i) →
  Rel G κ ρ t l a w → vcAny P ty (ops.toList.map (·.dst)) ops.toList n L t l K → (∀ j o, ops.toList[j]? = some o → ∀ e, e ∈ o.after.toList → Region.binds .any e = true → e.on < j) →
  (∀ κ' ρ' t' l' a' w', κ.le κ' → Rel G κ' ρ' t' l' a' w' → K t' l' → Q .normal a' w') → wpAny P .any ops Q n listed a w := by
 have same : ∀ {L : Nat} {listed : Array Bool}, listed.size = ops.size → (∀ i, i < ops.size → listed.getD i false = L.testBit i) → (∀ j o, ops.toList[j]? = some o → ∀ e, e ∈ o.after.toList → Region.binds .any e = true → e.on < j) →
   ∀ i, i ∈ Region.ready .any ops listed ↔ i ∈ rdy L 0 ops.toList := by
  intro L listed hs hL hed i
  rw [mem_ready, mem_rdy]
  constructor
  ·rintro ⟨h1, o, h2, h3⟩
   have hi : i < ops.size := (Array.getElem?_eq_some_iff.1 h2).1
   refine ⟨Nat.zero_le _, o, by rw [Nat.sub_zero, Array.getElem?_toList]; exact h2, ?_, fun e he hb => ?_⟩
   ·rw [← hL i hi]; rw [Array.getD_eq_getD_getElem?] at h1 ⊢; rw [Array.getElem?_eq_getElem (by omega)] at h1 ⊢; exact h1
   ·have := h3 e (by simpa using he) hb
    have hlt := hed i o (by rw [Array.getElem?_toList]; exact h2) e he hb
    rw [← hL e.on (by omega)]; exact this
  ·rintro ⟨_, o, h2, h3, h4⟩
   rw [Nat.sub_zero, Array.getElem?_toList] at h2
   have hi : i < ops.size := (Array.getElem?_eq_some_iff.1 h2).1
   refine ⟨?_, o, h2, fun e he hb => ?_⟩
   ·rw [← hL i hi] at h3; rw [Array.getD_eq_getD_getElem?] at h3 ⊢; rw [Array.getElem?_eq_getElem (by omega)] at h3 ⊢; exact h3
   ·have hlt := hed i o (by rw [Array.getElem?_toList]; exact h2) e (by simpa using he) hb
    rw [hL e.on (by omega)]; exact h4 e (by simpa using he) hb
 intro n
 induction n with
 | zero =>
  intro L listed κ ρ t l a w hs hL hr h hed hQ
  unfold vcAny at h
  split at h
  ·rename_i e
   refine ⟨?_, hQ κ ρ t l a w (Know.le_refl _) hr h⟩
   apply List.eq_nil_iff_forall_not_mem.2
   intro i hi
   rw [same hs hL hed i, e] at hi; cases hi
  ·exact h.elim
 | succ n ih =>
  intro L listed κ ρ t l a w hs hL hr h hed hQ
  unfold vcAny at h
  split at h
  ·rename_i e
   exact ⟨fun _ => hQ κ ρ t l a w (Know.le_refl _) hr h, fun i hi => by rw [same hs hL hed i, e] at hi; cases hi⟩
  ·rename_i i0 r e
   refine ⟨fun e' => ?_, fun i hi => ?_⟩
   ·have : i0 ∈ Region.ready .any ops listed := by rw [same hs hL hed, e]; simp
    rw [e'] at this; cases this
   ·rw [same hs hL hed i, e] at hi
    have h1 := allK_mem h i hi
    rw [nth_eq] at h1
    split at h1
    ·rename_i o ho
     have ho' : ops[i]? = some o := by rw [← Array.getElem?_toList]; exact ho
     have hmem : o ∈ ops.toList := List.mem_of_getElem? ho
     have hi' : i < ops.size := (Array.getElem?_eq_some_iff.1 ho').1
     refine vcG_sound hty ho' (hd o hmem) hr h1 fun κ' ρ' t' l' a' w' k1 k2 k3 =>
      ih _ _ κ' ρ' t' l' a' w' (by simpa using hs) (fun j hj => ?_) k2 k3 hed fun κ'' ρ'' t'' l'' a'' w'' k4 => hQ κ'' ρ'' t'' l'' a'' w'' (Know.le_trans k1 k4)
     have e1 : (Nat.lor L (Nat.shiftLeft 1 i)).testBit j = (L.testBit j || decide (i = j)) := by
      show (L ||| (1 <<< i)).testBit j = _
      rw [Nat.testBit_or, Nat.one_shiftLeft, Nat.testBit_two_pow]
     rw [e1]
     by_cases hij : i = j
     ·subst hij
      simp [Array.getD, hs, hi']
     ·rw [Array.getD_eq_getD_getElem?, Array.getElem?_setIfInBounds_ne hij, ← Array.getD_eq_getD_getElem?, hL j hj]
      simp [hij]
    ·exact h1.elim
theorem Rel.ext {t' : TL} {l' : LL} (hr : Rel G κ ρ t l a w) (ht : ∀ i, get i t' = get i t) (hl : ∀ id, lget id l' = lget id l) : Rel G κ ρ t' l' a w := by
 obtain ⟨hm, hdf, hsz, htm⟩ := hr
 exact ⟨⟨fun id => by rw [hl id]; exact hm.ob id, fun i j Li Lj h1 h2 h3 h4 => hm.sep i j Li Lj h1 h2 h3 (by rw [← hl i]; exact h4), fun i L h1 h2 => hm.fre i L h1 (by rw [← hl i]; exact h2), hm.own, hm.kn, hm.one, hm.kn0, hm.fr, hm.par⟩,
  hdf, hsz, fun i => by rw [ht i]; exact htm i⟩
end
def tl (dst : Nat → Option Nat) (X : Nat → AV) (t0 : TL) (S : Nat → Bool) : Nat → TL
 | 0 => t0
 | i + 1 => bif S i then push (dst i) (X i) (tl dst X t0 S i) else tl dst X t0 S i
def ll (B : Nat → LL) (l0 : LL) (S : Nat → Bool) : Nat → LL
 | 0 => l0
 | i + 1 => bif S i then B i ++ ll B l0 S i else ll B l0 S i
section
variable {dst : Nat → Option Nat} {X : Nat → AV} {B : Nat → LL} {t0 : TL} {l0 : LL}
theorem get_push (d : Option Nat) (x : AV) (t : TL) (k : Nat) : get k (push d x t) = if d = some k then x else get k t := by
 cases d with
 | none => simp [push]
 | some i =>
  show get k ((i, x) :: t) = _
  rw [get_cons]
  by_cases h : k = i
  ·subst h; simp
  ·rw [if_neg h, if_neg (by simpa using fun e => h e.symm)]
theorem get_tl_miss {S : Nat → Bool} {d : Nat} : ∀ {n : Nat}, (∀ i, i < n → S i = true → dst i ≠ some d) → get d (tl dst X t0 S n) = get d t0
 | 0, _ => rfl
 | n + 1, h => by
  have ih := get_tl_miss (S := S) (d := d) (n := n) fun i hi => h i (by omega)
  unfold tl
  cases hs : S n with
  | false => exact ih
  | true => rw [cond_true, get_push, if_neg (h n (by omega) hs)]; exact ih
theorem get_tl_hit {S : Nat → Bool} {d i : Nat} : ∀ {n : Nat}, (∀ i j, i < n → j < n → dst i = some d → dst j = some d → i = j) → i < n → S i = true → dst i = some d → get d (tl dst X t0 S n) = X i
 | 0, _, h, _, _ => by omega
 | n + 1, hu, hi, hs, hd => by
  unfold tl
  by_cases e : i = n
  ·subst e; rw [hs, cond_true, get_push, if_pos hd]
  ·have ih := get_tl_hit (S := S) (d := d) (i := i) (n := n) (fun i j h1 h2 => hu i j (by omega) (by omega)) (by omega) hs hd
   cases hsn : S n with
   | false => exact ih
   | true => rw [cond_true, get_push, if_neg fun e' => e (hu i n hi (by omega) hd e')]; exact ih
theorem tment_push {d : Option Nat} {x : AV} {t : TL} {k : Nat} : tment k (push d x t) = true → AV.ment k x = true ∨ tment k t = true := by
 cases d with
 | none => exact .inr
 | some i => intro h; simpa [push, tment] using h
theorem tment_tl {S : Nat → Bool} {k : Nat} : ∀ {n : Nat}, tment k (tl dst X t0 S n) = true → tment k t0 = true ∨ ∃ i, i < n ∧ S i = true ∧ AV.ment k (X i) = true
 | 0, h => .inl h
 | n + 1, h => by
  unfold tl at h
  cases hs : S n with
  | false =>
   rw [hs] at h
   rcases tment_tl h with h | ⟨i, h1, h2⟩
   ·exact .inl h
   ·exact .inr ⟨i, by omega, h2⟩
  | true =>
   rw [hs, cond_true] at h
   rcases tment_push h with h | h
   ·exact .inr ⟨n, by omega, hs, h⟩
   ·rcases tment_tl h with h | ⟨i, h1, h2⟩
    ·exact .inl h
    ·exact .inr ⟨i, by omega, h2⟩
theorem tment_base {S : Nat → Bool} {k : Nat} : ∀ {n : Nat}, tment k t0 = true → tment k (tl dst X t0 S n) = true
 | 0, h => h
 | n + 1, h => by
  have ih := tment_base (S := S) (n := n) h
  unfold tl
  cases S n with
  | false => exact ih
  | true =>
   rw [cond_true]
   cases dst n with
   | none => exact ih
   | some i => simp [push, tment, ih]
theorem lget_ll_miss {S : Nat → Bool} {k : Nat} : ∀ {n : Nat}, (∀ i, i < n → S i = true → lget k (B i) = .no ∧ ∀ l, lget k (B i ++ l) = lget k l) → lget k (ll B l0 S n) = lget k l0
 | 0, _ => rfl
 | n + 1, h => by
  have ih := lget_ll_miss (S := S) (k := k) (n := n) fun i hi => h i (by omega)
  unfold ll
  cases hs : S n with
  | false => exact ih
  | true => rw [cond_true, (h n (by omega) hs).2]; exact ih
theorem lment_app {k : Nat} : ∀ {x y : LL}, lment k (x ++ y) = true ↔ lment k x = true ∨ lment k y = true
 | [], y => by simp [lment]
 | (i, .no) :: r, y => by simp [lment, lment_app (x := r), or_assoc]
 | (i, .box _ cs) :: r, y => by simp [lment, lment_app (x := r), or_assoc]
 | (i, .row _ _ _) :: r, y => by simp [lment, lment_app (x := r), or_assoc]
 | (i, .mat _ _ _) :: r, y => by simp [lment, lment_app (x := r), or_assoc]
theorem lment_ll {S : Nat → Bool} {k : Nat} : ∀ {n : Nat}, lment k (ll B l0 S n) = true → lment k l0 = true ∨ ∃ i, i < n ∧ S i = true ∧ lment k (B i) = true
 | 0, h => .inl h
 | n + 1, h => by
  unfold ll at h
  cases hs : S n with
  | false =>
   rw [hs] at h
   rcases lment_ll h with h | ⟨i, h1, h2⟩
   ·exact .inl h
   ·exact .inr ⟨i, by omega, h2⟩
  | true =>
   rw [hs, cond_true] at h
   rcases lment_app.1 h with h | h
   ·exact .inr ⟨n, by omega, hs, h⟩
   ·rcases lment_ll h with h | ⟨i, h1, h2⟩
    ·exact .inl h
    ·exact .inr ⟨i, by omega, h2⟩
theorem lment_base {S : Nat → Bool} {k : Nat} : ∀ {n : Nat}, lment k l0 = true → lment k (ll B l0 S n) = true
 | 0, h => h
 | n + 1, h => by
  have ih := lment_base (S := S) (n := n) h
  unfold ll
  cases S n with
  | false => exact ih
  | true => rw [cond_true]; exact lment_app.2 (.inr ih)
def OneB (dst : Nat → Option Nat) (B : Nat → LL) : Prop := ∀ i, B i = [] ∨ ∃ k o, dst i = some k ∧ B i = [(k, o)]
theorem lget_ll_hit (hB : OneB dst B) {S : Nat → Bool} {k i : Nat} {o : Ob} : ∀ {n : Nat}, (∀ i j, i < n → j < n → dst i = some k → dst j = some k → i = j) → i < n → S i = true → B i = [(k, o)] → lget k (ll B l0 S n) = o
 | 0, _, h, _, _ => by omega
 | n + 1, hu, hi, hs, hb => by
  unfold ll
  by_cases e : i = n
  ·subst e; rw [hs, cond_true, hb]; simp [lget]
  ·have ih := lget_ll_hit hB (S := S) (k := k) (i := i) (o := o) (n := n) (fun i j h1 h2 => hu i j (by omega) (by omega)) (by omega) hs hb
   cases hsn : S n with
   | false => exact ih
   | true =>
    rw [cond_true]
    have hik : dst i = some k := by
     rcases hB i with h | ⟨k', o', h1, h2⟩
     ·rw [h] at hb; cases hb
     ·rw [hb] at h2; simp at h2; rw [h1, h2.1]
    rcases hB n with h | ⟨k', o', h1, h2⟩
    ·rw [h]; exact ih
    ·rw [h2]
     have hne : k ≠ k' := fun e' => e (hu i n hi (by omega) hik (by rw [h1, e']))
     show lget k ((k', o') :: _) = o
     rw [lget_cons, if_neg hne]; exact ih
theorem lget_ll_miss' (hB : OneB dst B) {S : Nat → Bool} {k n : Nat} (h : ∀ i, i < n → S i = true → ∀ o, B i ≠ [(k, o)]) : lget k (ll B l0 S n) = lget k l0 :=
 lget_ll_miss fun i hi hs => by
  rcases hB i with hb | ⟨k', o', h1, h2⟩
  ·rw [hb]; exact ⟨rfl, fun l => rfl⟩
  ·have hne : k ≠ k' := fun e => h i hi hs o' (by rw [h2, e])
   rw [h2]
   exact ⟨by rw [lget_cons, if_neg hne]; rfl, fun l => by show lget k ((k', o') :: l) = _; rw [lget_cons, if_neg hne]⟩
end
theorem tl_shift {dst : Nat → Option Nat} {X : Nat → AV} {t0 : TL} : ∀ n, tl dst X t0 (fun _ => true) (n + 1) = tl (fun i => dst (i + 1)) (fun i => X (i + 1)) (push (dst 0) (X 0) t0) (fun _ => true) n
 | 0 => rfl
 | n + 1 => by
  show push (dst (n + 1)) (X (n + 1)) (tl dst X t0 (fun _ => true) (n + 1)) = push (dst (n + 1)) (X (n + 1)) _
  rw [tl_shift n]
theorem ll_shift {B : Nat → LL} {l0 : LL} : ∀ n, ll B l0 (fun _ => true) (n + 1) = ll (fun i => B (i + 1)) (B 0 ++ l0) (fun _ => true) n
 | 0 => rfl
 | n + 1 => by
  show B (n + 1) ++ ll B l0 (fun _ => true) (n + 1) = B (n + 1) ++ _
  rw [ll_shift n]
end Go.V
namespace Go.V
theorem ments_capAs (k : Nat) : ∀ ds : List C, AV.ments k (capAs ds) = false
 | [] => rfl
 | d :: r => by
  have h : AV.ment k (capA d) = false := by cases d <;> rfl
  show (AV.ment k (capA d) || AV.ments k (capAs r)) = false
  rw [h, ments_capAs k r]; rfl
def TE (t t1 : TL) : Prop := (∀ i, get i t1 = get i t) ∧ ∀ k, tment k t = false → tment k t1 = false
theorem TE.refl (t : TL) : TE t t := ⟨fun _ => rfl, fun _ h => h⟩
theorem TE.push {t t1 : TL} (h : TE t t1) (d : Option Nat) (x : AV) : TE (Go.V.push d x t) (Go.V.push d x t1) := by
 refine ⟨fun i => by rw [get_push, get_push, h.1 i], fun k hk => ?_⟩
 cases d with
 | none => exact h.2 k hk
 | some i =>
  simp only [Go.V.push, tment, Bool.or_eq_false_iff] at hk ⊢
  exact ⟨hk.1, h.2 k hk.2⟩
theorem TE.guard {t t1 : TL} (h : TE t t1) {g : Nat} {b : Bool} (hg : get g t = .d (.s (.bool b))) : TE ((g, .d (.s (.bool b))) :: t) t1 := by
 refine ⟨fun i => ?_, fun k hk => ?_⟩
 ·rw [h.1 i, get_cons]
  by_cases e : i = g
  ·subst e; rw [if_pos rfl, hg]
  ·rw [if_neg e]
 ·simp only [tment, Bool.or_eq_false_iff] at hk
  exact h.2 k hk.2
theorem TE.ev {t t1 : TL} (h : TE t t1) (x : Operand) : ev t1 x = Go.V.ev t x := by
 cases x with
 | tmp i => exact h.1 i
 | _ => rfl
structure Yields (P : Program) (ty : TypeId → Ty) (na : List Nat) (o : Oper) (t : TL) (l : LL) (x : AV) (nb : LL) : Prop where
 ops : ∀ k, k ∈ na → AV.ments k (evs t o.op.operands.toList) = false
 cx : ∀ k, k ∈ na → AV.ment k x = false
 cb : nb = [] ∨ newOp o.op = true ∧ ∃ k ob, o.dst = some k ∧ nb = [(k, ob)] ∧ tment k t = false ∧ lment k l = false ∧ ∀ k', k' ∈ na → k' ≠ k → lment k' [(k, ob)] = false
 go : ∀ t' l', SameAt o.op.operands.toList t t' l l' → (∀ k ob, nb = [(k, ob)] → tment k t' = false ∧ lment k l' = false) → vcOp P ty o.op o.dst t' l' (fun y t1 l1 => y = x ∧ t1 = t' ∧ l1 = nb ++ l')
section
variable {P : Program} {ty : TypeId → Ty}
theorem Yields.te {na : List Nat} {o : Oper} {t t1 : TL} {l : LL} {x : AV} {nb : LL} (h : Yields P ty na o t l x nb) (ht : TE t t1) : Yields P ty na o t1 l x nb where
 ops := by rw [evs_same fun y _ => ht.ev y]; exact h.ops
 cx := h.cx
 cb := by
  rcases h.cb with h1 | ⟨h0, k, ob, h1, h2, h3, h4⟩
  ·exact .inl h1
  ·exact .inr ⟨h0, k, ob, h1, h2, ht.2 k h3, h4⟩
 go := fun t' l' hs hf => h.go t' l' ⟨fun y hy => by rw [hs.1 y hy, ht.ev], fun y id hy hm => hs.2 y id hy (by rw [ht.ev]; exact hm)⟩ hf
theorem callVal_eq {op : Op} {f : Operand} {args : Array Operand} (h : callVal op = some (f, args)) : ∃ tys, op = .call ⟨.value f, args, tys⟩ := by
 unfold callVal at h
 split at h
 ·simp only [Option.some.injEq, Prod.mk.injEq] at h
  obtain ⟨rfl, rfl⟩ := h
  exact ⟨_, rfl⟩
 ·cases h
theorem ments_append (k : Nat) : ∀ (xs ys : List AV), AV.ments k (xs ++ ys) = (AV.ments k xs || AV.ments k ys)
 | [], ys => by simp [AV.ments]
 | x :: r, ys => by simp [AV.ments, ments_append k r, Bool.or_assoc]
theorem ments_evs {t : TL} {id : Nat} : ∀ {xs : List Operand}, AV.ments id (evs t xs) = true → ∃ y, y ∈ xs ∧ AV.ment id (ev t y) = true
 | [], h => by simp [evs, AV.ments] at h
 | x :: r, h => by
  simp only [evs, AV.ments, Bool.or_eq_true] at h
  rcases h with h | h
  ·exact ⟨x, by simp, h⟩
  ·obtain ⟨y, h1, h2⟩ := ments_evs h
   exact ⟨y, by simp [h1], h2⟩
theorem vcQ1_yields {na : List Nat} {o : Oper} {t : TL} {l : LL} {K : AV → LL → Prop} (h0 : vcQ1 P ty na o t l K) : ∃ x nb, K x nb ∧ Yields P ty na o t l x nb := by
 obtain ⟨dst, op, tid, pos, aft, gd⟩ := o
 unfold vcQ1 at h0
 obtain ⟨hc0, h⟩ := ifB_iff.1 h0
 have hc := cleans_iff.1 hc0
 clear h0 hc0
 simp only at h hc
 split at h
 ·rename_i f args he
  obtain ⟨tys, rfl⟩ := callVal_eq he
  replace h := evK_iff.1 h
  rw [evsK_eq] at h
  unfold callQ at h
  split at h
  ·rename_i g caps hf
   obtain ⟨x, h1, h2⟩ := h.out
   obtain ⟨hx, h1⟩ := ifB_iff.1 h1
   refine ⟨x, [], h1, hc, clean_iff.1 hx, .inl rfl, fun t' l' hs _ => ?_⟩
   have hops : ∀ y, y ∈ args.toList → y ∈ (Op.call ⟨.value f, args, tys⟩).operands.toList := fun y hy => by simp [Op.operands, Call.operands]; right; simpa using hy
   have hfo : f ∈ (Op.call ⟨.value f, args, tys⟩).operands.toList := by simp [Op.operands, Call.operands]
   show evK t' f _
   refine evK_iff.2 ?_
   rw [evsK_eq, evs_same fun y hy => hs.1 y (hops y hy), hs.1 f hfo, hf]
   refine h2 t' l' dst fun id hid => ?_
   rw [ments_append, ments_capAs, Bool.or_false] at hid
   obtain ⟨y, hy, hm⟩ := ments_evs hid
   exact hs.2 y id (hops y hy) hm
  ·exact h.elim
 ·split at h
  ·rename_i hq
   obtain ⟨x, h1, h2⟩ := vcOp_read hq h
   obtain ⟨hx, h1⟩ := ifB_iff.1 h1
   exact ⟨x, [], h1, hc, clean_iff.1 hx, .inl rfl, fun t' l' hs _ => h2 t' l' hs⟩
  ·obtain ⟨hn, h'⟩ := ifB_iff.1 h
   clear h
   split at h'
   ·rename_i k
    obtain ⟨h1, h2, h3, x, ob, h4, h5⟩ := vcOp_new hn h'
    unfold headQ at h4
    simp only at h4
    obtain ⟨hb, h4⟩ := ifB_iff.1 h4
    simp only [Bool.and_eq_true] at hb
    refine ⟨x, [(k, ob)], h4, hc, clean_iff.1 hb.1, .inr ⟨hn, k, ob, rfl, rfl, h1, h2, fun k' hk' hne => ?_⟩, fun t' l' hs hf => h5 t' l' hs (hf k ob rfl).1 (hf k ob rfl).2⟩
    have hne' : Nat.beq k k' = false := Bool.eq_false_iff.2 fun e => hne (Nat.eq_of_beq_eq_true e).symm
    cases ob with
    | box m cs => simp [lment, hne', cleans_iff.1 hb.2 k' hk']
    | _ => simp [lment, hne']
   ·exact h'.elim
def wantedBy (D : List (Option Nat)) (o : Oper) (t : TL) : Option Bool :=
 match o.guard with
 | none => some true
 | some (j, want) => match gslot D j with
  | none => none
  | some g => match get g t with
   | .d (.s (.bool c)) => some (c == want)
   | .d (.s (.tuple _)) => some false
   | _ => none
structure OutAt (P : Program) (ty : TypeId → Ty) (D : List (Option Nat)) (na : List Nat) (o : Oper) (t : TL) (l : LL) (x : AV) (nb : LL) : Prop where
 out : ∃ b, wantedBy D o t = some b ∧ (b = false → x = skipV ∧ nb = []) ∧ (b = true → Yields P ty na o t l x nb)
def dstL (r : List Oper) (i : Nat) : Option Nat := (r[i]?).bind (·.dst)
def consF {α : Type} (x : α) (F : Nat → α) : Nat → α
 | 0 => x
 | n + 1 => F n
abbrev All : Nat → Bool := fun _ => true
theorem vcQ_outs {D : List (Option Nat)} {K : TL → LL → Prop} : ∀ (r : List Oper) (ns : List (List Nat)) (t t1 : TL) (l : LL), vcQ P ty D r ns t l K → TE t t1 →
  ∃ (X : Nat → AV) (B : Nat → LL), (∀ j, r.length ≤ j → B j = []) ∧ (∀ j o, r[j]? = some o → OutAt P ty D (ns.getD j []) o (tl (dstL r) X t1 All j) (ll B l All j) (X j) (B j)) ∧
   ∃ t', TE t' (tl (dstL r) X t1 All r.length) ∧ K t' (ll B l All r.length)
 | [], ns, t, t1, l, h, ht => ⟨fun _ => .j, fun _ => [], fun _ _ => rfl, fun j o hj => by simp at hj, t, ht, h⟩
 | o :: r, ns, t, t1, l, h, ht => by
  have go : ∀ (t : TL) (x : AV) (nb : LL), TE t t1 → vcQ P ty D r ns.tail (push o.dst x t) (nb ++ l) K → OutAt P ty D (ns.headD []) o t1 l x nb →
    ∃ (X : Nat → AV) (B : Nat → LL), (∀ j, (o :: r).length ≤ j → B j = []) ∧ (∀ j o', (o :: r)[j]? = some o' → OutAt P ty D (ns.getD j []) o' (tl (dstL (o :: r)) X t1 All j) (ll B l All j) (X j) (B j)) ∧
     ∃ t', TE t' (tl (dstL (o :: r)) X t1 All (o :: r).length) ∧ K t' (ll B l All (o :: r).length) := by
   intro t x nb ht h hy
   obtain ⟨X, B, h0, h1, t', h2, h3⟩ := vcQ_outs r ns.tail _ _ _ h (ht.push o.dst x)
   have e1 : ∀ n, tl (dstL (o :: r)) (consF x X) t1 All (n + 1) = tl (dstL r) X (push o.dst x t1) All n := fun n => by
    rw [tl_shift]; rfl
   have e2 : ∀ n, ll (consF nb B) l All (n + 1) = ll B (nb ++ l) All n := fun n => by
    rw [ll_shift]; rfl
   refine ⟨consF x X, consF nb B, fun j hj => ?_, fun j o' hj => ?_, t', ?_, ?_⟩
   ·cases j with
    | zero => simp at hj
    | succ j => exact h0 j (by simpa using hj)
   ·cases j with
    | zero =>
     simp at hj; subst hj
     have : ns.getD 0 [] = ns.headD [] := by cases ns <;> rfl
     rw [this]; exact hy
    | succ j =>
     rw [e1, e2]
     have : ns.getD (j + 1) [] = ns.tail.getD j [] := by cases ns <;> rfl
     rw [this]
     exact h1 j o' (by simpa using hj)
   ·show TE t' (tl (dstL (o :: r)) (consF x X) t1 All (r.length + 1))
    rw [e1]; exact h2
   ·show K t' (ll (consF nb B) l All (r.length + 1))
    rw [e2]; exact h3
  unfold vcQ at h
  split at h
  ·rename_i hg
   obtain ⟨x, nb, h1, h2⟩ := vcQ1_yields h
   exact go t x nb ht h1 ⟨true, by simp [wantedBy, hg], fun e => (by cases e), fun _ => h2.te ht⟩
  ·rename_i j want hg
   split at h
   ·exact h.elim
   ·rename_i g hgs
    unfold guardO at h
    split at h
    ·rename_i c hc
     have h1 : get g t1 = .d (.s (.bool c)) := by rw [ht.1 g]; exact hc
     have te : TE ((g, .d (.s (.bool c))) :: t) t1 := ht.guard (by rw [hc])
     cases want with
     | true =>
      have hw : wantedBy D o t1 = some (c == true) := by simp only [wantedBy, hg, hgs, h1]
      cases c with
      | true =>
       obtain ⟨x, nb, h6, h7⟩ := vcQ1_yields (h.t rfl)
       exact go _ x nb te h6 ⟨true, hw, fun e => (by cases e), fun _ => h7.te te⟩
      | false => exact go _ skipV [] te (h.f rfl) ⟨false, hw, fun _ => ⟨rfl, rfl⟩, fun e => by cases e⟩
     | false =>
      have hw : wantedBy D o t1 = some (c == false) := by simp only [wantedBy, hg, hgs, h1]
      cases c with
      | true => exact go _ skipV [] te (h.t rfl) ⟨false, hw, fun _ => ⟨rfl, rfl⟩, fun e => by cases e⟩
      | false =>
       obtain ⟨x, nb, h6, h7⟩ := vcQ1_yields (h.f rfl)
       exact go _ x nb te h6 ⟨true, hw, fun e => (by cases e), fun _ => h7.te te⟩
    ·rename_i vs hc
     have h1 : get g t1 = .d (.s (.tuple vs)) := by rw [ht.1 g]; exact hc
     have hw : wantedBy D o t1 = some false := by simp only [wantedBy, hg, hgs, h1]
     exact go _ skipV [] ht h ⟨false, hw, fun _ => ⟨rfl, rfl⟩, fun e => by cases e⟩
    ·exact h.elim
end
end Go.V
