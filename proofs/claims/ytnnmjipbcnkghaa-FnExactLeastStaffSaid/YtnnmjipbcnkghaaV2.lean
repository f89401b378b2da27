/- The abstract machine and its soundness: part 2. -/
import Derived.Test.YtnnmjipbcnkghaaV1
import Derived.Laws.MakeOwn
/- The abstract machine is sound, part 7: operations that make blocks. -/
set_option linter.unusedVariables false
namespace Go.V

section
variable {P : Program} {G : Ctx} {κ : Know} {ρ : Place} {t : TL} {l : LL} {a : Act} {w : World} {K : AV → TL → LL → Prop}

/-- What an operation must come to: a value, a world, and what is known then. -/
def Goes (G : Ctx) (κ : Know) (a : Act) (r : Result Value) (K : AV → TL → LL → Prop) : Prop :=
  ∃ v w' κ' ρ' x t' l', r = .ok v w' ∧ κ.le κ' ∧ Rel G κ' ρ' t' l' a w' ∧ AVR κ' ρ' v x ∧ K x t' l'

theorem oneCs_get : ∀ {cs : List C}, oneCs cs = true → ∀ (i : Nat) c, cs[i]? = some c → oneC c = true
  | [], _, i, v, h => by simp at h
  | x :: r, hv, 0, v, h => by simp only [oneCs, Bool.and_eq_true] at hv; simp at h; subst h; exact hv.1
  | x :: r, hv, i + 1, v, h => by simp only [oneCs, Bool.and_eq_true] at hv; exact oneCs_get hv.2 i v (by simpa using h)

theorem oneC_sound {c : C} {v : Value} (h : oneC c = true) (hv : Repr κ v c) : oneV v = true := by
  cases hv with
  | s x => exact h
  | _ => rfl

theorem ev_ment {k : Nat} (ht : tment k t = false) (o : Operand) : AV.ment k (ev t o) = false := by
  cases o with
  | tmp i => exact tment_get ht i
  | _ => rfl

theorem small {k : Nat} (h : Nat.ble 1000000 k = false) : k < 1000000 := by
  rcases Nat.lt_or_ge k 1000000 with h' | h'
  · exact h'
  · rw [Nat.ble_eq_true_of_le h'] at h; cases h

/-- A new block: the general step. -/
theorem newK_sound {dst : Option Nat} {x : Nat → AV} {o : Ob} (hr : Rel G κ ρ t l a w) (h : newK dst x o t l K) {arr : Array Value} {E : TypeId} {kn : Nat} {v : Value} {r : Result Value}
    (hrun : r = .ok v { w with heap := w.heap.push (.cells arr E) })
    (ho : ∀ k, tment k t = false → lment k l = false → ObR κ (ρ.put k (some ⟨w.heap.size, 0, arr.size, kn⟩)) { w with heap := w.heap.push (.cells arr E) } k o ∧ AVR κ (ρ.put k (some ⟨w.heap.size, 0, arr.size, kn⟩)) v (x k)) :
    Goes G κ a r K := by
  unfold newK at h
  split at h
  · rename_i k
    split at h
    · rename_i hm
      simp only [Bool.or_eq_false_iff] at hm
      obtain ⟨h1, h2⟩ := ho k hm.1.1 hm.1.2
      exact ⟨v, _, κ, _, x k, t, _, hrun, Know.le_refl _, hr.alloc hm.1.1 hm.1.2 (small hm.2) { w with heap := w.heap.push (.cells arr E) } rfl rfl rfl rfl h1, h2, h⟩
    · exact h.elim
  · exact h.elim

theorem heap_push_self (w : World) (o : Obj) : ({ w with heap := w.heap.push o } : World).heap[w.heap.size]? = some o := by simp
theorem put_self (k : Nat) (L : Option Loc) : ρ.put k L k = L := if_pos rfl

theorem lp_new (k b N kn : Nat) : AVR κ (ρ.put k (some ⟨b, 0, N, kn⟩)) (.pointer (some ⟨b, 0, none⟩)) (.lp k 0) :=
  .lp _ _ _ fun L hL => by rw [put_self] at hL; cases hL; rfl

theorem allocK_sound {e : TypeId} {dst : Option Nat} (hr : Rel G κ ρ t l a w) (ht : okT (tyOf P e) = true) (h : allocK (tyOf P e) dst t l K) : Goes G κ a ((Instr.alloc e true (.tuple #[])).run P w) K := by
  obtain ⟨i, u, hi, hu, hs, hz, hg⟩ := tyOf_ok ht
  obtain ⟨hb, h⟩ := ifB_iff.1 h
  simp only [Bool.and_eq_true] at hb
  obtain ⟨⟨hb1, hb2⟩, hb3⟩ := hb
  have hz' : 0 < (tyOf P e).zero.length := Nat.le_of_ble_eq_true hb2
  rw [hz] at hz' h hb3
  obtain ⟨zv, hzv, hcl⟩ := zero_some (z := i.zero) rfl hz'
  rw [← hcl] at h hb3
  refine newK_sound (kn := 0) (arr := zv.cells) (E := e) (v := .pointer (some ⟨w.heap.size, 0, none⟩)) hr h ?_ ?_
  · simp only [Instr.alloc, Sem.run_bind, run_zeroValue' hi hzv, Result.andThen_ok, newVar, newRow, run_newObj, Sem.run_pure]
  · intro k h3 h4
    refine ⟨⟨_, zv.cells, e, (0, 0), put_self _ _, heap_push_self _ _, rfl, fun _ => rfl, fun j c hc => ?_⟩, lp_new _ _ _ _⟩
    simp only [zeros, List.getElem?_map, Option.map_eq_some_iff] at hc
    obtain ⟨v, hv, rfl⟩ := hc
    exact ⟨v, by simpa using hv, .mk v, oneVs_get hb3 j v hv⟩

theorem boxK_sound {e : TypeId} {dst : Option Nat} {x : AV} {vx : Value} (hr : Rel G κ ρ t l a w) (h : boxK dst x t l K) (hx : AVR κ ρ vx x) (hn : ∀ k, tment k t = false → AV.ment k x = false) : Goes G κ a ((Instr.box e vx).run P w) K := by
  have hrun : (Instr.box e vx).run P w = .ok (.pointer (some ⟨w.heap.size, 0, none⟩)) { w with heap := w.heap.push (.cells vx.cells e) } := by
    simp only [Instr.box, Sem.run_bind, newVar, newRow, run_newObj, Result.andThen_ok, Sem.run_pure]
  unfold boxK at h
  split at h
  · rename_i cs
    obtain ⟨vs, rfl, hvn, hvo, hv⟩ := hx.agg
    refine newK_sound (kn := 0) (arr := vs) (E := e) hr h hrun ?_
    intro k h3 h4
    refine ⟨⟨_, vs, e, (0, 0), put_self _ _, heap_push_self _ _, rfl, fun _ => rfl, fun j c hc => ?_⟩, lp_new _ _ _ _⟩
    have hj : j < vs.size := by
      rcases Nat.lt_or_ge j cs.length with h | h
      · omega
      · rw [List.getElem?_eq_none h] at hc; cases hc
    have hvj : vs[j]? = some vs[j] := by simp
    exact ⟨vs[j], by simp, (hv j _ c hvj hc).put (ments_get (by simpa [AV.ment] using hn k h3) j c hc), hvo j _ hvj⟩
  · obtain ⟨hb, h⟩ := ifB_iff.1 h
    have h1 := oneCell_sound hr.m hb hx
    refine newK_sound (kn := 0) (arr := vx.cells) (E := e) hr h hrun ?_
    intro k h4 h5
    refine ⟨⟨_, vx.cells, e, (0, 0), put_self _ _, heap_push_self _ _, rfl, fun _ => rfl, fun j c hc => ?_⟩, lp_new _ _ _ _⟩
    have hj : j = 0 := by
      rcases Nat.eq_zero_or_pos j with h | h
      · exact h
      · rw [List.getElem?_eq_none (by simp; omega)] at hc; cases hc
    subst hj
    simp at hc; subst hc
    exact ⟨vx, by rw [oneV_cells h1]; rfl, hx.put (hn k h4), h1⟩

/-! Rows. -/

theorem toCs_dIs : ∀ {xs : List AV} {cs : List C}, toCs xs = some cs → xs = dIs cs
  | [], cs, h => by simp [toCs] at h; subst h; rfl
  | .d c :: r, cs, h => by
    simp only [toCs] at h
    split at h
    · rename_i cs' hc; cases h; rw [toCs_dIs hc]; rfl
    · cases h
  | .j :: _, _, h | .ag _ :: _, _, h | .tup _ :: _, _, h | .lp _ _ :: _, _, h | .pe _ _ _ _ :: _, _, h | .ls _ _ _ _ :: _, _, h | .ep _ _ _ _ :: _, _, h | .pp _ _ :: _, _, h => by simp [toCs] at h

/-- The values of an element's cells. -/
def RowR (κ : Know) (vs : List Value) (cs : List C) : Prop := vs.length = cs.length ∧ (∀ (k : Nat) v, vs[k]? = some v → oneV v = true) ∧ ∀ (k : Nat) v c, vs[k]? = some v → cs[k]? = some c → Repr κ v c

theorem cells_rowR {x : AV} {v : Value} {cs : List C} (hx : AVR κ ρ v x) (h : toCs (cellsOf x) = some cs) (ho : oneCs cs = true) : RowR κ v.cells.toList cs := by
  have e := toCs_dIs h
  cases x with
  | ag xs =>
    obtain ⟨vs, rfl, hn, hvo, hv⟩ := hx.agg
    simp only [cellsOf] at e
    subst e
    refine ⟨by simpa [Value.cells, dIs] using hn, fun k u hk => hvo k u (by simpa [Value.cells] using hk), fun k u c hk hc => ?_⟩
    exact (hv k u (.d c) (by simpa [Value.cells] using hk) (by simp [dIs, hc])).repr
  | d c =>
    simp only [cellsOf, dIs] at e
    have e' : cs = [c] := by
      match cs, e with
      | [c'], e => simp at e; rw [e]
    subst e'
    have h1 : oneV v = true := oneC_sound (by simpa [oneCs] using ho) hx.repr
    rw [oneV_cells h1]
    refine ⟨rfl, fun k u hk => ?_, fun k u c' hk hc => ?_⟩
    · match k with
      | 0 => simp at hk; subst hk; exact h1
      | k + 1 => simp at hk
    · match k with
      | 0 => simp at hk hc; subst hk; subst hc; exact hx.repr
      | k + 1 => simp at hk
  | _ => simp [cellsOf, toCs] at h

end
end Go.V
/- The abstract machine is sound, part 8: slices that are built and made, stores. -/
namespace Go.V

section
variable {P : Program} {G : Ctx} {κ : Know} {ρ : Place} {t : TL} {l : LL} {a : Act} {w : World} {K : AV → TL → LL → Prop}

/-- Values read as rows' cells. -/
def CellsC (κ : Know) (vs : List Value) (cs : List C) : Prop := (∀ (k : Nat) v, vs[k]? = some v → oneV v = true) ∧ ∀ (k : Nat) v c, vs[k]? = some v → cs[k]? = some c → Repr κ v c

theorem setAll_size : ∀ (vs : List Value) (arr : Array Value) (o : Nat), (setAll arr o vs).size = arr.size
  | [], _, _ => rfl
  | v :: r, arr, o => by rw [setAll, setAll_size r]; simp

theorem setAll_out : ∀ (vs : List Value) (arr : Array Value) (o k : Nat), k < o ∨ o + vs.length ≤ k → (setAll arr o vs)[k]? = arr[k]?
  | [], _, _, _, _ => rfl
  | v :: r, arr, o, k, h => by
    simp only [List.length_cons] at h
    rw [setAll, setAll_out r _ (o + 1) k (by omega), Array.getElem?_setIfInBounds_ne (by omega)]

theorem setAll_in : ∀ (vs : List Value) (arr : Array Value) (o k : Nat), o + vs.length ≤ arr.size → k < vs.length → (setAll arr o vs)[o + k]? = vs[k]?
  | [], _, _, _, _, h => by simp at h
  | v :: r, arr, o, 0, h, _ => by
    simp only [List.length_cons] at h
    rw [Nat.add_zero, setAll, setAll_out r _ (o + 1) o (by omega), Array.getElem?_setIfInBounds_self_of_lt (by omega)]
    rfl
  | v :: r, arr, o, k + 1, h, hk => by
    simp only [List.length_cons] at h hk
    have := setAll_in r (arr.setIfInBounds o v) (o + 1) k (by simp; omega) (by omega)
    rw [setAll, show o + (k + 1) = o + 1 + k by omega, this]
    rfl

/-- Filling with rows, one after another, from row m on. -/
theorem fill_rows {n : Nat} : ∀ {ps : List (Nat × AV)} {vs : List (Nat × Value)} {arr : Array Value} {m : Nat} {K : List (List C) → Prop}, rowsK n m ps K → ps.length = vs.length → (m + ps.length) * n ≤ arr.size →
    (∀ (k : Nat) i x j v, ps[k]? = some (i, x) → vs[k]? = some (j, v) → i = j ∧ AVR κ ρ v x) →
    ∃ news rows, Instr.fill (fun i => some (i * n, n)) arr vs = some (setAll arr (m * n) news) ∧ news.length = ps.length * n ∧ rows.length = ps.length ∧ (∀ r, r ∈ rows → r.length = n) ∧ CellsC κ news rows.flatten ∧ K rows
  | [], [], arr, m, K, h, _, _, _ => ⟨[], [], rfl, by simp, rfl, by simp, ⟨by simp, by simp⟩, h⟩
  | [], _ :: _, _, _, _, _, hl, _, _ => by simp at hl
  | _ :: _, [], _, _, _, _, hl, _, _ => by simp at hl
  | (i, x) :: ps, (j, v) :: vs, arr, m, K, h, hl, hs, hv => by
    obtain ⟨rfl, hx⟩ := hv 0 i x j v rfl rfl
    have hv' : ∀ (k : Nat) i x j v, ps[k]? = some (i, x) → vs[k]? = some (j, v) → i = j ∧ AVR κ ρ v x := fun k i x j v h1 h2 => hv (k + 1) i x j v (by simpa using h1) (by simpa using h2)
    unfold rowsK at h
    obtain ⟨him, h⟩ := ifB_iff.1 h
    have e := Nat.eq_of_beq_eq_true him
    subst e
    split at h
    · rename_i cs hcs
      obtain ⟨hb, h⟩ := ifB_iff.1 h
      simp only [Bool.and_eq_true] at hb
      have hn := Nat.eq_of_beq_eq_true hb.1
      obtain ⟨r1, r2, r3⟩ := cells_rowR hx hcs hb.2
      have hvn : v.cells.size = n := by rw [← hn, ← r1]; simp
      simp only [List.length_cons] at hs hl
      have hs1 : i * n + (n + ps.length * n) ≤ arr.size := by
        have : (i + (ps.length + 1)) * n = i * n + (n + ps.length * n) := by rw [Nat.add_mul, Nat.add_mul]; omega
        omega
      obtain ⟨news, rows, h1, h2, h3, h4, h5, h6⟩ := fill_rows (vs := vs) (arr := setAll arr (i * n) v.cells.toList) (m := i + 1) h (by omega) (by
        rw [setAll_size]
        have : (i + 1 + ps.length) * n = i * n + (n + ps.length * n) := by rw [Nat.add_mul, Nat.add_mul]; omega
        omega) hv'
      refine ⟨v.cells.toList ++ news, cs :: rows, ?_, ?_, by simp [h3], ?_, ?_, h6⟩
      · have hf : v.cells.zipIdx.foldl (fun cs (c, j) => cs.setIfInBounds (i * n + j) c) arr = setAll arr (i * n) v.cells.toList := by
          rw [← Array.foldl_toList, Array.toList_zipIdx, fold_setAll (i * n) v.cells.toList 0 arr]; rfl
        have hcond : (decide (v.cells.size ≠ n) || decide (i * n + v.cells.size > arr.size)) = false := by simp [hvn]; omega
        have happ : ∀ (xs ys : List Value) (arr : Array Value) (o : Nat), setAll arr o (xs ++ ys) = setAll (setAll arr o xs) (o + xs.length) ys := by
          intro xs
          induction xs with
          | nil => intro ys arr o; rfl
          | cons x r ih => intro ys arr o; simp only [List.cons_append, setAll, List.length_cons]; rw [ih]; congr 1; omega
        rw [happ]
        have : i * n + v.cells.toList.length = (i + 1) * n := by rw [Nat.add_mul, Array.length_toList, hvn]; omega
        rw [this, ← h1]
        simp only [Instr.fill, hcond, Bool.false_eq_true, if_false]
        simp only [hf]
      · simp only [List.length_append, Array.length_toList, hvn, h2, List.length_cons]; rw [Nat.add_mul]; omega
      · intro r hr
        rcases List.mem_cons.1 hr with rfl | hr
        · exact hn
        · exact h4 r hr
      · have hcl : cs.length = v.cells.toList.length := r1.symm
        refine ⟨fun k u hk => ?_, fun k u c hk hc => ?_⟩
        · rcases Nat.lt_or_ge k v.cells.toList.length with hlt | hge
          · rw [List.getElem?_append_left hlt] at hk; exact r2 k u hk
          · rw [List.getElem?_append_right hge] at hk; exact h5.1 _ u hk
        · rw [List.flatten_cons] at hc
          rcases Nat.lt_or_ge k v.cells.toList.length with hlt | hge
          · rw [List.getElem?_append_left hlt] at hk
            rw [List.getElem?_append_left (by omega)] at hc
            exact r3 k u c hk hc
          · rw [List.getElem?_append_right hge] at hk
            rw [List.getElem?_append_right (by omega), hcl] at hc
            exact h5.2 _ u c hk hc
    · exact h.elim

theorem run_zeroArr {e : TypeId} {i : TypeInfo} {v : Value} (hi : P.info? e = some i) (hz : i.zero = some v) (n : Nat) (hn : n ≠ 0) (w : World) :
    ((if n = 0 then Pure.pure #[] else do pure (← zeroValue e).cells : Sem (Array Value))).run P w = .ok v.cells w := by
  rw [if_neg hn]; simp only [Sem.run_bind, run_zeroValue' hi hz, Result.andThen_ok, Sem.run_pure]

/-- A new row: an object and its slice. -/
theorem row_new {k : Nat} {arr : Array Value} {e : TypeId} {w' : World} {sz n cap : Nat} {rows : List (List C)} {b : Nat} (hb : w'.heap[b]? = some (.cells arr e (0, 0))) (hz : ∀ r, r ∈ rows → r.length = sz) (hn : rows.length = n) (hc : n ≤ cap) (hs : arr.size = cap * sz)
    (hcells : ∀ (k : Nat) (c : C), rows.flatten[k]? = some c → ∃ x, arr[k]? = some x ∧ Repr κ x c ∧ oneV x = true) :
    ObR κ (ρ.put k (some ⟨b, 0, arr.size, n⟩)) w' k (.row true sz rows) ∧ AVR κ (ρ.put k (some ⟨b, 0, arr.size, n⟩)) (.slice (some ⟨b, 0, none⟩) n cap) (.ls k 0 n sz) := by
  refine ⟨⟨_, arr, e, (0, 0), put_self _ _, hb, rfl, fun _ => rfl, hz, by simp [hn], fun j c hc => ?_⟩, .ls _ _ _ _ _ fun L hL => ?_⟩
  · simpa using hcells j c hc
  · rw [put_self] at hL; cases hL
    exact ⟨cap, _, rfl, .inl (by simp), hc, by simp [hs], by simpa using hc⟩

theorem buildSliceK_sound {e : TypeId} {n : Nat} {ps : List (Nat × AV)} {vs : Array (Nat × Value)} {dst : Option Nat} (hr : Rel G κ ρ t l a w) (h : buildSliceK (tyOf P e) n ps dst t l K) (hl : ps.length = vs.size)
    (hv : ∀ (k : Nat) i x j v, ps[k]? = some (i, x) → vs[k]? = some (j, v) → i = j ∧ AVR κ ρ v x) : Goes G κ a ((Instr.buildSlice e n vs).run P w) K := by
  obtain ⟨hb, h⟩ := ifB_iff.1 h
  simp only [Bool.and_eq_true] at hb
  obtain ⟨⟨⟨⟨hs, hpn⟩, hle⟩, hez⟩, hep⟩ := hb
  have hpn := Nat.eq_of_beq_eq_true hpn
  have hle := Nat.le_of_ble_eq_true hle
  have hez := Nat.eq_of_beq_eq_true hez
  have hep := Nat.le_of_ble_eq_true hep
  obtain ⟨el, ei, hu, hei, hes, _, hezo⟩ := tyOf_slice hs
  obtain ⟨zv, hzv, hcl⟩ := zero_some (z := ei.zero) rfl (by rw [← hezo]; exact hep)
  have hes' : 0 < ei.size := by rw [← hes]; omega
  rw [hes] at h hle
  let zarr : Array Value := if n * ei.size = 0 then #[] else zv.cells
  obtain ⟨news, rows, h1, h2, h3, h4, h5, h6⟩ := fill_rows (κ := κ) (ρ := ρ) (vs := vs.toList) (arr := (Array.range (n * ei.size)).map (zarr[· % zarr.size]!)) (m := 0) h (by simpa using hl) (by simp [hpn]) (fun k i x j v h1 h2 => hv k i x j v h1 (by simpa using h2))
  rw [Nat.zero_mul] at h1
  have hasz : (setAll ((Array.range (n * ei.size)).map (zarr[· % zarr.size]!)) 0 news).size = n * ei.size := by rw [setAll_size]; simp
  refine newK_sound (kn := n) (arr := setAll ((Array.range (n * ei.size)).map (zarr[· % zarr.size]!)) 0 news) (E := el) (v := .slice (some ⟨w.heap.size, 0, none⟩) n n) hr h6 ?_ ?_
  · have hng : ¬ (n * ei.size > 2 ^ 24) := by omega
    by_cases h0 : n * ei.size = 0
    · simp only [zarr, if_pos h0] at h1
      simp only [Instr.buildSlice, Sem.run_bind, run_underlying hu, Result.andThen_ok, run_sizeOf' hei, if_neg hng, if_pos h0, Sem.run_pure, h1, newRow, run_newObj, zarr]
    · simp only [zarr, if_neg h0] at h1
      simp only [Instr.buildSlice, Sem.run_bind, run_underlying hu, Result.andThen_ok, run_sizeOf' hei, if_neg hng, if_neg h0, run_zeroValue' hei hzv, Sem.run_pure, h1, newRow, run_newObj, zarr]
  · intro k _ _
    have hrn : rows.length = n := by rw [h3, hpn]
    refine row_new (heap_push_self _ _) h4 hrn (Nat.le_refl n) hasz fun j c hc => ?_
    have hj : j < news.length := by
      have : rows.flatten.length = rows.length * ei.size := flatten_length h4
      rcases Nat.lt_or_ge j rows.flatten.length with hh | hh
      · rw [h2, ← h3]; omega
      · rw [List.getElem?_eq_none hh] at hc; cases hc
    have hg := setAll_in news ((Array.range (n * ei.size)).map (zarr[· % zarr.size]!)) 0 j (by simp [h2, hpn]) hj
    rw [Nat.zero_add] at hg
    exact ⟨news[j], by rw [hg]; simp, h5.2 j _ c (by simp) hc, h5.1 j _ (by simp)⟩

theorem replicate_flatten {α : Type} (r : List α) : ∀ (n k : Nat) (c : α), (List.replicate n r).flatten[k]? = some c → r[k % r.length]? = some c ∧ k < n * r.length
  | 0, k, c, h => by simp at h
  | n + 1, k, c, h => by
    rw [List.replicate_succ, List.flatten_cons] at h
    rcases Nat.lt_or_ge k r.length with hlt | hge
    · rw [List.getElem?_append_left hlt] at h
      rw [Nat.mod_eq_of_lt hlt]
      exact ⟨h, by rw [Nat.add_mul]; omega⟩
    · rw [List.getElem?_append_right hge] at h
      obtain ⟨h1, h2⟩ := replicate_flatten r n _ c h
      rw [Nat.mod_eq_sub_mod hge]
      exact ⟨h1, by rw [Nat.add_mul]; omega⟩

theorem makeK_sound {e : TypeId} {n m : AV} {vn vm : Value} {dst : Option Nat} (hr : Rel G κ ρ t l a w) (h : makeK (tyOf P e) n m dst t l K) (hn : AVR κ ρ vn n) (hm : AVR κ ρ vm m) : Goes G κ a ((Instr.makeSlice e vn vm).run P w) K := by
  unfold makeK at h
  split at h
  · rename_i x y
    have e1 := hn.val; subst e1
    have e2 := hm.val; subst e2
    obtain ⟨hb, ⟨hc1, hc2, hc3, hc4⟩, h⟩ := ifB_iff.1 h
    simp only [Bool.and_eq_true] at hb
    obtain ⟨⟨⟨hs, hez⟩, hep⟩, hov⟩ := hb
    have hez := Nat.eq_of_beq_eq_true hez
    have hep := Nat.le_of_ble_eq_true hep
    obtain ⟨el, ei, hu, hei, hes, heb, hezo⟩ := tyOf_slice hs
    obtain ⟨zv, hzv, hcl⟩ := zero_some (z := ei.zero) rfl (by rw [← hezo]; exact hep)
    have hzs : zv.cells.size = ei.size := by rw [← hes, ← hez, hezo, ← hcl]; simp
    have hsp : 0 < ei.size := by rw [← hes]; omega
    rw [heb] at hc3
    rw [hes, hezo, ← hcl] at h
    rw [hezo, ← hcl] at hov
    have hrun := run_make (P := P) w e el ei zv hu hei hzv .i64 .i64 x y hc1 hc2 (by have := Int.mul_comm y ei.bytes; omega) (by omega)
    refine newK_sound (kn := x.toNat) (arr := madeCells zv.cells (y.toNat * ei.size)) (E := el) (v := .slice (some ⟨w.heap.size, 0, none⟩) x.toNat y.toNat) hr h hrun ?_
    intro k _ _
    refine row_new (heap_push_self _ _) (by intro r hr; rw [List.eq_of_mem_replicate hr]; simp [hzs]) (by simp) (by omega) (size_madeCells _ _) fun j c hc => ?_
    obtain ⟨h1, h2⟩ := replicate_flatten _ _ _ _ hc
    simp only [List.getElem?_map, List.length_map, Array.length_toList, hzs, Option.map_eq_some_iff] at h1 h2
    obtain ⟨u, h3, rfl⟩ := h1
    refine ⟨u, ?_, .s u, oneVs_get hov _ u h3⟩
    have hxy : x.toNat * ei.size ≤ y.toNat * ei.size := Nat.mul_le_mul_right _ (by omega)
    have hj : j < y.toNat * ei.size := by omega
    have h4 : zv.cells[j % ei.size]? = some u := by simpa using h3
    simp only [madeCells]
    rw [Array.getElem?_map, Array.getElem?_range, if_pos hj, hzs]
    simp only [Option.map_some]
    congr 1
    rw [getElem!_def, h4]
  · exact h.elim

end
end Go.V
/- The abstract machine is sound, part 9: stores. -/
namespace Go.V

section
variable {P : Program} {G : Ctx} {κ : Know} {ρ : Place} {t : TL} {l : LL} {a : Act} {w : World}

/-- Two worlds that differ in one block's cells alone. -/
structure ButB (w w' : World) (b : Nat) : Prop where
  os : w'.os = w.os
  tape : w'.tape = w.tape
  output : w'.output = w.output
  size : w'.heap.size = w.heap.size
  block : ∀ k, k ≠ b → w'.heap[k]? = w.heap[k]?

theorem ButB.refl (w : World) (b : Nat) : ButB w w b := ⟨rfl, rfl, rfl, rfl, fun _ _ => rfl⟩
theorem ButB.trans {w w' w'' : World} {b : Nat} (h : ButB w w' b) (h' : ButB w' w'' b) : ButB w w'' b :=
  ⟨h'.os.trans h.os, h'.tape.trans h.tape, h'.output.trans h.output, h'.size.trans h.size, fun k hk => (h'.block k hk).trans (h.block k hk)⟩

theorem heap_setCell {w : World} {b o : Nat} {arr : Array Value} {E : TypeId} {fz : Nat × Nat} (h : w.heap[b]? = some (.cells arr E fz)) (v : Value) :
    (w.setCell ⟨b, o, none⟩ v).heap[b]? = some (.cells (arr.setIfInBounds o v) E fz) ∧ ButB w (w.setCell ⟨b, o, none⟩ v) b := by
  refine ⟨?_, rfl, rfl, rfl, by simp [World.setCell], fun k hk => ?_⟩
  · simp [World.setCell, Array.getElem?_modify, h]
  · simp [World.setCell, Array.getElem?_modify, Ne.symm hk]

theorem heap_setCells {b : Nat} {E : TypeId} {fz : Nat × Nat} : ∀ (vs : List Value) (w : World) (o : Nat) (arr : Array Value), w.heap[b]? = some (.cells arr E fz) →
    (w.setCells b o vs).heap[b]? = some (.cells (setAll arr o vs) E fz) ∧ ButB w (w.setCells b o vs) b
  | [], w, o, arr, h => ⟨h, ButB.refl w b⟩
  | v :: r, w, o, arr, h => by
    obtain ⟨h1, h2⟩ := heap_setCell (o := o) h v
    obtain ⟨h3, h4⟩ := heap_setCells r _ (o + 1) _ h1
    exact ⟨h3, h2.trans h4⟩

theorem oneV_cell' {v : Value} (h : oneV v = true) : v.oneCell' = true := by cases v <;> first | rfl | (simp [oneV] at h)

theorem run_storeCells' {b o : Nat} {arr : Array Value} {E : TypeId} (h : w.heap[b]? = some (.cells arr E (0, 0))) (vs : List Value) (hle : o + vs.length ≤ arr.size) (ho : ∀ (k : Nat) v, vs[k]? = some v → oneV v = true) :
    (storeCells ⟨b, o, none⟩ vs).run P w = .ok () (w.setCells b o vs) := by
  have := run_storeCells_cells (P := P) b o vs 0 w (fun j hj => by rw [cell_heap h]; simp; omega) (fun j hj => by simp [World.frozen?, h]) (fun v hv => by
    obtain ⟨k, hk⟩ := List.mem_iff_getElem?.1 hv
    exact oneV_cell' (ho k v hk))
  simpa using this

/-- A world in which one block changed: one that no place but k's lies in, of which nothing is known. -/
theorem Mem.change {k : Nat} {o' : Ob} {l' : LL} {ρ' : Place} {b : Nat} {w' : World} (hm : Mem G κ ρ l w) (hw : ButB w w' b)
    (hb : ∀ j L, j ≠ k → ρ j = some L → L.b ≠ b) (hκ : ∀ o x, ¬ κ b o x) (hfr : G.w0.heap.size ≤ b ∨ G.M b)
    (hρ : ∀ j, j ≠ k → ρ' j = ρ j ∨ ρ' j = none ∧ lget j l' = .no) (hl : ∀ j, j ≠ k → lget j l' = lget j l ∨ ρ' j = none ∧ lget j l' = .no) (hk : ∀ L, ρ' k = some L → L.b = b)
    (hav : ∀ v x j m cs, lget j l = .box m cs → x ∈ cs → AVR κ ρ v x → AVR κ ρ' v x) (hll : lget k l' = o') (ho : ObR κ ρ' w' k o') (hpk : ∀ L, 1000000 ≤ k → ρ' k = some L → G.ρ0 k = some L) : Mem G κ ρ' l' w' := by
  have hbk : ∀ j L, j ≠ k → ρ' j = some L → ρ j = some L ∧ lget j l' = lget j l := fun j L hj hL => by
    rcases hρ j hj with h1 | ⟨h1, _⟩
    · rcases hl j hj with h2 | ⟨h2, _⟩
      · exact ⟨h1 ▸ hL, h2⟩
      · rw [h2] at hL; cases hL
    · rw [h1] at hL; cases hL
  refine ⟨fun id => ?_, fun i j Li Lj hij hi hj hwi => ?_, fun i L hi hwi => ?_, fun c o x h => ?_, hm.one, hm.kn0, ?_, fun i L hi h => ?_⟩
  · by_cases hid : id = k
    · subst hid; rw [hll]; exact ho
    · rcases hl id hid with h2 | ⟨h2, h3⟩
      · rcases hρ id hid with h1 | ⟨h1, h3⟩
        · rw [h2]
          refine (hm.ob id).move (Know.le_refl _) h1 (fun L hL => hw.block _ (hb id L hid hL)) ?_
          intro m cs e i c v hc hv
          exact hav v c id m cs e (List.mem_of_getElem? hc) hv
        · rw [h3]; exact h1
      · rw [h3]; exact h2
  · by_cases hik : i = k
    · subst hik
      rw [hk Li hi]
      exact fun e => hb j Lj (Ne.symm hij) (hbk j Lj (Ne.symm hij) hj).1 e.symm
    · obtain ⟨hi1, hi2⟩ := hbk i Li hik hi
      by_cases hjk : j = k
      · subst hjk
        rw [hk Lj hj]
        exact hb i Li hik hi1
      · rw [hi2] at hwi
        exact hm.sep i j Li Lj hij hi1 (hbk j Lj hjk hj).1 hwi
  · by_cases hik : i = k
    · subst hik
      rw [hk L hi]
      exact ⟨hκ, hfr⟩
    · obtain ⟨hi1, hi2⟩ := hbk i L hik hi
      rw [hi2] at hwi
      exact hm.fre i L hi1 hwi
  · have hc : c ≠ b := fun e => hκ o x (e ▸ h)
    have := hm.kn c o x h
    simp only [World.cell?] at this ⊢
    rw [hw.block c hc]; exact this
  · have := hm.fr
    refine ⟨hw.os.trans this.os, hw.tape.trans this.tape, hw.output.trans this.output, by rw [hw.size]; exact this.size, fun c hc hM => ?_⟩
    have hcb : c ≠ b := fun e => by
      subst e
      rcases hfr with h | h
      · omega
      · exact hM h
    rw [hw.block c hcb]; exact this.block c hc hM
  · by_cases hik : i = k
    · subst hik; exact hpk L hi h
    · exact hm.par i L hi (hbk i L hik h).1

theorem lget_lset {i : Nat} {o : Ob} : ∀ {l : LL}, lget i l ≠ .no → ∀ j, lget j (lset i o l) = if j = i then o else lget j l
  | [], h, j => by exact absurd rfl h
  | (k, x) :: r, h, j => by
    have e : lset i o ((k, x) :: r) = if i = k then (k, o) :: r else (k, x) :: lset i o r := by
      show (bif Nat.beq i k then (k, o) :: r else (k, x) :: lset i o r) = _
      by_cases h : i = k
      · subst h; simp
      · have : Nat.beq i k = false := Bool.eq_false_iff.2 fun e => h (Nat.eq_of_beq_eq_true e)
        simp [this, h]
    rw [lget_cons] at h
    rw [e]
    by_cases hik : i = k
    · subst hik
      rw [if_pos rfl, lget_cons, lget_cons]
      split <;> rfl
    · rw [if_neg hik] at h
      rw [if_neg hik, lget_cons, lget_cons, lget_lset h j]
      by_cases hjk : j = k
      · subst hjk; simp [Ne.symm hik]
      · simp [hjk]

theorem lsetK_iff {i : Nat} {o : Ob} : ∀ {l : LL} {K : LL → Prop}, lsetK i o l K ↔ K (lset i o l)
  | [], K => Iff.rfl
  | (k, x) :: r, K => by
    show (match Nat.beq i k with | true => K ((k, o) :: r) | false => lsetK i o r fun r' => K ((k, x) :: r')) ↔ K (bif Nat.beq i k then (k, o) :: r else (k, x) :: lset i o r)
    cases Nat.beq i k with
    | true => exact Iff.rfl
    | false => exact lsetK_iff (l := r)

/-- One of the locals that may be written is written. -/
theorem Mem.rewrite {id : Nat} {o o' : Ob} {L : Loc} {w' : World} (hm : Mem G κ ρ l w) (hL : ρ id = some L) (ho : lget id l = o) (hwr : o.wr = true) (hw : ButB w w' L.b) (ho' : ObR κ ρ w' id o') :
    Mem G κ ρ (lset id o' l) w' := by
  have hne : lget id l ≠ .no := fun e => by rw [ho] at e; rw [e] at hwr; cases hwr
  have hg := lget_lset (o := o') hne
  obtain ⟨f1, f2⟩ := hm.fre id L hL (by rw [ho]; exact hwr)
  refine hm.change (k := id) hw (fun j Lj hj hLj => Ne.symm (hm.sep id j L Lj (Ne.symm hj) hL hLj (by rw [ho]; exact hwr))) f1 f2 (fun j _ => .inl rfl) (fun j hj => .inl (by rw [hg, if_neg hj])) (fun L' h' => by rw [hL] at h'; cases h'; rfl) (fun _ _ _ _ _ _ _ h => h) (by rw [hg, if_pos rfl]) ho' (fun L hi h => hm.par id L hi h)

theorem flatten_set {α : Type} {sz : Nat} {r' : List α} (hr' : r'.length = sz) : ∀ {rows : List (List α)} {i : Nat}, (∀ r, r ∈ rows → r.length = sz) → i < rows.length → ∀ (k : Nat) c, (rows.set i r').flatten[k]? = some c →
    (∃ j, k = i * sz + j ∧ j < sz ∧ r'[j]? = some c) ∨ ((k < i * sz ∨ i * sz + sz ≤ k) ∧ rows.flatten[k]? = some c)
  | [], i, _, h, _, _, _ => by simp at h
  | q :: rows, 0, hz, _, k, c, hc => by
    have hq : q.length = sz := hz q (by simp)
    rw [List.set_cons_zero, List.flatten_cons] at hc
    rcases Nat.lt_or_ge k sz with hlt | hge
    · rw [List.getElem?_append_left (by omega)] at hc
      exact .inl ⟨k, by omega, hlt, hc⟩
    · rw [List.getElem?_append_right (by omega)] at hc
      refine .inr ⟨.inr (by omega), ?_⟩
      rw [List.flatten_cons, List.getElem?_append_right (by omega), hq, ← hr']; exact hc
  | q :: rows, i + 1, hz, hi, k, c, hc => by
    have hq : q.length = sz := hz q (by simp)
    have e : (i + 1) * sz = i * sz + sz := by rw [Nat.add_mul]; omega
    rw [List.set_cons_succ, List.flatten_cons] at hc
    rcases Nat.lt_or_ge k sz with hlt | hge
    · rw [List.getElem?_append_left (by omega)] at hc
      refine .inr ⟨.inl (by omega), ?_⟩
      rw [List.flatten_cons, List.getElem?_append_left (by omega)]; exact hc
    · rw [List.getElem?_append_right (by omega)] at hc
      rcases flatten_set hr' (fun r hr => hz r (by simp [hr])) (by simpa using hi) _ c hc with ⟨j, h1, h2, h3⟩ | ⟨h1, h2⟩
      · exact .inl ⟨j, by omega, h2, h3⟩
      · refine .inr ⟨by omega, ?_⟩
        rw [List.flatten_cons, List.getElem?_append_right (by omega)]; exact h2

theorem run_storeVar {t : TypeId} {i : TypeInfo} (hi : P.info? t = some i) {b o : Nat} {arr : Array Value} {E : TypeId} (h : w.heap[b]? = some (.cells arr E (0, 0))) (v : Value) (hs : v.cells.size = i.size) (hle : o + v.cells.size ≤ arr.size)
    (ho : ∀ (k : Nat) u, v.cells[k]? = some u → oneV u = true) : (Instr.storeAt t (.pointer (some ⟨b, o, none⟩)) v).run P w = .ok () (w.setCells b o v.cells.toList) := by
  have hs' := run_storeCells' (P := P) h v.cells.toList (by simpa using hle) (fun k u hk => ho k u (by simpa using hk))
  have : (Instr.storeAt t (.pointer (some ⟨b, o, none⟩)) v) = storeVar t ⟨b, o, none⟩ v := rfl
  rw [this]
  simp [storeVar, run_sizeOf' hi, hs, hs']

theorem some_lt {α : Type} {xs : List α} {k : Nat} {c : α} (h : xs[k]? = some c) : k < xs.length := (List.getElem?_eq_some_iff.1 h).1

/-- What a store comes to. -/
def Stores (P : Program) (G : Ctx) (κ : Know) (ρ : Place) (w : World) (m : Sem Unit) (K : LL → Prop) : Prop :=
  ∃ w' l', m.run P w = .ok () w' ∧ Mem G κ ρ l' w' ∧ K l'

theorem storeK_sound {e : TypeId} {x y : AV} {va vx : Value} {K : LL → Prop} (hm : Mem G κ ρ l w) (ht : okT (tyOf P e) = true) (h : storeK (tyOf P e) x y l K) (ha : AVR κ ρ va x) (hx : AVR κ ρ vx y) :
    Stores P G κ ρ w (Instr.storeAt e va vx) K := by
  obtain ⟨ti, u, hi, hu, hs, _, _⟩ := tyOf_ok ht
  unfold storeK at h
  split at h
  · rename_i id off
    split at h
    · rename_i cs hl
      have hob := hm.ob id
      rw [hl] at hob
      obtain ⟨L, arr, E, fz, hL, hh, hN, hfz, hcs⟩ := hob
      have hfz := hfz rfl
      subst hfz
      have e0 := ha.lp_at hL; subst e0
      have hin : ∀ k, k < cs.length → L.o + k < arr.size := fun k hk => by
        obtain ⟨x, h1, _⟩ := hcs k cs[k] (List.getElem?_eq_getElem hk)
        exact (Array.getElem?_eq_some_iff.1 h1).1
      split at h
      · rename_i xs
        have hb := (ifB_iff.1 h).1
        replace h := (ifB_iff.1 h).2
        simp only [Bool.and_eq_true] at hb
        have hxl := Nat.eq_of_beq_eq_true hb.1
        have hxp : 0 < (tyOf P e).size := Nat.le_of_ble_eq_true hb.2
        obtain ⟨vs, rfl, hvn, hvo, hv⟩ := hx.agg
        have key : off + xs.length ≤ cs.length → ∀ cs', (∀ (k : Nat) c, cs'[k]? = some c → (∃ j, k = off + j ∧ xs[j]? = some c) ∨ ((k < off ∨ off + xs.length ≤ k) ∧ cs[k]? = some c)) →
            K (lset id (.box true cs') l) → Stores P G κ ρ w (Instr.storeAt e (.pointer (some ⟨L.b, L.o + off, none⟩)) (.agg vs)) K := by
          intro hle cs' hcs' hK
          have hbound : L.o + off + vs.toList.length ≤ arr.size := by
            have := hin (cs.length - 1) (by omega)
            simp; omega
          refine ⟨_, _, run_storeVar (P := P) hi hh (.agg vs) (by simp [Value.cells]; omega) (by simpa [Value.cells] using hbound) (fun k u hk => hvo k u (by simpa [Value.cells] using hk)), ?_, hK⟩
          obtain ⟨h1, h2⟩ := heap_setCells (b := L.b) vs.toList w (L.o + off) arr hh
          refine hm.rewrite hL hl rfl h2 ⟨L, _, E, (0, 0), hL, h1, by rw [setAll_size]; exact hN, fun _ => rfl, fun k c hk => ?_⟩
          rcases hcs' k c hk with ⟨j, rfl, hj⟩ | ⟨hk1, hk2⟩
          · have hjl := some_lt hj
            have hvj : vs[j]? = some (vs[j]'(by omega)) := by simp
            refine ⟨vs[j]'(by omega), ?_, hv j _ c hvj hj, hvo j _ hvj⟩
            rw [← Nat.add_assoc, setAll_in _ _ _ _ hbound (by simp; omega)]
            simp
          · obtain ⟨x, h3, h4⟩ := hcs k c hk2
            exact ⟨x, by rw [setAll_out _ _ _ _ (by simp; omega)]; exact h3, h4⟩
        split at h
        · rename_i hb2
          simp only [Bool.and_eq_true] at hb2
          have e0 := Nat.eq_of_beq_eq_true hb2.1
          have e1 := Nat.eq_of_beq_eq_true hb2.2
          subst e0
          exact key (by omega) xs (fun k c hk => .inl ⟨k, by omega, hk⟩) (lsetK_iff.1 h)
        · obtain ⟨hb2, h⟩ := ifB_iff.1 h
          have hle := Nat.le_of_ble_eq_true hb2
          refine key (by omega) _ (fun k c hk => ?_) (lsetK_iff.1 h)
          rcases Nat.lt_or_ge k off with hlt | hge
          · rw [List.getElem?_append_left (by simp; omega)] at hk
            rw [List.getElem?_take_of_lt hlt] at hk
            exact .inr ⟨.inl hlt, hk⟩
          · rw [List.getElem?_append_right (by simp; omega)] at hk
            have : (cs.take off).length = off := by simp; omega
            rw [this] at hk
            rcases Nat.lt_or_ge (k - off) xs.length with hlt2 | hge2
            · rw [List.getElem?_append_left hlt2] at hk
              exact .inl ⟨k - off, by omega, hk⟩
            · rw [List.getElem?_append_right hge2, List.getElem?_drop] at hk
              refine .inr ⟨.inr (by omega), ?_⟩
              rwa [show off + (tyOf P e).size + (k - off - xs.length) = k by omega] at hk
      · obtain ⟨hb, h⟩ := ifB_iff.1 h
        simp only [Bool.and_eq_true] at hb
        have hsz := Nat.eq_of_beq_eq_true hb.1
        have h1v := oneCell_sound hm hb.2 hx
        obtain ⟨hoff, h⟩ := setK_iff.1 h
        have hcells := oneV_cells h1v
        have hbound := hin off hoff
        refine ⟨_, _, run_storeVar (P := P) hi hh vx (by rw [hcells]; simp; omega) (by rw [hcells]; simp; omega) (fun k u hk => by
          rw [hcells] at hk
          match k with
          | 0 => simp at hk; subst hk; exact h1v
          | k + 1 => simp at hk), ?_, lsetK_iff.1 h⟩
        obtain ⟨h1, h2⟩ := heap_setCells (b := L.b) vx.cells.toList w (L.o + off) arr hh
        refine hm.rewrite hL hl rfl h2 ⟨L, _, E, (0, 0), hL, h1, by rw [setAll_size]; exact hN, fun _ => rfl, fun k c hk => ?_⟩
        rw [hcells]
        by_cases hko : k = off
        · subst hko
          rw [List.getElem?_set_self hoff] at hk; cases hk
          refine ⟨vx, ?_, hx, h1v⟩
          have := setAll_in [vx] arr (L.o + k) 0 (by simp; omega) (by simp)
          simpa using this
        · rw [List.getElem?_set_ne (Ne.symm hko)] at hk
          obtain ⟨x, h3, h4⟩ := hcs k c hk
          exact ⟨x, by rw [setAll_out _ _ _ _ (by simp; omega)]; exact h3, h4⟩
    · exact h.elim
  · rename_i id i f sz
    split at h
    · rename_i sz' rows hl
      have hz0 := (ifB_iff.1 h).1
      replace h := (ifB_iff.1 h).2
      have e0 := Nat.eq_of_beq_eq_true hz0
      subst e0
      have hob := hm.ob id
      rw [hl] at hob
      obtain ⟨L, arr, E, fz, hL, hh, hN, hfz, hz, hkn, hcs⟩ := hob
      have hfz := hfz rfl
      subst hfz
      have e0 := ha.pe_at hL; subst e0
      have hin : ∀ k, k < rows.flatten.length → L.o + k < arr.size := fun k hk => by
        obtain ⟨x, h1, _⟩ := hcs k rows.flatten[k] (List.getElem?_eq_getElem hk)
        exact (Array.getElem?_eq_some_iff.1 h1).1
      have hfl : rows.flatten.length = rows.length * sz := flatten_length hz
      /- row i becomes r', in which the cells from f on are the value's -/
      have key : ∀ (r r' : List C), rows[i]? = some r → r'.length = sz → 0 < vx.cells.size → f + vx.cells.size ≤ sz → vx.cells.size = ti.size → (∀ (k : Nat) u, vx.cells[k]? = some u → oneV u = true) →
          (∀ (k : Nat) c, r'[k]? = some c → (∃ j u, k = f + j ∧ vx.cells[j]? = some u ∧ Repr κ u c) ∨ ((k < f ∨ f + vx.cells.size ≤ k) ∧ r[k]? = some c)) →
          K (lset id (.row true sz (rows.set i r')) l) → Stores P G κ ρ w (Instr.storeAt e (.pointer (some ⟨L.b, L.o + (i * sz + f), none⟩)) vx) K := by
        intro r r' hr hr' hpos hle hsz hone hcell hK
        have hil := some_lt hr
        have hisz : i * sz + sz ≤ rows.length * sz := by
          have : (i + 1) * sz ≤ rows.length * sz := Nat.mul_le_mul_right _ hil
          rw [Nat.add_mul] at this; omega
        have hbound : L.o + (i * sz + f) + vx.cells.toList.length ≤ arr.size := by
          have := hin (i * sz + f + vx.cells.size - 1) (by omega)
          simp; omega
        refine ⟨_, _, run_storeVar (P := P) hi hh vx hsz (by simpa using hbound) hone, ?_, hK⟩
        obtain ⟨h1, h2⟩ := heap_setCells (b := L.b) vx.cells.toList w (L.o + (i * sz + f)) arr hh
        refine hm.rewrite hL hl rfl h2 ⟨L, _, E, (0, 0), hL, h1, by rw [setAll_size]; exact hN, fun _ => rfl, ?_, by simpa using hkn, fun k c hk => ?_⟩
        · intro q hq
          rcases List.mem_or_eq_of_mem_set hq with h | h
          · exact hz q h
          · rw [h]; exact hr'
        · have old : rows.flatten[k]? = some c → (k < i * sz + f ∨ i * sz + f + vx.cells.size ≤ k) → ∃ x, (setAll arr (L.o + (i * sz + f)) vx.cells.toList)[L.o + k]? = some x ∧ Repr κ x c ∧ oneV x = true := by
            intro hc hk
            obtain ⟨x, h3, h4⟩ := hcs k c hc
            exact ⟨x, by rw [setAll_out _ _ _ _ (by simp; omega)]; exact h3, h4⟩
          rcases flatten_set hr' hz hil k c hk with ⟨j, rfl, hj1, hj2⟩ | ⟨hk1, hk2⟩
          · rcases hcell j c hj2 with ⟨q, u, rfl, hu1, hu2⟩ | ⟨h5, h6⟩
            · have hq : q < vx.cells.size := (Array.getElem?_eq_some_iff.1 hu1).1
              refine ⟨u, ?_, hu2, hone q u hu1⟩
              rw [show L.o + (i * sz + (f + q)) = L.o + (i * sz + f) + q by omega, setAll_in _ _ _ _ hbound (by simpa using hq)]
              simpa using hu1
            · exact old (by rw [flatten_get hz hr j hj1]; exact h6) (by omega)
          · exact old hk2 (by omega)
      unfold setRowK at h
      split at h
      · rename_i xs
        split at h
        · rename_i cs hcs'
          obtain ⟨hb, hil, hKK⟩ := ifB_iff.1 h
          simp only [Bool.and_eq_true] at hb
          obtain ⟨⟨⟨⟨hb1, hb2⟩, hb3⟩, hb4⟩, hb5⟩ := hb
          have h0 : 0 < sz := Nat.le_of_ble_eq_true hb5
          have e1 := Nat.eq_of_beq_eq_true hb1
          have e2 := Nat.eq_of_beq_eq_true hb2
          have e3 := Nat.eq_of_beq_eq_true hb3
          subst e1
          obtain ⟨r1, r2, r3⟩ := cells_rowR hx (by simpa [cellsOf] using hcs') hb4
          have hvs : vx.cells.size = sz := by simp at r1; omega
          refine key rows[i] cs (List.getElem?_eq_getElem hil) e3 (by omega) (by omega) (by omega) (fun k u hk => r2 k u (by simpa using hk)) (fun k c hk => .inl ?_) (lsetK_iff.1 hKK)
          have hkl := some_lt hk
          have hkv : vx.cells[k]? = some (vx.cells[k]'(by omega)) := by simp
          exact ⟨k, _, by omega, hkv, r3 k _ c (by simp) hk⟩
        · exact h.elim
      · rename_i c
        obtain ⟨hb, r, hr, h⟩ := ifB_iff.1 h
        simp only [Bool.and_eq_true] at hb
        obtain ⟨⟨hb1, hb2⟩, hb3⟩ := hb
        have e1 := Nat.eq_of_beq_eq_true hb1
        have e2 : f < sz := Nat.le_of_ble_eq_true hb2
        have h1v := oneC_sound hb3 hx.repr
        have hcells := oneV_cells h1v
        have hrl : r.length = sz := hz r (List.mem_of_getElem? hr)
        refine key r (r.set f c) hr (by simpa using hrl) (by rw [hcells]; simp) (by rw [hcells]; simp; omega) (by rw [hcells]; simp; omega) (fun k u hk => by
          rw [hcells] at hk
          match k with
          | 0 => simp at hk; subst hk; exact h1v
          | k + 1 => simp at hk) (fun k c' hk => ?_) (lsetK_iff.1 h)
        by_cases hkf : k = f
        · subst hkf
          rw [List.getElem?_set_self (by omega)] at hk; cases hk
          exact .inl ⟨0, vx, rfl, by rw [hcells]; rfl, hx.repr⟩
        · rw [List.getElem?_set_ne (Ne.symm hkf)] at hk
          exact .inr ⟨by rw [hcells]; simp; omega, hk⟩
      · exact h.elim
    · exact h.elim
  · exact h.elim

end
end Go.V
/- The abstract machine is sound, part 10: appends. -/
namespace Go.V

theorem flatten_take {α : Type} {sz : Nat} : ∀ {rows : List (List α)} (n : Nat), (∀ r, r ∈ rows → r.length = sz) → (rows.take n).flatten = rows.flatten.take (n * sz)
  | [], n, _ => by simp
  | q :: rows, 0, _ => by simp
  | q :: rows, n + 1, hz => by
    have hq : q.length = sz := hz q (by simp)
    rw [List.take_succ_cons, List.flatten_cons, List.flatten_cons, flatten_take n (fun r hr => hz r (by simp [hr])), List.take_append, hq]
    rw [show (n + 1) * sz - sz = n * sz by rw [Nat.add_mul]; omega, List.take_of_length_le (l := q) (by rw [hq, Nat.add_mul]; omega)]

theorem flatten_drop {α : Type} {sz : Nat} : ∀ {rows : List (List α)} (n : Nat), (∀ r, r ∈ rows → r.length = sz) → (rows.drop n).flatten = rows.flatten.drop (n * sz)
  | [], n, _ => by simp
  | q :: rows, 0, _ => by simp
  | q :: rows, n + 1, hz => by
    have hq : q.length = sz := hz q (by simp)
    rw [List.drop_succ_cons, List.flatten_cons, flatten_drop n (fun r hr => hz r (by simp [hr])), List.drop_append, hq]
    rw [show (n + 1) * sz - sz = n * sz by rw [Nat.add_mul]; omega, List.drop_of_length_le (l := q) (by rw [hq, Nat.add_mul]; omega), List.nil_append]

theorem flatten_sub {α : Type} {sz : Nat} {rows : List (List α)} {lo n j : Nat} (hz : ∀ r, r ∈ rows → r.length = sz) (hj : j < n * sz) : ((rows.drop lo).take n).flatten[j]? = rows.flatten[lo * sz + j]? := by
  rw [flatten_take n (fun r hr => hz r (List.mem_of_mem_drop hr)), flatten_drop lo hz, List.getElem?_take_of_lt hj, List.getElem?_drop]

/-- A part of an array, by what is known of its cells. -/
theorem seg_exists {arr : Array Value} {o N : Nat} {p : Nat → Value → Prop} (h : ∀ j, j < N → ∃ x, arr[o + j]? = some x ∧ p j x) :
    ∃ xs : List Value, xs.length = N ∧ (0 < N → o + N ≤ arr.size) ∧ ∀ (j : Nat) x, xs[j]? = some x → arr[o + j]? = some x ∧ p j x := by
  have hb : 0 < N → o + N ≤ arr.size := fun hN => by
    obtain ⟨x, h1, _⟩ := h (N - 1) (by omega)
    have := (Array.getElem?_eq_some_iff.1 h1).1
    omega
  refine ⟨(arr.toList.drop o).take N, ?_, hb, fun j x hj => ?_⟩
  · rcases Nat.eq_zero_or_pos N with h0 | h0
    · subst h0; simp
    · have := hb h0; simp; omega
  · have hjN : j < N := by
      have := (List.getElem?_eq_some_iff.1 hj).1; simp at this; omega
    rw [List.getElem?_take_of_lt hjN, List.getElem?_drop] at hj
    obtain ⟨y, h1, h2⟩ := h j hjN
    have : arr[o + j]? = some x := by simpa using hj
    rw [this] at h1; cases h1
    exact ⟨this, h2⟩

section
variable {P : Program} {G : Ctx} {κ : Know} {ρ : Place} {t : TL} {l : LL} {a : Act} {w : World} {K : AV → TL → LL → Prop}

/-- The source of an append: its cells, which any world of this heap gives. -/
structure SrcR (P : Program) (κ : Know) (w : World) (size n : Nat) (vy : Value) (rows : List (List C)) (news : List Value) : Prop where
  len : ∀ w', (Builtin.lenOf vy).run P w' = .ok n w'
  cells : ∀ w', w'.heap = w.heap → (Builtin.firstCells size n vy).run P w' = .ok news.toArray w'
  nl : news.length = n * size
  rl : rows.length = n
  rz : ∀ r, r ∈ rows → r.length = size
  ok : CellsC κ news rows.flatten

theorem cell?_heap {w w' : World} (h : w'.heap = w.heap) (ad : Addr) : w'.cell? ad = w.cell? ad := by simp [World.cell?, h]

theorem srcK_sound {T : Ty} {y : AV} {vy : Value} {K : Nat → List (List C) → Prop} (hm : Mem G κ ρ l w) (h : srcK T y l K) (hy : AVR κ ρ vy y) : ∃ n rows news, K n rows ∧ SrcR P κ w T.esize n vy rows news := by
  unfold srcK at h
  split at h
  · rename_i id lo n s2
    split at h
    · rename_i m sz rows hl
      have hb := (ifB_iff.1 h).1
      replace h := (ifB_iff.1 h).2
      simp only [Bool.and_eq_true] at hb
      have e1 := Nat.eq_of_beq_eq_true hb.1
      have e2 := Nat.eq_of_beq_eq_true hb.2
      subst e2; subst e1
      obtain ⟨r, hr, hle, h⟩ := h
      have hob := hm.ob id
      rw [hl] at hob
      obtain ⟨L, arr, E, fz, hL, hh, hN, hfz, hz, hkn, hcs⟩ := hob
      obtain ⟨cap, A, rfl, hA, hc1, hc2, hc3⟩ := hy.ls_at hL
      have hrl : r.length = n := by rw [← hr]; simp; omega
      have hrz : ∀ q, q ∈ r → q.length = T.esize := fun q hq => hz q (by rw [← hr] at hq; exact List.mem_of_mem_drop (List.mem_of_mem_take hq))
      obtain ⟨news, h1, _, h3⟩ := seg_exists (arr := arr) (o := L.o + lo * T.esize) (N := n * T.esize) (p := fun j x => (∀ c, r.flatten[j]? = some c → Repr κ x c) ∧ oneV x = true) (fun j hj => by
        have hjl : j < r.flatten.length := by rw [flatten_length hrz, hrl]; exact hj
        have := flatten_sub (lo := lo) hz hj
        rw [hr, List.getElem?_eq_getElem hjl] at this
        obtain ⟨x, h5, h6, h7⟩ := hcs (lo * T.esize + j) _ this.symm
        refine ⟨x, by rw [Nat.add_assoc]; exact h5, fun c hc => ?_, h7⟩
        rw [List.getElem?_eq_getElem hjl] at hc; cases hc; exact h6)
      refine ⟨n, r, news, h, fun w' => rfl, fun w' hw' => ?_, h1, hrl, hrz, fun k v hk => (h3 k v hk).2.2, fun k v c hk hc => (h3 k v hk).2.1 c hc⟩
      rcases hA with rfl | h0
      · refine run_firstCells_some (P := P) w' T.esize n _ n cap news h1 (fun j v hj => ?_)
        rw [Addr.add_none, cell?_heap hw', cell_heap hh]
        exact (h3 j v hj).1
      · have hn0 : n = 0 := by omega
        subst hn0
        have : news = [] := List.eq_nil_of_length_eq_zero (by simpa using h1)
        subst this
        exact run_firstCells_some (P := P) w' T.esize 0 _ 0 cap [] (by simp) (by simp)
    · exact h.elim
  · rename_i rows
    obtain ⟨hz, h⟩ := h
    cases hy.repr with
    | nil => exact ⟨0, [], [], h, fun _ => rfl, fun w' _ => run_firstCells_none w' _ _ _ _, by simp, rfl, by simp, by simp, by simp⟩
    | none A cap =>
      refine ⟨0, [], [], h, fun _ => rfl, fun w' _ => ?_, by simp, rfl, by simp, by simp, by simp⟩
      cases A with
      | none => exact run_firstCells_none w' _ _ _ _
      | some A => exact run_firstCells_some (P := P) w' T.esize 0 _ 0 cap [] (by simp) (by simp)
    | sl b off n cap _ vs hn hc hk hr =>
      subst hn
      have hfl : rows.flatten.length = rows.length * T.esize := flatten_length hz
      refine ⟨rows.length, rows, (List.range (rows.length * T.esize)).map vs, h, fun _ => rfl, fun w' hw' => ?_, by simp, rfl, hz, fun k v hv => ?_, fun k v c hv hc => ?_⟩
      · refine run_firstCells_some (P := P) w' T.esize rows.length _ rows.length cap _ (by simp) (fun j v hj => ?_)
        simp only [List.getElem?_map, Option.map_eq_some_iff] at hj
        obtain ⟨q, h1, rfl⟩ := hj
        have hq : j < rows.length * T.esize ∧ q = j := by
          have := (List.getElem?_eq_some_iff.1 h1); obtain ⟨h2, h3⟩ := this; simp at h2 h3; omega
        obtain ⟨hq1, rfl⟩ := hq
        rw [Addr.add_none, cell?_heap hw']
        exact hm.kn _ _ _ (hk q _ (List.getElem?_eq_getElem (by omega)))
      all_goals
        simp only [List.getElem?_map, Option.map_eq_some_iff] at hv
        obtain ⟨q, h1, rfl⟩ := hv
        have hq : k < rows.length * T.esize ∧ q = k := by
          have := (List.getElem?_eq_some_iff.1 h1); obtain ⟨h2, h3⟩ := this; simp at h2 h3; omega
        obtain ⟨hq1, rfl⟩ := hq
      · exact hm.one _ _ _ (hk q _ (List.getElem?_eq_getElem (by omega)))
      · exact hr q c hc
  · have e := hy.val; subst e
    exact ⟨0, [], [], h, fun _ => rfl, fun w' _ => run_firstCells_none w' _ _ _ _, by simp, rfl, by simp, by simp, by simp⟩
  · rename_i s
    have e := hy.val; subst e
    obtain ⟨h1, h⟩ := ifB_iff.1 h
    have h1 := Nat.eq_of_beq_eq_true h1
    rw [h1]
    have hss : s.data.size = s.size := rfl
    refine ⟨s.size, _, s.data.toList.map fun b => .int .u8 b.toNat, h, fun _ => rfl, fun w' _ => ?_, by simp [hss], by simp [hss], ?_, fun k v hk => ?_, fun k v c hk hc => ?_⟩
    · simp only [Builtin.firstCells, Sem.run_pure]
      congr 1
      have : s.extract 0 s.size = s := by apply ByteArray.ext; simp
      rw [this]
      apply Array.ext'; simp
    · intro r hr
      simp only [List.mem_map] at hr
      obtain ⟨b, _, rfl⟩ := hr; rfl
    · simp only [List.getElem?_map, Option.map_eq_some_iff] at hk
      obtain ⟨b, _, rfl⟩ := hk; rfl
    · have hfl : ∀ xs : List UInt8, (xs.map fun b => [C.s (.int .u8 b.toNat)]).flatten = xs.map fun b => C.s (.int .u8 b.toNat) := by
        intro xs; induction xs with
        | nil => rfl
        | cons x r ih => simp [ih]
      rw [hfl] at hc
      simp only [List.getElem?_map, Option.map_eq_some_iff] at hk hc
      obtain ⟨b, h3, rfl⟩ := hk
      obtain ⟨b', h4, rfl⟩ := hc
      rw [h3] at h4; cases h4
      exact .s _
  · exact h.elim

theorem lget_lrem {i : Nat} : ∀ {l : LL} (j : Nat), lget j (lrem i l) = if j = i then .no else lget j l
  | [], j => by simp [lrem, lget]
  | (k, x) :: r, j => by
    have e : lrem i ((k, x) :: r) = if i = k then lrem i r else (k, x) :: lrem i r := by
      show (bif Nat.beq i k then lrem i r else (k, x) :: lrem i r) = _
      by_cases h : i = k
      · subst h; simp
      · have : Nat.beq i k = false := Bool.eq_false_iff.2 fun e => h (Nat.eq_of_beq_eq_true e)
        simp [this, h]
    rw [e]
    by_cases hik : i = k
    · subst hik
      rw [if_pos rfl, lget_lrem j, lget_cons]
      by_cases hj : j = i <;> simp [hj]
    · rw [if_neg hik, lget_cons, lget_cons, lget_lrem j]
      by_cases hjk : j = k
      · subst hjk; simp [Ne.symm hik]
      · simp [hjk]

theorem get_dropM {k : Nat} : ∀ {t : TL} (i : Nat), get i (dropM k t) = if AV.ment k (get i t) then .j else get i t
  | [], i => rfl
  | (j, x) :: r, i => by
    have e : dropM k ((j, x) :: r) = (j, if AV.ment k x then .j else x) :: dropM k r := by
      show (match AV.ment k x with | true => (j, AV.j) :: dropM k r | false => (j, x) :: dropM k r) = _
      cases AV.ment k x <;> rfl
    rw [e, get_cons, get_cons]
    split
    · rfl
    · exact get_dropM i

/-- A name is given up. -/
theorem Rel.drop (hr : Rel G κ ρ t l a w) (id : Nat) : Rel G κ (ρ.put id none) (dropM id t) (lrem id l) a w := by
  obtain ⟨hm, hdf, hsz, htm⟩ := hr
  have hp : ∀ {i L}, (ρ.put id none) i = some L → i ≠ id ∧ ρ i = some L := fun {i L} h => by
    unfold Place.put at h; split at h
    · cases h
    · rename_i hne; exact ⟨hne, h⟩
  refine ⟨⟨fun i => ?_, fun i j Li Lj hij hi hj hw => ?_, fun i L hi hw => ?_, hm.kn, hm.one, hm.kn0, hm.fr, fun i L hi h => hm.par i L hi (hp h).2⟩, hdf, hsz, fun i => ?_⟩
  · rw [lget_lrem]; split
    · rename_i e; subst e; exact put_self _ _
    · rename_i hne
      refine (hm.ob i).move (Know.le_refl _) (if_neg hne) (fun _ _ => rfl) (fun _ _ _ _ _ _ _ h => h.gone)
  · obtain ⟨h1, h2⟩ := hp hi
    rw [lget_lrem, if_neg h1] at hw
    exact hm.sep i j Li Lj hij h2 (hp hj).2 hw
  · obtain ⟨h1, h2⟩ := hp hi
    rw [lget_lrem, if_neg h1] at hw
    exact hm.fre i L h2 hw
  · rw [get_dropM]; split
    · exact .j _
    · exact (htm i).gone

theorem run_append {ts tx ty el : TypeId} {ei : TypeInfo} {ux : TypeDesc} {z : Value} (hu : P.underlying ts = some (.slice el)) (hux : P.underlying tx = some ux) (hxi : ∀ k, ux ≠ .int k) (hei : P.info? el = some ei) (hz : ei.zero = some z)
    {base : Option Addr} {n cap : Nat} {vy : Value} {n2 : Nat} {rows : List (List C)} {news olds : List Value} (hs : SrcR P κ w ei.size n2 vy rows news) 
    (ho : (Builtin.firstCells ei.size n (.slice base n cap)).run P w.drew = .ok olds.toArray w.drew) (hbig : (n + n2) * ei.bytes ≤ 2 ^ 45) (hbp : 0 < ei.bytes) :
    (n + n2 ≤ cap ∧ (Builtin.append_ #[ts, tx] ty #[.slice base n cap, vy]).run P w = Result.andThen ((match base with | some ad => storeCells (ad.add (n * ei.size)) news | none => Pure.pure () : Sem Unit).run P w) (fun _ w' => .ok (.slice base (n + n2) cap) w')) ∨
    (∃ cap', n + n2 ≤ cap' ∧ cap < n + n2 ∧ (Builtin.append_ #[ts, tx] ty #[.slice base n cap, vy]).run P w = .ok (.slice (some ⟨w.heap.size, 0, none⟩) (n + n2) cap') (w.drew.alloc (.cells (olds.toArray ++ news.toArray ++ Builtin.zeroCells z.cells (cap' - (n + n2))) el))) := by
  have hzf : (match ux with | .int _ => true | _ => false) = false := by
    cases ux <;> first | rfl | (rename_i k; exact absurd rfl (hxi k))
  have hsz : n + n2 ≤ 2 ^ 45 := by
    have : (n + n2) * 1 ≤ (n + n2) * ei.bytes := Nat.mul_le_mul_left _ hbp
    omega
  have hlen := hs.len
  have hcl := hs.cells w rfl
  have hcl' := hs.cells w.drew rfl
  by_cases hc : n + n2 ≤ cap
  · left
    refine ⟨hc, ?_⟩
    simp [Builtin.append_, run_underlying hu, run_underlying hux, sizeOf, typeInfo, hei, hlen, hc, hcl]
    cases base with
    | none => rfl
    | some ad =>
      show ((fun _ => Value.slice (some ad) (n + n2) cap) <$> storeCells (ad.add (n * ei.size)) news).run P w = _
      rw [Sem.run_map]
  · right
    have h48' : ¬ (281474976710656 < Builtin.nextslicecap (n + n2) cap * ei.bytes) := by
      have := growslice_fits (need := n + n2) (old := cap) (bytes := ei.bytes) (by omega) (by omega)
      omega
    have h63' : ¬ (9223372036854775807 < ((n : Int) + (n2 : Int))) := by omega
    refine ⟨grownCap w (n + n2) cap el, grownCap_ge _ _ _ _, by omega, ?_⟩
    simp [Builtin.append_, run_underlying hu, run_underlying hux, sizeOf, typeInfo, zeroValue, hei, hz, hlen, hc, hcl', ho, h63', h48', Question.forced, newRow, grownCap]
    congr 2
    apply Array.ext'
    simp [List.append_assoc]

theorem row_get {rows : List (List C)} {sz n : Nat} (hz : ∀ r, r ∈ rows → r.length = sz) (hn : rows.length = n) {j : Nat} {c : C} (h : rows.flatten[j]? = some c) : j < n * sz := by
  have := (List.getElem?_eq_some_iff.1 h).1
  rw [flatten_length hz, hn] at this; exact this

/-- A new block, in a world where something was drawn too. -/
theorem newK_drew {dst : Option Nat} {x : Nat → AV} {o : Ob} (hr : Rel G κ ρ t l a w) (h : newK dst x o t l K) {arr : Array Value} {E : TypeId} {kn : Nat} {v : Value} {r : Result Value}
    (hrun : r = .ok v (w.drew.alloc (.cells arr E)))
    (ho : ∀ k, tment k t = false → lment k l = false → ObR κ (ρ.put k (some ⟨w.heap.size, 0, arr.size, kn⟩)) (w.drew.alloc (.cells arr E)) k o ∧ AVR κ (ρ.put k (some ⟨w.heap.size, 0, arr.size, kn⟩)) v (x k)) :
    Goes G κ a r K := by
  unfold newK at h
  split at h
  · rename_i k
    split at h
    · rename_i hm
      simp only [Bool.or_eq_false_iff] at hm
      obtain ⟨h1, h2⟩ := ho k hm.1.1 hm.1.2
      exact ⟨v, _, κ, _, x k, t, _, hrun, Know.le_refl _, hr.alloc hm.1.1 hm.1.2 (small hm.2) (w.drew.alloc (.cells arr E)) rfl rfl rfl rfl h1, h2, h⟩
    · exact h.elim
  · exact h.elim

theorem grown_row {k : Nat} {el : TypeId} {z : Value} {sz n cap' : Nat} {rows : List (List C)} {vals : List Value} (hz : ∀ r, r ∈ rows → r.length = sz) (hn : rows.length = n) (hvl : vals.length = n * sz) (hc : n ≤ cap') (hzs : z.cells.size = sz)
    (hok : CellsC κ vals rows.flatten) (arr : Array Value) (harr : arr = vals.toArray ++ Builtin.zeroCells z.cells (cap' - n)) :
    ObR κ (ρ.put k (some ⟨w.heap.size, 0, arr.size, n⟩)) (w.drew.alloc (.cells arr el)) k (.row true sz rows) ∧ AVR κ (ρ.put k (some ⟨w.heap.size, 0, arr.size, n⟩)) (.slice (some ⟨w.heap.size, 0, none⟩) n cap') (.ls k 0 n sz) := by
  have hsize : arr.size = cap' * sz := by
    rw [harr]; simp only [Array.size_append, List.size_toArray, hvl, size_zeroCells, hzs]
    rw [← Nat.add_mul]; congr 1; omega
  refine row_new (heap_push_self _ _) hz hn hc hsize fun j c hcj => ?_
  have hj := row_get hz hn hcj
  have hjv : j < vals.length := by omega
  refine ⟨vals[j], ?_, hok.2 j _ c (by simp) hcj, hok.1 j _ (by simp)⟩
  rw [harr, Array.getElem?_append_left (by simpa using hjv)]
  simp

theorem CellsC.append {xs ys : List Value} {cs ds : List C} (h : CellsC κ xs cs) (h' : CellsC κ ys ds) (hl : xs.length = cs.length) : CellsC κ (xs ++ ys) (cs ++ ds) := by
  refine ⟨fun k v hk => ?_, fun k v c hk hc => ?_⟩
  · rcases Nat.lt_or_ge k xs.length with hlt | hge
    · rw [List.getElem?_append_left hlt] at hk; exact h.1 k v hk
    · rw [List.getElem?_append_right hge] at hk; exact h'.1 _ v hk
  · rcases Nat.lt_or_ge k xs.length with hlt | hge
    · rw [List.getElem?_append_left hlt] at hk
      rw [List.getElem?_append_left (by omega)] at hc
      exact h.2 k v c hk hc
    · rw [List.getElem?_append_right hge] at hk
      rw [List.getElem?_append_right (by omega), ← hl] at hc
      exact h'.2 _ v c hk hc

theorem appK_sound {ts tx tyy : TypeId} {dst : Option Nat} {x y : AV} {vx vy : Value} (hr : Rel G κ ρ t l a w) (h : appK (tyOf P ts) (tyOf P tx).sh dst x y t l K) (hx : AVR κ ρ vx x) (hy : AVR κ ρ vy y) :
    Goes G κ a ((Builtin.append_ #[ts, tx] tyy #[vx, vy]).run P w) K := by
  unfold appK at h
  split at h
  · exact h.elim
  rename_i k
  have hb := (ifB_iff.1 h).1
  replace h := (ifB_iff.1 h).2
  simp only [Bool.and_eq_true, Bool.or_eq_true] at hb
  obtain ⟨⟨⟨⟨hs, hez⟩, hep⟩, hebp⟩, hsh⟩ := hb
  have hez := Nat.eq_of_beq_eq_true hez
  have hep := Nat.le_of_ble_eq_true hep
  have hebp : 0 < (tyOf P ts).ebytes := Nat.le_of_ble_eq_true hebp
  obtain ⟨el, ei, hu, hei, hes, heb, hezo⟩ := tyOf_slice hs
  obtain ⟨z, hzv, hcl⟩ := zero_some (z := ei.zero) rfl (by rw [← hezo]; exact hep)
  have hzs : z.cells.size = ei.size := by rw [← hes, ← hez, hezo, ← hcl]; simp
  obtain ⟨ux, hux, hxi⟩ : ∃ ux, P.underlying tx = some ux ∧ ∀ k, ux ≠ .int k := by
    rcases hsh with h3 | h4
    · exact ⟨_, tyOf_string h3, by intro k e; cases e⟩
    · obtain ⟨e', _, hu', _⟩ := tyOf_slice h4
      exact ⟨_, hu', by intro k e; cases e⟩
  obtain ⟨n2, r2, news, hK, hsrc⟩ := srcK_sound (P := P) hr.m h hy
  clear h
  have h := hK; clear hK
  rw [heb] at h hebp
  rw [hes] at h hsrc
  have hr2 := hsrc.rz
  have hfl2 : r2.flatten.length = n2 * ei.size := by rw [flatten_length hr2, hsrc.rl]
  split at h
  · have e := hx.val; subst e
    have ht := h.t
    have hf := h.f
    clear h
    cases hn2 : Nat.beq n2 0 with
    | true =>
      have e0 := Nat.eq_of_beq_eq_true hn2
      subst e0
      refine ⟨.slice none 0 0, w, κ, ρ, _, t, l, ?_, Know.le_refl _, hr, .d _ _ (.s _), ht hn2⟩
      rcases run_append (ty := tyy) (base := none) (n := 0) (cap := 0) (olds := []) hu hux hxi hei hzv hsrc (run_firstCells_none _ _ _ _ _) (by omega) hebp with ⟨_, h1⟩ | ⟨_, _, h2, _⟩
      · rw [h1]; rfl
      · omega
    | false =>
      obtain ⟨hbig, h⟩ := hf hn2
      have hn0 : n2 ≠ 0 := fun e => by subst e; simp at hn2
      rcases run_append (ty := tyy) (base := none) (n := 0) (cap := 0) (olds := []) hu hux hxi hei hzv hsrc (run_firstCells_none _ _ _ _ _) (by rw [Nat.zero_add]; exact hbig) hebp with ⟨h0, _⟩ | ⟨cap', h1, _, h3⟩
      · omega
      · rw [Nat.zero_add] at h1 h3
        refine newK_drew (kn := n2) hr h h3 fun k _ _ => ?_
        exact grown_row (vals := news) hr2 hsrc.rl hsrc.nl h1 hzs hsrc.ok _ (by simp)
  · rename_i id lo n sz
    split at h
    · rename_i sz' rows hl
      have hb := (ifB_iff.1 h).1
      replace h := (ifB_iff.1 h).2
      simp only [Bool.and_eq_true] at hb
      have e1 := Nat.eq_of_beq_eq_true hb.1
      have e2 := Nat.eq_of_beq_eq_true hb.2
      subst e1
      subst e2
      obtain ⟨r1, hr1, hle, hbig, h⟩ := h
      have hob := hr.m.ob id
      rw [hl] at hob
      obtain ⟨L, arr, E, fz, hL, hh, hN, hfz, hz, hkn, hcs⟩ := hob
      have hfz := hfz rfl
      subst hfz
      obtain ⟨cap, A, rfl, hA, hc1, hc2, hc3⟩ := hx.ls_at hL
      have hr1l : r1.length = n := by rw [← hr1]; simp; omega
      have hr1z : ∀ q, q ∈ r1 → q.length = ei.size := fun q hq => hz q (by rw [← hr1] at hq; exact List.mem_of_mem_drop (List.mem_of_mem_take hq))
      have hr12 : ∀ q, q ∈ r1 ++ r2 → q.length = ei.size := fun q hq => (List.mem_append.1 hq).elim (hr1z q) (hr2 q)
      have hl12 : (r1 ++ r2).length = n + n2 := by rw [List.length_append, hr1l, hsrc.rl]
      have hfl1 : r1.flatten.length = n * ei.size := by rw [flatten_length hr1z, hr1l]
      obtain ⟨olds, h1, hob, h3⟩ := seg_exists (arr := arr) (o := L.o + lo * ei.size) (N := n * ei.size) (p := fun j x => (∀ c, r1.flatten[j]? = some c → Repr κ x c) ∧ oneV x = true) (fun j hj => by
        have hjl : j < r1.flatten.length := by rw [hfl1]; exact hj
        have := flatten_sub (lo := lo) hz hj
        rw [hr1, List.getElem?_eq_getElem hjl] at this
        obtain ⟨x, h5, h6, h7⟩ := hcs (lo * ei.size + j) _ this.symm
        refine ⟨x, by rw [Nat.add_assoc]; exact h5, fun c hc => ?_, h7⟩
        rw [List.getElem?_eq_getElem hjl] at hc; cases hc; exact h6)
      have hoc : CellsC κ olds r1.flatten := ⟨fun k v hk => (h3 k v hk).2.2, fun k v c hk hc => (h3 k v hk).2.1 c hc⟩
      have hof : (Builtin.firstCells ei.size n (.slice (some A) n cap)).run P w.drew = .ok olds.toArray w.drew := by
        rcases hA with rfl | h0
        · refine run_firstCells_some (P := P) w.drew ei.size n _ n cap olds h1 (fun j v hj => ?_)
          rw [Addr.add_none, cell?_heap (by rfl : w.drew.heap = w.heap), cell_heap hh]
          exact (h3 j v hj).1
        · have hn0 : n = 0 := by omega
          subst hn0
          have : olds = [] := List.eq_nil_of_length_eq_zero (by simpa using h1)
          subst this
          exact run_firstCells_some (P := P) w.drew ei.size 0 _ 0 cap [] (by simp) (by simp)
      have hrd := hr.drop id
      rcases run_append (ty := tyy) (base := some A) hu hux hxi hei hzv hsrc hof hbig hebp with ⟨hin, h4⟩ | ⟨cap', h5, _, h6⟩
      · -- in place
        have hfit : 0 < n2 → L.o + lo * ei.size + n * ei.size + news.length ≤ arr.size := fun _ => by
          have e : (lo + cap) * ei.size = lo * ei.size + cap * ei.size := Nat.add_mul _ _ _
          have e' : (n + n2) * ei.size ≤ cap * ei.size := Nat.mul_le_mul_right _ hin
          have e'' : (n + n2) * ei.size = n * ei.size + n2 * ei.size := Nat.add_mul _ _ _
          rw [hsrc.nl]; omega
        have hstore : ∃ w' arr', (storeCells (A.add (n * ei.size)) news).run P w = .ok () w' ∧ ButB w w' L.b ∧ w'.heap[L.b]? = some (.cells arr' E (0, 0)) ∧ arr'.size = arr.size ∧
            (∀ (j : Nat) v, (olds ++ news)[j]? = some v → arr'[L.o + lo * ei.size + j]? = some v) := by
          rcases Nat.eq_zero_or_pos n2 with h0 | hp
          · subst h0
            have : news = [] := List.eq_nil_of_length_eq_zero (by rw [hsrc.nl]; simp)
            subst this
            exact ⟨w, arr, rfl, ButB.refl _ _, hh, rfl, fun j v hj => (h3 j v (by simpa using hj)).1⟩
          · have hA' : A = ⟨L.b, L.o + lo * ei.size, none⟩ := hA.resolve_right (by omega)
            subst hA'
            have hfit := hfit hp
            have hrs := run_storeCells' (P := P) (o := L.o + lo * ei.size + n * ei.size) hh news hfit hsrc.ok.1
            obtain ⟨h7, h8⟩ := heap_setCells (b := L.b) news w (L.o + lo * ei.size + n * ei.size) arr hh
            refine ⟨_, _, by rw [Addr.add_none]; exact hrs, h8, h7, setAll_size _ _ _, fun j v hj => ?_⟩
            rcases Nat.lt_or_ge j olds.length with hlt | hge
            · rw [List.getElem?_append_left hlt] at hj
              rw [setAll_out _ _ _ _ (by omega)]
              exact (h3 j v hj).1
            · rw [List.getElem?_append_right hge] at hj
              have hjn := (List.getElem?_eq_some_iff.1 hj).1
              have := setAll_in news arr (L.o + lo * ei.size + n * ei.size) (j - olds.length) hfit hjn
              rw [show L.o + lo * ei.size + n * ei.size + (j - olds.length) = L.o + lo * ei.size + j by omega] at this
              rw [this]; exact hj
        obtain ⟨w', arr', hs1, hs2, hs3, hs4, hs5⟩ := hstore
        simp only [hs1, Result.andThen_ok] at h4
        have hok := hoc.append hsrc.ok (by rw [h1, hfl1])
        unfold newK at h
        simp only at h
        split at h
        · rename_i hmm
          simp only [Bool.or_eq_false_iff] at hmm
          obtain ⟨hmm, hsm⟩ := hmm
          have hsm := small hsm
          obtain ⟨hl1, hl2⟩ := lment_get hmm.2
          obtain ⟨f1, f2⟩ := hr.m.fre id L hL (by rw [hl]; rfl)
          have hne : ∀ {j Lj}, (ρ.put id none) j = some Lj → j ≠ id ∧ ρ j = some Lj := fun {j Lj} h => by
            unfold Place.put at h; split at h
            · cases h
            · rename_i hne; exact ⟨hne, h⟩
          let L' : Loc := ⟨L.b, L.o + lo * ei.size, L.N, n + n2⟩
          have hkρ : ∀ j, j ≠ k → ((ρ.put id none).put k (some L')) j = (ρ.put id none) j := fun j hj => if_neg hj
          have hm' : Mem G κ ((ρ.put id none).put k (some L')) ((k, .row true ei.size (r1 ++ r2)) :: lrem id l) w' := by
            refine hrd.m.change (k := k) hs2 (fun j Lj hj hLj => ?_) f1 f2 (fun j hj => .inl (hkρ j hj)) (fun j hj => .inl (by rw [lget_cons, if_neg hj])) (fun L1 h => by rw [put_self] at h; cases h; rfl) ?_ (by rw [lget_cons, if_pos rfl]) ?_ (fun L hi _ => by omega)
            · obtain ⟨g1, g2⟩ := hne hLj
              exact Ne.symm (hr.m.sep id j L Lj (Ne.symm g1) hL g2 (by rw [hl]; rfl))
            · intro v x j m cs hb hx hv
              have := hl2 j m cs hb
              obtain ⟨i, hi⟩ := List.mem_iff_getElem?.1 hx
              exact hv.put (ments_get this i x hi)
            · refine ⟨L', arr', E, (0, 0), put_self _ _, hs3, by rw [hs4]; exact hN, fun _ => rfl, hr12, by rw [hl12]; exact Nat.le_refl _, fun j c hc => ?_⟩
              have hj := row_get hr12 hl12 hc
              have hjl : j < (olds ++ news).length := by rw [List.length_append, h1, hsrc.nl, ← Nat.add_mul]; exact hj
              rw [List.flatten_append] at hc
              exact ⟨(olds ++ news)[j], hs5 j _ (by simp), hok.2 j _ c (by simp) hc, hok.1 j _ (by simp)⟩
          refine ⟨_, w', κ, _, _, _, _, h4, Know.le_refl _, ⟨hm', hrd.df, hrd.sz, fun i => (hrd.tm i).put (tment_get hmm.1 i)⟩, ?_, h⟩
          refine .ls _ _ _ _ _ fun L1 hL1 => ?_
          rw [put_self] at hL1; cases hL1
          refine ⟨cap, A, rfl, ?_, hin, ?_, by simpa [L'] using hin⟩
          · rcases hA with rfl | h0
            · left; simp [L']
            · exact .inr h0
          · have e : (lo + cap) * ei.size = lo * ei.size + cap * ei.size := Nat.add_mul _ _ _
            simp only [L', Nat.zero_add]; omega
        · exact h.elim
      · refine newK_drew (kn := n + n2) hrd h h6 fun k _ _ => ?_
        refine grown_row (vals := olds ++ news) hr12 hl12 (by rw [List.length_append, h1, hsrc.nl, Nat.add_mul]) h5 hzs ?_ _ (by simp)
        rw [List.flatten_append]
        exact hoc.append hsrc.ok (by rw [h1, hfl1])
    · exact h.elim
  · exact h.elim

end
end Go.V
/- The abstract machine is sound, part 11: an operation. -/
namespace Go.V

/-- The types' facts, where they are told, are the program's. -/
def TyOk (P : Program) (ty : TypeId → Ty) : Prop := ∀ i, okT (ty i) = true → ty i = tyOf P i

section
variable {P : Program} {G : Ctx} {κ : Know} {ρ : Place} {t : TL} {l : LL} {a : Act} {w : World} {K : AV → TL → LL → Prop}

/-- What is so behind an operation. -/
def After (G : Ctx) (κ : Know) (a : Act) (K : AV → TL → LL → Prop) (v : Value) (w' : World) : Prop :=
  ∃ κ' ρ' x t' l', κ.le κ' ∧ Rel G κ' ρ' t' l' a w' ∧ AVR κ' ρ' v x ∧ K x t' l'

def OpGoes (P : Program) (G : Ctx) (κ : Know) (a : Act) (K : AV → TL → LL → Prop) : Result Next → Prop
  | .ok (.value v) w' => After G κ a K v w'
  | .ok .skip w' => After G κ a K undef w'
  | .ok (.enter f args) w' => Calls P f args w' fun e w'' => ∃ v, e = .returned v ∧ After G κ a K v w''
  | _ => False

theorem Pure.goes {s : Sem Value} (hr : Rel G κ ρ t l a w) (h : Pure P κ ρ w s fun v => K v t l) : OpGoes P G κ a K ((do pure (.value (← s)) : Sem Next).run P w) := by
  obtain ⟨v, x, h1, h2, h3⟩ := h
  simp only [Sem.run_bind, h1, Result.andThen_ok, Sem.run_pure]
  exact ⟨κ, ρ, x, t, l, Know.le_refl _, hr, h2, h3⟩

theorem Goes.goes {s : Sem Value} (h : Goes G κ a (s.run P w) K) : OpGoes P G κ a K ((do pure (.value (← s)) : Sem Next).run P w) := by
  obtain ⟨v, w', κ', ρ', x, t', l', h1, h2, h3, h4, h5⟩ := h
  simp only [Sem.run_bind, h1, Result.andThen_ok, Sem.run_pure]
  exact ⟨κ', ρ', x, t', l', h2, h3, h4, h5⟩

theorem goes_then {s : Sem Value} (h : OpGoes P G κ a K ((do pure (.value (← s)) : Sem Next).run P w)) : OpGoes P G κ a K ((s.run P w).andThen fun a w' => Result.ok (Next.value a) w') := by
  simpa only [Sem.run_bind, Sem.run_pure] using h

theorem evs_get {t : TL} : ∀ {xs : List Operand} (i : Nat) o, xs[i]? = some o → (evs t xs)[i]? = some (ev t o)
  | [], i, o, h => by simp at h
  | x :: r, 0, o, h => by simp at h; subst h; rfl
  | x :: r, i + 1, o, h => by simpa [evs] using evs_get (xs := r) i o (by simpa using h)
theorem evs_length {t : TL} : ∀ {xs : List Operand}, (evs t xs).length = xs.length
  | [] => rfl
  | _ :: r => by simp [evs, evs_length (xs := r)]
theorem evps_length {t : TL} : ∀ {xs : List (Nat × Operand)}, (evps t xs).length = xs.length
  | [] => rfl
  | _ :: r => by simp [evps, evps_length (xs := r)]
theorem evps_get {t : TL} : ∀ {xs : List (Nat × Operand)} (i : Nat) j x, (evps t xs)[i]? = some (j, x) → ∃ o, xs[i]? = some (j, o) ∧ x = ev t o
  | [], i, j, x, h => by simp [evps] at h
  | (k, o) :: r, 0, j, x, h => by simp [evps] at h; obtain ⟨rfl, rfl⟩ := h; exact ⟨o, rfl, rfl⟩
  | (k, o) :: r, i + 1, j, x, h => by simpa using evps_get (xs := r) i j x (by simpa [evps] using h)

theorem okT_of_sh {T : Ty} {n : Nat} (h : Nat.beq T.sh n = true) (hn : n < 99) : okT T = true := by
  have := Nat.eq_of_beq_eq_true h
  exact Nat.ble_eq_true_of_le (by omega)

theorem parts_rel (hr : Rel G κ ρ t l a w) (ps : Array (Nat × Operand)) : (evps t ps.toList).length = (ps.map fun (i, x) => (i, a.eval x)).size ∧
    ∀ (k : Nat) i x j v, (evps t ps.toList)[k]? = some (i, x) → (ps.map fun (i, x) => (i, a.eval x))[k]? = some (j, v) → i = j ∧ AVR κ ρ v x := by
  refine ⟨by simp [evps_length], fun k i x j v h1 h2 => ?_⟩
  obtain ⟨o, h3, rfl⟩ := evps_get k i x h1
  have h3' : ps[k]? = some (i, o) := by simpa using h3
  simp [h3'] at h2
  obtain ⟨rfl, rfl⟩ := h2
  exact ⟨rfl, hr.ev o⟩

theorem optK_iff {x : Option Operand} {K : Option AV → Prop} : optK t x K ↔ K (x.map (ev t)) := by
  cases x with
  | none => exact Iff.rfl
  | some x => simp [optK, evK_iff]

theorem opt_rel (hr : Rel G κ ρ t l a w) (x : Option Operand) : (∀ b, x.map (ev t) = some b → ∃ v, x.map a.eval = some v ∧ AVR κ ρ v b) ∧ (x.map (ev t) = none → x.map a.eval = none) := by
  cases x with
  | none => simp
  | some x => exact ⟨fun b hb => by simp at hb; subst hb; exact ⟨_, rfl, hr.ev x⟩, by simp⟩

theorem map_one {args : Array Operand} {x : AV} (f : Operand → Value) (h : evs t args.toList = [x]) : ∃ o, args.map f = #[f o] ∧ x = ev t o := by
  obtain ⟨xs⟩ := args
  match xs, h with
  | [o], h => simp [evs] at h; exact ⟨o, by simp, h.symm⟩
theorem map_two {args : Array Operand} {x y : AV} (f : Operand → Value) (h : evs t args.toList = [x, y]) : ∃ o p, args.map f = #[f o, f p] ∧ x = ev t o ∧ y = ev t p := by
  obtain ⟨xs⟩ := args
  match xs, h with
  | [o, p], h => simp [evs] at h; exact ⟨o, p, by simp, h.1.symm, h.2.symm⟩

theorem vcOp_sound {ty : TypeId → Ty} (hty : TyOk P ty) {o : Oper} (hr : Rel G κ ρ t l a w) (h : vcOp P ty o.op o.dst t l K) : OpGoes P G κ a K ((execOp a.eval o).run P w) := by
  unfold vcOp at h
  split at h
  all_goals rename_i hop
  · -- move
    have := evK_iff.1 h
    simp only [execOp, hop, Sem.run_pure]
    exact ⟨κ, ρ, _, t, l, Know.le_refl _, hr, hr.ev _, this⟩
  · have := evK_iff.1 h
    simp only [execOp, hop, Sem.run_pure]
    exact ⟨κ, ρ, _, t, l, Know.le_refl _, hr, hr.ev _, this⟩
  · -- pick
    rename_i c x y
    have h := evK_iff.1 h
    have hc := hr.ev c
    split at h
    · rename_i e; rw [e] at hc
      have := evK_iff.1 h
      simp only [execOp, hop, hc.val, asBool, Sem.run_bind, Sem.run_pure, Result.andThen_ok, if_true]
      exact ⟨κ, ρ, _, t, l, Know.le_refl _, hr, hr.ev _, this⟩
    · rename_i e; rw [e] at hc
      have := evK_iff.1 h
      simp only [execOp, hop, hc.val, asBool, Sem.run_bind, Sem.run_pure, Result.andThen_ok, Bool.false_eq_true, if_false]
      exact ⟨κ, ρ, _, t, l, Know.le_refl _, hr, hr.ev _, this⟩
    · exact h.elim
  · -- alloc
    obtain ⟨hb, h⟩ := ifB_iff.1 h
    rw [hty _ hb] at h hb
    simp only [execOp, hop]
    exact (allocK_sound hr hb h).goes
  · -- box
    have h := evK_iff.1 h
    simp only [execOp, hop]
    exact (boxK_sound hr h (hr.ev _) (fun k hk => ev_ment hk _)).goes
  · -- build
    rename_i e ps
    obtain ⟨hb, h⟩ := ifB_iff.1 h
    have hok : okT (ty e) = true := by
      have hb := hb
      simp only [okS, Bool.and_eq_true] at hb
      exact okT_of_sh hb.1.1.1 (by decide)
    rw [hty _ hok] at h hb
    have h := partsK_iff.1 h
    obtain ⟨h1, h2⟩ := parts_rel hr ps
    simp only [execOp, hop]
    exact (buildK_sound hr.m hb h h1 h2).goes hr
  · -- buildSlice
    rename_i e n ps
    have h := partsK_iff.1 h
    have hok : okT (ty e) = true := by
      have := (ifB_iff.1 h).1
      simp only [Bool.and_eq_true] at this
      exact okT_of_sh this.1.1.1.1 (by decide)
    rw [hty _ hok] at h
    obtain ⟨h1, h2⟩ := parts_rel hr ps
    simp only [execOp, hop]
    exact (buildSliceK_sound hr h h1 h2).goes
  · -- load
    have h := evK_iff.1 h
    obtain ⟨hb, h⟩ := ifB_iff.1 h
    rw [hty _ hb] at h hb
    simp only [execOp, hop]
    exact (loadK_sound hr.m hb h (hr.ev _)).goes hr
  · -- store
    have h := evK_iff.1 h
    have h := evK_iff.1 h
    obtain ⟨hb, h⟩ := ifB_iff.1 h
    rw [hty _ hb] at h hb
    obtain ⟨w', l', h1, h2, h3⟩ := storeK_sound hr.m hb h (hr.ev _) (hr.ev _)
    simp only [execOp, hop, Sem.run_bind, h1, Result.andThen_ok, Sem.run_pure]
    exact ⟨κ, ρ, .j, t, l', Know.le_refl _, ⟨h2, hr.df, hr.sz, hr.tm⟩, .j _, h3⟩
  · -- nilCheck
    have h := evK_iff.1 h
    obtain ⟨v, x, h1, h2, h3⟩ := nilK_sound (P := P) hr.m h (hr.ev _) o hop a rfl
    rw [h1]
    exact ⟨κ, ρ, _, t, l, Know.le_refl _, hr, h2, h3⟩
  · -- binOp
    have h := evK_iff.1 h
    have h := evK_iff.1 h
    obtain ⟨hb, h⟩ := ifB_iff.1 h
    rw [hty _ hb] at h hb
    simp only [execOp, hop]
    exact (binK_sound h (hr.ev _) (hr.ev _)).goes hr
  · -- unOp
    have h := evK_iff.1 h
    simp only [execOp, hop]
    exact (unK_sound h (hr.ev _)).goes hr
  · -- convert
    rename_i e b x
    have h := evK_iff.1 h
    obtain ⟨hb, h⟩ := ifB_iff.1 h
    simp only [Bool.and_eq_true, Bool.or_eq_true] at hb
    obtain ⟨hb1, hb2⟩ := hb
    rw [hty _ hb2] at h
    have hok : okT (ty e) = true := hb1.elim (fun h => okT_of_sh h (by decide)) (fun h => okT_of_sh h (by decide))
    rw [hty _ hok] at hb1
    simp only [execOp, hop]
    exact (convK_sound (hb1.imp tyOf_int tyOf_string) h (hr.ev _)).goes hr
  · -- makeSlice
    rename_i e n m
    have h := evK_iff.1 h
    have h := evK_iff.1 h
    have hok : okT (ty e) = true := by
      unfold makeK at h
      split at h
      · have := (ifB_iff.1 h).1
        simp only [Bool.and_eq_true] at this
        exact okT_of_sh this.1.1.1 (by decide)
      · exact h.elim
    rw [hty _ hok] at h
    simp only [execOp, hop]
    exact (makeK_sound hr h (hr.ev _) (hr.ev _)).goes
  · -- slice
    rename_i e x lo hi
    have h := evK_iff.1 h
    have h := optK_iff.1 h
    have h := optK_iff.1 h
    have hok : okT (ty e) = true := by
      unfold sliceK at h
      split at h
      · exact okT_of_sh (ifB_iff.1 h).1 (by decide)
      · exact okT_of_sh (ifB_iff.1 h).1 (by decide)
      · split at h
        · have := (ifB_iff.1 h).1
          simp only [Bool.and_eq_true] at this
          exact okT_of_sh this.1.1 (by decide)
        · exact h.elim
      · exact h.elim
    rw [hty _ hok] at h
    simp only [execOp, hop]
    exact (sliceK_sound hr.m h (hr.ev _) (opt_rel hr lo).1 (opt_rel hr lo).2 (opt_rel hr hi).1 (opt_rel hr hi).2).goes hr
  · -- fieldAddr
    have h := evK_iff.1 h
    obtain ⟨hb, h⟩ := ifB_iff.1 h
    rw [hty _ (okT_of_sh hb (by decide))] at h hb
    simp only [execOp, hop]
    exact (fieldAddrK_sound hr.m hb h (hr.ev _)).goes hr
  · -- indexAddr
    rename_i e x i
    have h := evK_iff.1 h
    have h := evK_iff.1 h
    have hok : okT (ty e) = true := by
      unfold indexAddrK at h
      split at h
      · have := (ifB_iff.1 h).1
        simp only [Bool.and_eq_true] at this
        exact okT_of_sh this.1.1 (by decide)
      · exact okT_of_sh (ifB_iff.1 h).1 (by decide)
      · exact h.elim
    rw [hty _ hok] at h
    simp only [execOp, hop]
    exact (indexAddrK_sound hr.m h (hr.ev _) (hr.ev _)).goes hr
  · -- index
    have h := evK_iff.1 h
    have h := evK_iff.1 h
    obtain ⟨hb, h⟩ := ifB_iff.1 h
    rw [hty _ (okT_of_sh hb (by decide))] at hb
    simp only [execOp, hop]
    exact (indexK_sound (tyOf_string hb) h (hr.ev _) (hr.ev _)).goes hr
  · -- extract
    have h := evK_iff.1 h
    simp only [execOp, hop]
    exact (extractK_sound h (hr.ev _)).goes hr
  · -- builtin
    rename_i b args tys
    rw [evsK_eq] at h
    unfold builtinK at h
    split at h
    · rename_i e tl x he hx
      obtain ⟨o1, h1, rfl⟩ := map_one a.eval hx
      have hty0 : tys[0]? = some e := by have : tys.toList[0]? = some e := by rw [he]; rfl
                                         simpa using this
      have hok : okT (ty e) = true := by
        unfold lenK at h
        split at h
        · exact okT_of_sh (ifB_iff.1 h).1 (by decide)
        · exact okT_of_sh (ifB_iff.1 h).1 (by decide)
        · exact okT_of_sh (ifB_iff.1 h).1 (by decide)
        · have := (ifB_iff.1 h).1
          simp only [Bool.and_eq_true] at this
          exact okT_of_sh this.1 (by decide)
        · exact h.elim
      rw [hty _ hok] at h
      simp only [execOp, hop, resolve, Sem.run_bind, Sem.run_pure, Result.andThen_ok, invoke, builtin, h1]
      exact goes_then ((lenK_sound hr.m h (hr.ev _) tys hty0).goes hr)
    · rename_i x y hx
      obtain ⟨o1, o2, h1, rfl, rfl⟩ := map_two a.eval hx
      simp only [execOp, hop, resolve, Sem.run_bind, Sem.run_pure, Result.andThen_ok, invoke, builtin, h1]
      exact goes_then ((maxK_sound h (hr.ev _) (hr.ev _)).goes hr)
    · rename_i x y hx
      obtain ⟨o1, o2, h1, rfl, rfl⟩ := map_two a.eval hx
      simp only [execOp, hop, resolve, Sem.run_bind, Sem.run_pure, Result.andThen_ok, invoke, builtin, h1]
      exact goes_then ((minK_sound h (hr.ev _) (hr.ev _)).goes hr)
    · rename_i e e' x y he hx
      obtain ⟨o1, o2, h1, rfl, rfl⟩ := map_two a.eval hx
      have htys : tys = #[e, e'] := by
        obtain ⟨tl⟩ := tys; simp at he; simp [he]
      subst htys
      have hb : okT (ty e) = true ∧ okT (ty e') = true := by
        unfold appK at h
        split at h
        · exact h.elim
        · have := (ifB_iff.1 h).1
          simp only [Bool.and_eq_true, Bool.or_eq_true] at this
          exact ⟨okT_of_sh this.1.1.1.1 (by decide), this.2.elim (fun h => okT_of_sh h (by decide)) (fun h => okT_of_sh h (by decide))⟩
      rw [hty _ hb.1, hty _ hb.2] at h
      simp only [execOp, hop, resolve, Sem.run_bind, Sem.run_pure, Result.andThen_ok, invoke, builtin, h1]
      exact goes_then (appK_sound hr h (hr.ev _) (hr.ev _)).goes
    · exact h.elim
  · -- a function
    rename_i f args tys
    have h := evK_iff.1 h
    rw [evsK_eq] at h
    unfold callK at h
    split at h
    · rename_i g caps e
      have hf := hr.ev f
      rw [e] at hf
      have hf := hf.repr
      cases hfe : a.eval f with
      | func g' fs cv =>
        rw [hfe] at hf
        cases hf with
        | fn _ _ _ hn hcr =>
        obtain ⟨fn, hfn, hbody, hname⟩ := h.en
        have hrun : (execOp a.eval o).run P w = .ok (.enter g (args.map a.eval ++ cv)) w := by
          have hbody' : fn.body.isNone = false := by cases hb : fn.body <;> simp [hb] at hbody ⊢
          simp only [execOp, hop, resolve, Deferred.ofValue, hfe, invoke, callFunc, Sem.run_bind, Sem.run_pure, run_program, Result.andThen_ok, hfn, hname, hbody', Bool.false_eq_true, if_false]
          simp
        rw [hrun]
        refine Calls.mono (h.out G κ ρ a w _ hr ?_ ?_) ?_
        · simp [evs_length, dIs, hn]
        · intro i v x hv hx
          rcases Nat.lt_or_ge i args.size with hlt | hge
          · rw [Array.getElem?_append_left (by simpa using hlt)] at hv
            rw [List.getElem?_append_left (by simpa [evs_length] using hlt)] at hx
            have ho : args.toList[i]? = some args[i] := by simp
            rw [evs_get i _ ho] at hx
            cases hx
            have hv' : v = a.eval args[i] := by
              rw [Array.getElem?_map, Array.getElem?_eq_getElem hlt] at hv
              simpa using hv.symm
            rw [hv']
            exact hr.ev _
          · rw [Array.getElem?_append_right (by simpa using hge)] at hv
            rw [List.getElem?_append_right (by simpa [evs_length] using hge)] at hx
            obtain ⟨c, hc, rfl⟩ := dIs_get hx
            refine .d _ _ (hcr _ v c hv ?_)
            simpa [evs_length] using hc
        · rintro e w' ⟨v, κ', ρ', x, t', l', he, h1, h2, h3, h4⟩
          exact ⟨v, he, κ', ρ', x, t', l', h1, h2, h3, h4⟩
      | _ => rw [hfe] at hf; cases hf
    · exact h.elim
  · exact h.elim

end
end Go.V
/- The abstract machine is sound, part 12: regions in the text's order, code. -/
namespace Go.V

theorem AVR.less {κ : Know} {ρ ρ' : Place} {v : Value} {x : AV} (hρ : ∀ id L, ρ' id = some L → ρ id = some L) (h : AVR κ ρ v x) : AVR κ ρ' v x := by
  induction h with
  | j x => exact .j x
  | d x c h => exact .d x c h
  | ag vs cs hn ho h ih => exact .ag vs cs hn ho fun i v c h1 h2 => ih i v c h1 h2
  | tup vs cs hn h ih => exact .tup vs cs hn fun i v c h1 h2 => ih i v c h1 h2
  | lp x id off h => exact .lp x id off fun L' hL' => h L' (hρ _ _ hL')
  | pe x id i f sz h => exact .pe x id i f sz fun L' hL' => h L' (hρ _ _ hL')
  | ls x id lo len sz h => exact .ls x id lo len sz fun L' hL' => h L' (hρ _ _ hL')
  | ep b off rows i f sz vs hz h1 h2 => exact .ep b off rows i f sz vs hz h1 h2
  | pp b off cs o vs h1 h2 => exact .pp b off cs o vs h1 h2

section
variable {P : Program} {G : Ctx} {κ : Know} {ρ : Place} {t : TL} {l : LL} {a : Act} {w : World}

open Classical in
/-- Less may be told. -/
theorem Rel.less {t' : TL} {l' : LL} (hr : Rel G κ ρ t l a w) (ht : ∀ i, get i t' = .j ∨ get i t' = get i t) (hl : ∀ id, lget id l' = .no ∨ lget id l' = lget id l) : ∃ ρ', (∀ id L, ρ' id = some L → ρ id = some L) ∧ Rel G κ ρ' t' l' a w := by
  obtain ⟨hm, hdf, hsz, htm⟩ := hr
  let ρ' : Place := fun id => if lget id l' = .no then none else ρ id
  have hρ : ∀ id L, ρ' id = some L → ρ id = some L ∧ lget id l' = lget id l := fun id L h => by
    simp only [ρ'] at h
    split at h
    · cases h
    · rename_i hne; exact ⟨h, (hl id).resolve_left hne⟩
  refine ⟨ρ', fun id L h => (hρ id L h).1, ⟨fun id => ?_, fun i j Li Lj hij hi hj hw => ?_, fun i L hi hw => ?_, hm.kn, hm.one, hm.kn0, hm.fr, fun i L hi h => hm.par i L hi (hρ i L h).1⟩, hdf, hsz, fun i => ?_⟩
  · by_cases h : lget id l' = .no
    · rw [h]; exact if_pos h
    · rw [(hl id).resolve_left h]
      exact (hm.ob id).move (Know.le_refl _) (if_neg h) (fun _ _ => rfl) (fun _ _ _ _ _ _ _ hv => hv.less fun id L h => (hρ id L h).1)
  · obtain ⟨h1, h2⟩ := hρ i Li hi
    rw [h2] at hw
    exact hm.sep i j Li Lj hij h1 (hρ j Lj hj).1 hw
  · obtain ⟨h1, h2⟩ := hρ i L hi
    rw [h2] at hw
    exact hm.fre i L h1 hw
  · rcases ht i with h | h
    · rw [h]; exact .j _
    · rw [h]; exact (htm i).less fun id L h => (hρ id L h).1

theorem keepK_some {t : TL} : ∀ {ks : List Nat} {t' : TL} {K : TL → Prop}, keepK ks t t' K → (∀ i, get i t' = .j ∨ get i t' = get i t) → ∃ t'', K t'' ∧ ∀ i, get i t'' = .j ∨ get i t'' = get i t
  | [], t', K, h, ht => ⟨t', h, ht⟩
  | k :: r, t', K, h, ht => by
    unfold keepK at h
    split at h
    · exact keepK_some h ht
    · rw [force_eq] at h
      refine keepK_some h fun i => ?_
      rw [get_cons]
      by_cases hik : i = k
      · subst hik; exact .inr (if_pos rfl)
      · rw [if_neg hik]; exact ht i

theorem gcK_some {t : TL} {l0 : LL} : ∀ {l : LL} {K : LL → Prop}, gcK t l l0 K → ∃ l', K l' ∧ ∀ id, lget id l' = if tment id t || inBoxes id l0 then lget id l else .no
  | [], K, h => ⟨[], h, fun id => by simp [lget]⟩
  | (k, o) :: r, K, h => by
    unfold gcK at h
    split at h
    · rename_i hk
      obtain ⟨l', h1, h2⟩ := gcK_some h
      refine ⟨_, h1, fun id => ?_⟩
      rw [lget_cons, lget_cons]
      by_cases hid : id = k
      · subst hid; rw [if_pos rfl, if_pos rfl, if_pos hk]
      · rw [if_neg hid, if_neg hid]; exact h2 id
    · rename_i hk
      obtain ⟨l', h1, h2⟩ := gcK_some h
      refine ⟨_, h1, fun id => ?_⟩
      rw [lget_cons, h2 id]
      by_cases hid : id = k
      · subst hid; simp [hk]
      · rw [if_neg hid]

theorem bool_at {j g : Nat} {ops : Array Oper} {c : Bool} (hg : gslot (ops.toList.map (·.dst)) j = some g) (h : a.tmps.getD g undef = .bool c) : yielded ops a.tmps j = some c := by
  unfold gslot at hg
  have h1 : (ops[j]?).bind (·.dst) = some g := by
    simp only [List.getD_eq_getElem?_getD, List.getElem?_map] at hg
    cases h2 : ops[j]? with
    | none => simp [h2] at hg
    | some o => simpa [h2] using hg
  have h2 : a.tmps[g]? = some (.bool c) := by
    rw [Array.getD_eq_getD_getElem?] at h
    cases h3 : a.tmps[g]? with
    | none => rw [h3] at h; cases h
    | some v => rw [h3] at h; simp at h; rw [h]
  simp [yielded, h1, h2]

theorem Oper.wp_of_goes {o : Oper} {K : AV → TL → LL → Prop} {next : Act → World → Prop} {Q : Exit → Act → World → Prop} (hd : ∀ d, o.dst = some d → d < G.n)
    (h : OpGoes P G κ a K ((execOp a.eval o).run P w))
    (hK : ∀ κ' ρ' x t' l' a' w', κ.le κ' → Rel G κ' ρ' (push o.dst x t') l' a' w' → K x t' l' → next a' w') : o.wp P a w next Q := by
  have aft : ∀ v w', After G κ a K v w' → next (a.put o.dst v) w' := fun v w' ⟨κ', ρ', x, t', l', h1, h2, h3, h4⟩ => hK κ' ρ' x t' l' _ _ h1 (h2.push h3 hd) h4
  unfold Oper.wp
  generalize (execOp a.eval o).run P w = r at h
  cases r with
  | ok n w' =>
    cases n with
    | value v => exact aft v w' h
    | skip => exact aft _ w' h
    | enter f args => exact Calls.mono h fun e w'' ⟨v, he, h1⟩ => by subst he; exact aft v w'' h1
    | _ => exact h.elim
  | halt x w' => exact h.elim

/-- A region in the text's order. -/
theorem vcOps_sound {ty : TypeId → Ty} (hty : TyOk P ty) {ops : Array Oper} {K : TL → LL → Prop} {Q : Exit → Act → World → Prop} : ∀ (rest : List Oper) (κ : Know) (ρ : Place) (t : TL) (l : LL) (a : Act) (w : World),
    (∀ o, o ∈ rest → ∀ d, o.dst = some d → d < G.n) → Rel G κ ρ t l a w → vcOps P ty (ops.toList.map (·.dst)) rest t l K →
    (∀ κ' ρ' t' l' a' w', κ.le κ' → Rel G κ' ρ' t' l' a' w' → K t' l' → Q .normal a' w') → wpList P ops Q rest a w
  | [], κ, ρ, t, l, a, w, _, hr, h, hQ => hQ κ ρ t l a w (Know.le_refl _) hr h
  | o :: r, κ, ρ, t, l, a, w, hd, hr, h, hQ => by
    have hd1 := hd o (by simp)
    have hd2 : ∀ o', o' ∈ r → ∀ d, o'.dst = some d → d < G.n := fun o' ho => hd o' (by simp [ho])
    have yes : ∀ t, Rel G κ ρ t l a w → vcOp P ty o.op o.dst t l (fun x t l => vcOps P ty (ops.toList.map (·.dst)) r (push o.dst x t) l K) → o.wp P a w (wpList P ops Q r) Q := fun t hr h =>
      Oper.wp_of_goes hd1 (vcOp_sound hty hr h) fun κ' ρ' x t' l' a' w' h1 h2 h3 =>
        vcOps_sound hty r κ' ρ' _ l' a' w' hd2 h2 h3 fun κ'' ρ'' t'' l'' a'' w'' h4 => hQ κ'' ρ'' t'' l'' a'' w'' (Know.le_trans h1 h4)
    have no : ∀ t, Rel G κ ρ t l a w → vcOps P ty (ops.toList.map (·.dst)) r (push o.dst .j t) l K → wpList P ops Q r (a.put o.dst undef) w := fun t hr h =>
      vcOps_sound hty r κ ρ _ l _ w hd2 (hr.push (.j _) hd1) h hQ
    unfold vcOps at h
    unfold wpList
    split at h
    · rename_i hg
      rw [if_pos (by simp [Region.wanted, hg])]
      exact .inl (yes t hr h)
    · rename_i j want hg
      split at h
      · exact h.elim
      · rename_i g hgs
        have key : ∀ {A B : TL → Prop}, guardK g (get g t) t A B → ∃ c, a.tmps.getD g undef = .bool c ∧ (c = true → A ((g, .d (.s (.bool true))) :: t)) ∧ (c = false → B ((g, .d (.s (.bool false))) :: t)) ∧ Rel G κ ρ ((g, .d (.s (.bool c))) :: t) l a w := by
          intro A B h
          unfold guardK at h
          split at h
          · rename_i c hc
            have hv := hr.tm g
            rw [hc] at hv
            have e := hv.val
            exact ⟨c, e, h.t, h.f, hr.told (by rw [e]; exact .mk _)⟩
          · exact h.elim
        split at h
        · obtain ⟨c, h1, h2, h3, h4⟩ := key h
          have hy := bool_at hgs h1
          cases c with
          | true => rw [if_pos (by simp [Region.wanted, hg, hy])]; exact .inl (yes _ h4 (h2 rfl))
          | false => rw [if_neg (by simp [Region.wanted, hg, hy])]; exact no _ h4 (h3 rfl)
        · obtain ⟨c, h1, h2, h3, h4⟩ := key h
          have hy := bool_at hgs h1
          cases c with
          | true => rw [if_neg (by simp [Region.wanted, hg, hy])]; exact no _ h4 (h2 rfl)
          | false => rw [if_pos (by simp [Region.wanted, hg, hy])]; exact .inl (yes _ h4 (h3 rfl))

theorem dstOps_spec {n : Nat} : ∀ {l : List Oper}, dstOps n l = true → ∀ o, o ∈ l → ∀ d, o.dst = some d → d < n
  | [], _, o, ho, _, _ => by simp at ho
  | p :: r, h, o, ho, d, hd => by
    simp only [dstOps, Bool.and_eq_true] at h
    rcases List.mem_cons.1 ho with rfl | ho
    · rw [hd] at h; exact Nat.le_of_ble_eq_true h.1
    · exact dstOps_spec h.2 o ho d hd

theorem Lift.le {κ' : Know} {Q : Ex → TL → LL → Prop} (h : κ.le κ') {e : Exit} (hh : Lift G κ' Q e a w) : Lift G κ Q e a w :=
  let ⟨x, κ'', ρ', t', l', h1, h2, h3, h4⟩ := hh
  ⟨x, κ'', ρ', t', l', h1, Know.le_trans h h2, h3, h4⟩

theorem kept_sound {ks : List Nat} {K : TL → LL → Prop} (hr : Rel G κ ρ t l a w) (h : keepK ks t [] fun t => gcK t l l fun l => K t l) : ∃ ρ' t' l', Rel G κ ρ' t' l' a w ∧ K t' l' := by
  obtain ⟨t', h, ht⟩ := keepK_some h (fun i => .inl rfl)
  obtain ⟨l', h, hl⟩ := gcK_some h
  obtain ⟨ρ', _, hr'⟩ := hr.less (t' := t') (l' := l') ht (fun id => by rw [hl id]; split <;> simp)
  exact ⟨ρ', t', l', hr', h⟩

theorem vcCode_sound {ty : TypeId → Ty} (hty : TyOk P ty) {ks : List Nat} : ∀ (c : Code) (Q : Ex → TL → LL → Prop) (κ : Know) (ρ : Place) (t : TL) (l : LL) (a : Act) (w : World),
    dstCode G.n c = true → Rel G κ ρ t l a w → vcCode P ty ks c t l Q → c.wp P (Lift G κ Q) a w
  | .skip, Q, κ, ρ, t, l, a, w, _, hr, h => wp_skip ⟨.n, κ, ρ, t, l, rfl, Know.le_refl _, hr, h⟩
  | .region id ops false, Q, κ, ρ, t, l, a, w, hd, hr, h =>
    wp_region_list (vcOps_sound hty ops.toList κ ρ t l a w (dstOps_spec hd) hr h fun κ' ρ' t' l' a' w' h1 h2 h3 => by
      obtain ⟨ρ'', t'', l'', h4, h5⟩ := kept_sound h2 h3
      exact ⟨.n, κ', ρ'', t'', l'', rfl, h1, h4, h5⟩)
  | .region id ops true, Q, κ, ρ, t, l, a, w, hd, hr, h =>
    VDraw.out h G κ ρ a w hr (dstOps_spec hd) id _ fun κ' ρ' t' l' a' w' h1 h2 h3 => by
      obtain ⟨ρ'', t'', l'', h4, h5⟩ := kept_sound h2 h3
      exact ⟨.n, κ', ρ'', t'', l'', rfl, h1, h4, h5⟩
  | .seq x y, Q, κ, ρ, t, l, a, w, hd, hr, h => by
    simp only [dstCode, Bool.and_eq_true] at hd
    refine wp_seq (Code.wp_mono ?_ (vcCode_sound hty x _ κ ρ t l a w hd.1 hr h))
    rintro e a' w' ⟨x', κ', ρ', t', l', h1, h2, h3, h4⟩
    cases e with
    | normal =>
      simp only [exOf, Option.some.injEq] at h1; subst h1
      exact Code.wp_mono (fun e a w hh => hh.le h2) (vcCode_sound hty y Q κ' ρ' t' l' a' w' hd.2 h3 h4)
    | ret => simp only [exOf, Option.some.injEq] at h1; subst h1; exact ⟨.r, κ', ρ', t', l', rfl, h2, h3, h4⟩
    | exit id => simp only [exOf, Option.some.injEq] at h1; subst h1; exact ⟨.x id, κ', ρ', t', l', rfl, h2, h3, h4⟩
    | _ => simp [exOf] at h1
  | .block id c, Q, κ, ρ, t, l, a, w, hd, hr, h => by
    refine wp_block (Code.wp_mono ?_ (vcCode_sound hty c _ κ ρ t l a w hd hr h))
    rintro e a' w' ⟨x', κ', ρ', t', l', h1, h2, h3, h4⟩
    cases e with
    | normal => simp only [exOf, Option.some.injEq] at h1; subst h1; exact ⟨.n, κ', ρ', t', l', rfl, h2, h3, h4⟩
    | ret => simp only [exOf, Option.some.injEq] at h1; subst h1; exact ⟨.r, κ', ρ', t', l', rfl, h2, h3, h4⟩
    | exit id' =>
      simp only [exOf, Option.some.injEq] at h1; subst h1
      simp only [Exit.inBlock]
      simp only at h4
      by_cases hid : id' = id
      · subst hid; simp at h4 ⊢; exact ⟨.n, κ', ρ', t', l', rfl, h2, h3, h4⟩
      · have : Nat.beq id' id = false := Bool.eq_false_iff.2 fun e => hid (Nat.eq_of_beq_eq_true e)
        rw [this] at h4
        rw [if_neg hid]
        exact ⟨.x id', κ', ρ', t', l', rfl, h2, h3, h4⟩
    | _ => simp [exOf] at h1
  | .loop b, Q, κ, ρ, t, l, a, w, hd, hr, h => VLoop.out h G κ ρ a w hd hr
  | .cond c x y, Q, κ, ρ, t, l, a, w, hd, hr, h => by
    simp only [dstCode, Bool.and_eq_true] at hd
    unfold vcCode condK at h
    split at h
    · rename_i b hb
      have hv := hr.ev c
      rw [hb] at hv
      exact wp_cond_split hv.val (fun e => vcCode_sound hty x Q κ ρ t l a w hd.1 hr (h.t e)) (fun e => vcCode_sound hty y Q κ ρ t l a w hd.2 hr (h.f e))
    · exact h.elim
  | .exit id, Q, κ, ρ, t, l, a, w, _, hr, h => wp_exit ⟨.x id, κ, ρ, t, l, rfl, Know.le_refl _, hr, h⟩
  | .ret, Q, κ, ρ, t, l, a, w, _, hr, h => wp_ret ⟨.r, κ, ρ, t, l, rfl, Know.le_refl _, hr, h⟩
  | .rangeFunc _ _ _ _, _, _, _, _, _, _, _, _, _, h => h.elim
  | .label _, _, _, _, _, _, _, _, _, _, h => h.elim
  | .goto _, _, _, _, _, _, _, _, _, _, h => h.elim

end
end Go.V
