/- Part 2: the abstract machine, its soundness, contracts of functions. -/
import Derived.Test.YtojocienmkpfmaaGreatDoorK1
import Derived.Laws.IdiomStrings
import Derived.Laws.BytesArg
/- The abstract machine is sound, part 10: appends. -/
set_option linter.unusedVariables false
namespace Go.V

theorem flatten_take {α : Type} {sz : Nat} : ∀ {rows : List (List α)} (n : Nat), (∀ r, r ∈ rows → r.length = sz) → (rows.take n).flatten = rows.flatten.take (n * sz)
  | [], n, _ => by simp
  | q :: rows, 0, _ => by simp
  | q :: rows, n + 1, hz => by
    have hq : q.length = sz := hz q (by simp)
    rw [List.take_succ_cons, List.flatten_cons, List.flatten_cons, flatten_take n (fun r hr => hz r (by simp [hr])), List.take_append, hq]
    rw [show (n + 1) * sz - sz = n * sz by rw [Nat.add_mul]; omega, List.take_of_length_le (l := q) (by rw [hq, Nat.add_mul]; omega)]

theorem flatten_drop {α : Type} {sz : Nat} : ∀ {rows : List (List α)} (n : Nat), (∀ r, r ∈ rows → r.length = sz) → (rows.drop n).flatten = rows.flatten.drop (n * sz)
  | [], n, _ => by simp
  | q :: rows, 0, _ => by simp
  | q :: rows, n + 1, hz => by
    have hq : q.length = sz := hz q (by simp)
    rw [List.drop_succ_cons, List.flatten_cons, flatten_drop n (fun r hr => hz r (by simp [hr])), List.drop_append, hq]
    rw [show (n + 1) * sz - sz = n * sz by rw [Nat.add_mul]; omega, List.drop_of_length_le (l := q) (by rw [hq, Nat.add_mul]; omega), List.nil_append]

theorem flatten_sub {α : Type} {sz : Nat} {rows : List (List α)} {lo n j : Nat} (hz : ∀ r, r ∈ rows → r.length = sz) (hj : j < n * sz) : ((rows.drop lo).take n).flatten[j]? = rows.flatten[lo * sz + j]? := by
  rw [flatten_take n (fun r hr => hz r (List.mem_of_mem_drop hr)), flatten_drop lo hz, List.getElem?_take_of_lt hj, List.getElem?_drop]

/-- A part of an array, by what is known of its cells. -/
theorem seg_exists {arr : Array Value} {o N : Nat} {p : Nat → Value → Prop} (h : ∀ j, j < N → ∃ x, arr[o + j]? = some x ∧ p j x) :
    ∃ xs : List Value, xs.length = N ∧ (0 < N → o + N ≤ arr.size) ∧ ∀ (j : Nat) x, xs[j]? = some x → arr[o + j]? = some x ∧ p j x := by
  have hb : 0 < N → o + N ≤ arr.size := fun hN => by
    obtain ⟨x, h1, _⟩ := h (N - 1) (by omega)
    have := (Array.getElem?_eq_some_iff.1 h1).1
    omega
  refine ⟨(arr.toList.drop o).take N, ?_, hb, fun j x hj => ?_⟩
  · rcases Nat.eq_zero_or_pos N with h0 | h0
    · subst h0; simp
    · have := hb h0; simp; omega
  · have hjN : j < N := by
      have := (List.getElem?_eq_some_iff.1 hj).1; simp at this; omega
    rw [List.getElem?_take_of_lt hjN, List.getElem?_drop] at hj
    obtain ⟨y, h1, h2⟩ := h j hjN
    have : arr[o + j]? = some x := by simpa using hj
    rw [this] at h1; cases h1
    exact ⟨this, h2⟩

section
variable {P : Program} {G : Ctx} {κ : Know} {ρ : Place} {t : TL} {l : LL} {a : Act} {w : World} {K : AV → TL → LL → Prop}

/-- The source of an append: its cells, which any world of this heap gives. -/
structure SrcR (P : Program) (κ : Know) (w : World) (size n : Nat) (vy : Value) (rows : List (List C)) (news : List Value) : Prop where
  len : ∀ w', (Builtin.lenOf vy).run P w' = .ok n w'
  cells : ∀ w', w'.heap = w.heap → (Builtin.firstCells size n vy).run P w' = .ok news.toArray w'
  nl : news.length = n * size
  rl : rows.length = n
  rz : ∀ r, r ∈ rows → r.length = size
  ok : CellsC κ news rows.flatten

theorem cell?_heap {w w' : World} (h : w'.heap = w.heap) (ad : Addr) : w'.cell? ad = w.cell? ad := by simp [World.cell?, h]

theorem srcK_sound {T : Ty} {y : AV} {vy : Value} {K : Nat → List (List C) → Prop} (hm : Mem G κ ρ l w) (h : srcK T y l K) (hy : AVR κ ρ vy y) : ∃ n rows news, K n rows ∧ SrcR P κ w T.esize n vy rows news := by
  unfold srcK at h
  split at h
  · rename_i id lo n s2
    split at h
    · rename_i m sz rows hl
      have hb := (ifB_iff.1 h).1
      replace h := (ifB_iff.1 h).2
      simp only [Bool.and_eq_true] at hb
      have e1 := Nat.eq_of_beq_eq_true hb.1
      have e2 := Nat.eq_of_beq_eq_true hb.2
      subst e2; subst e1
      obtain ⟨r, hr, hle, h⟩ := h
      have hob := hm.ob id
      rw [hl] at hob
      obtain ⟨L, arr, E, fz, hL, hh, hN, hfz, hz, hkn, hcs⟩ := hob
      obtain ⟨cap, A, rfl, hA, hc1, hc2, hc3⟩ := hy.ls_at hL
      have hrl : r.length = n := by rw [← hr]; simp; omega
      have hrz : ∀ q, q ∈ r → q.length = T.esize := fun q hq => hz q (by rw [← hr] at hq; exact List.mem_of_mem_drop (List.mem_of_mem_take hq))
      obtain ⟨news, h1, _, h3⟩ := seg_exists (arr := arr) (o := L.o + lo * T.esize) (N := n * T.esize) (p := fun j x => (∀ c, r.flatten[j]? = some c → Repr κ x c) ∧ oneV x = true) (fun j hj => by
        have hjl : j < r.flatten.length := by rw [flatten_length hrz, hrl]; exact hj
        have := flatten_sub (lo := lo) hz hj
        rw [hr, List.getElem?_eq_getElem hjl] at this
        obtain ⟨x, h5, h6, h7⟩ := hcs (lo * T.esize + j) _ this.symm
        refine ⟨x, by rw [Nat.add_assoc]; exact h5, fun c hc => ?_, h7⟩
        rw [List.getElem?_eq_getElem hjl] at hc; cases hc; exact h6)
      refine ⟨n, r, news, h, fun w' => rfl, fun w' hw' => ?_, h1, hrl, hrz, fun k v hk => (h3 k v hk).2.2, fun k v c hk hc => (h3 k v hk).2.1 c hc⟩
      rcases hA with rfl | h0
      · refine run_firstCells_some (P := P) w' T.esize n _ n cap news h1 (fun j v hj => ?_)
        rw [Addr.add_none, cell?_heap hw', cell_heap hh]
        exact (h3 j v hj).1
      · have hn0 : n = 0 := by omega
        subst hn0
        have : news = [] := List.eq_nil_of_length_eq_zero (by simpa using h1)
        subst this
        exact run_firstCells_some (P := P) w' T.esize 0 _ 0 cap [] (by simp) (by simp)
    · exact h.elim
  · rename_i rows
    obtain ⟨hz, h⟩ := h
    cases hy.repr with
    | nil => exact ⟨0, [], [], h, fun _ => rfl, fun w' _ => run_firstCells_none w' _ _ _ _, by simp, rfl, by simp, by simp, by simp⟩
    | none A cap =>
      refine ⟨0, [], [], h, fun _ => rfl, fun w' _ => ?_, by simp, rfl, by simp, by simp, by simp⟩
      cases A with
      | none => exact run_firstCells_none w' _ _ _ _
      | some A => exact run_firstCells_some (P := P) w' T.esize 0 _ 0 cap [] (by simp) (by simp)
    | sl b off n cap _ vs hn hc hk hr =>
      subst hn
      have hfl : rows.flatten.length = rows.length * T.esize := flatten_length hz
      refine ⟨rows.length, rows, (List.range (rows.length * T.esize)).map vs, h, fun _ => rfl, fun w' hw' => ?_, by simp, rfl, hz, fun k v hv => ?_, fun k v c hv hc => ?_⟩
      · refine run_firstCells_some (P := P) w' T.esize rows.length _ rows.length cap _ (by simp) (fun j v hj => ?_)
        simp only [List.getElem?_map, Option.map_eq_some_iff] at hj
        obtain ⟨q, h1, rfl⟩ := hj
        have hq : j < rows.length * T.esize ∧ q = j := by
          have := (List.getElem?_eq_some_iff.1 h1); obtain ⟨h2, h3⟩ := this; simp at h2 h3; omega
        obtain ⟨hq1, rfl⟩ := hq
        rw [Addr.add_none, cell?_heap hw']
        exact hm.kn _ _ _ (hk q _ (List.getElem?_eq_getElem (by omega)))
      all_goals
        simp only [List.getElem?_map, Option.map_eq_some_iff] at hv
        obtain ⟨q, h1, rfl⟩ := hv
        have hq : k < rows.length * T.esize ∧ q = k := by
          have := (List.getElem?_eq_some_iff.1 h1); obtain ⟨h2, h3⟩ := this; simp at h2 h3; omega
        obtain ⟨hq1, rfl⟩ := hq
      · exact hm.one.1 _ _ _ (hk q _ (List.getElem?_eq_getElem (by omega)))
      · exact hr q c hc
  · have e := hy.val; subst e
    exact ⟨0, [], [], h, fun _ => rfl, fun w' _ => run_firstCells_none w' _ _ _ _, by simp, rfl, by simp, by simp, by simp⟩
  · rename_i s
    have e := hy.val; subst e
    obtain ⟨h1, h⟩ := ifB_iff.1 h
    have h1 := Nat.eq_of_beq_eq_true h1
    rw [h1]
    have hss : s.data.size = s.size := rfl
    refine ⟨s.size, _, s.data.toList.map fun b => .int .u8 b.toNat, h, fun _ => rfl, fun w' _ => ?_, by simp [hss], by simp [hss], ?_, fun k v hk => ?_, fun k v c hk hc => ?_⟩
    · simp only [Builtin.firstCells, Sem.run_pure]
      congr 1
      have : s.extract 0 s.size = s := by apply ByteArray.ext; simp
      rw [this]
      apply Array.ext'; simp
    · intro r hr
      simp only [List.mem_map] at hr
      obtain ⟨b, _, rfl⟩ := hr; rfl
    · simp only [List.getElem?_map, Option.map_eq_some_iff] at hk
      obtain ⟨b, _, rfl⟩ := hk; rfl
    · have hfl : ∀ xs : List UInt8, (xs.map fun b => [C.s (.int .u8 b.toNat)]).flatten = xs.map fun b => C.s (.int .u8 b.toNat) := by
        intro xs; induction xs with
        | nil => rfl
        | cons x r ih => simp [ih]
      rw [hfl] at hc
      simp only [List.getElem?_map, Option.map_eq_some_iff] at hk hc
      obtain ⟨b, h3, rfl⟩ := hk
      obtain ⟨b', h4, rfl⟩ := hc
      rw [h3] at h4; cases h4
      exact .s _
  · exact h.elim

theorem lget_lrem {i : Nat} : ∀ {l : LL} (j : Nat), lget j (lrem i l) = if j = i then .no else lget j l
  | [], j => by simp [lrem, lget]
  | (k, x) :: r, j => by
    have e : lrem i ((k, x) :: r) = if i = k then lrem i r else (k, x) :: lrem i r := by
      show (bif Nat.beq i k then lrem i r else (k, x) :: lrem i r) = _
      by_cases h : i = k
      · subst h; simp
      · have : Nat.beq i k = false := Bool.eq_false_iff.2 fun e => h (Nat.eq_of_beq_eq_true e)
        simp [this, h]
    rw [e]
    by_cases hik : i = k
    · subst hik
      rw [if_pos rfl, lget_lrem j, lget_cons]
      by_cases hj : j = i <;> simp [hj]
    · rw [if_neg hik, lget_cons, lget_cons, lget_lrem j]
      by_cases hjk : j = k
      · subst hjk; simp [Ne.symm hik]
      · simp [hjk]

theorem get_dropM {k : Nat} : ∀ {t : TL} (i : Nat), get i (dropM k t) = if AV.ment k (get i t) then .j else get i t
  | [], i => rfl
  | (j, x) :: r, i => by
    have e : dropM k ((j, x) :: r) = (j, if AV.ment k x then .j else x) :: dropM k r := by
      show (match AV.ment k x with | true => (j, AV.j) :: dropM k r | false => (j, x) :: dropM k r) = _
      cases AV.ment k x <;> rfl
    rw [e, get_cons, get_cons]
    split
    · rfl
    · exact get_dropM i

/-- A name is given up. -/
theorem Rel.drop (hr : Rel G κ ρ t l a w) (id : Nat) : Rel G κ (ρ.put id none) (dropM id t) (lrem id l) a w := by
  obtain ⟨hm, hdf, hsz, htm⟩ := hr
  have hp : ∀ {i L}, (ρ.put id none) i = some L → i ≠ id ∧ ρ i = some L := fun {i L} h => by
    unfold Place.put at h; split at h
    · cases h
    · rename_i hne; exact ⟨hne, h⟩
  refine ⟨⟨fun i => ?_, fun i j Li Lj hij hi hj hw => ?_, fun i L hi hw => ?_, hm.kn, hm.one, hm.kn0, hm.fr, fun i L hi h => hm.par i L hi (hp h).2⟩, hdf, hsz, fun i => ?_⟩
  · rw [lget_lrem]; split
    · rename_i e; subst e; exact put_self _ _
    · rename_i hne
      refine (hm.ob i).move (Know.le_refl _) (if_neg hne) (fun _ _ => rfl) (fun _ _ _ _ _ _ _ h => h.gone)
  · obtain ⟨h1, h2⟩ := hp hi
    rw [lget_lrem, if_neg h1] at hw
    exact hm.sep i j Li Lj hij h2 (hp hj).2 hw
  · obtain ⟨h1, h2⟩ := hp hi
    rw [lget_lrem, if_neg h1] at hw
    exact hm.fre i L h2 hw
  · rw [get_dropM]; split
    · exact .j _
    · exact (htm i).gone

theorem run_append {ts tx ty el : TypeId} {ei : TypeInfo} {ux : TypeDesc} {z : Value} (hu : P.underlying ts = some (.slice el)) (hux : P.underlying tx = some ux) (hxi : ∀ k, ux ≠ .int k) (hei : P.info? el = some ei) (hz : ei.zero = some z)
    {base : Option Addr} {n cap : Nat} {vy : Value} {n2 : Nat} {rows : List (List C)} {news olds : List Value} (hs : SrcR P κ w ei.size n2 vy rows news) 
    (ho : (Builtin.firstCells ei.size n (.slice base n cap)).run P w.drew = .ok olds.toArray w.drew) (hbig : (n + n2) * ei.bytes ≤ 2 ^ 45) (hbp : 0 < ei.bytes) :
    (n + n2 ≤ cap ∧ (Builtin.append_ #[ts, tx] ty #[.slice base n cap, vy]).run P w = Result.andThen ((match base with | some ad => storeCells (ad.add (n * ei.size)) news | none => Pure.pure () : Sem Unit).run P w) (fun _ w' => .ok (.slice base (n + n2) cap) w')) ∨
    (∃ cap', n + n2 ≤ cap' ∧ cap < n + n2 ∧ (Builtin.append_ #[ts, tx] ty #[.slice base n cap, vy]).run P w = .ok (.slice (some ⟨w.heap.size, 0, none⟩) (n + n2) cap') (w.drew.alloc (.cells (olds.toArray ++ news.toArray ++ Builtin.zeroCells z.cells (cap' - (n + n2))) el))) := by
  have hzf : (match ux with | .int _ => true | _ => false) = false := by
    cases ux <;> first | rfl | (rename_i k; exact absurd rfl (hxi k))
  have hsz : n + n2 ≤ 2 ^ 45 := by
    have : (n + n2) * 1 ≤ (n + n2) * ei.bytes := Nat.mul_le_mul_left _ hbp
    omega
  have hlen := hs.len
  have hcl := hs.cells w rfl
  have hcl' := hs.cells w.drew rfl
  by_cases hc : n + n2 ≤ cap
  · left
    refine ⟨hc, ?_⟩
    simp [Builtin.append_, run_underlying hu, run_underlying hux, sizeOf, typeInfo, hei, hlen, hc, hcl]
    cases base with
    | none => rfl
    | some ad =>
      show ((fun _ => Value.slice (some ad) (n + n2) cap) <$> storeCells (ad.add (n * ei.size)) news).run P w = _
      rw [Sem.run_map]
  · right
    have h48' : ¬ (281474976710656 < Builtin.nextslicecap (n + n2) cap * ei.bytes) := by
      have := growslice_fits (need := n + n2) (old := cap) (bytes := ei.bytes) (by omega) (by omega)
      omega
    have h63' : ¬ (9223372036854775807 < ((n : Int) + (n2 : Int))) := by omega
    refine ⟨grownCap w (n + n2) cap el, grownCap_ge _ _ _ _, by omega, ?_⟩
    simp [Builtin.append_, run_underlying hu, run_underlying hux, sizeOf, typeInfo, zeroValue, hei, hz, hlen, hc, hcl', ho, h63', h48', Question.forced, newRow, grownCap]
    congr 2
    apply Array.ext'
    simp [List.append_assoc]

theorem row_get {rows : List (List C)} {sz n : Nat} (hz : ∀ r, r ∈ rows → r.length = sz) (hn : rows.length = n) {j : Nat} {c : C} (h : rows.flatten[j]? = some c) : j < n * sz := by
  have := (List.getElem?_eq_some_iff.1 h).1
  rw [flatten_length hz, hn] at this; exact this

/-- A new block, in a world where something was drawn too. -/
theorem newK_drew {dst : Option Nat} {x : Nat → AV} {o : Ob} (hr : Rel G κ ρ t l a w) (h : newK dst x o t l K) {arr : Array Value} {E : TypeId} {kn : Nat} {v : Value} {r : Result Value}
    (hrun : r = .ok v (w.drew.alloc (.cells arr E)))
    (ho : ∀ k, tment k t = false → lment k l = false → ObR κ (ρ.put k (some ⟨w.heap.size, 0, arr.size, kn⟩)) (w.drew.alloc (.cells arr E)) k o ∧ AVR κ (ρ.put k (some ⟨w.heap.size, 0, arr.size, kn⟩)) v (x k)) :
    Goes G κ a r K := by
  unfold newK at h
  split at h
  · rename_i k
    split at h
    · rename_i hm
      simp only [Bool.or_eq_false_iff] at hm
      obtain ⟨h1, h2⟩ := ho k hm.1.1 hm.1.2
      exact ⟨v, _, κ, _, x k, t, _, hrun, Know.le_refl _, hr.alloc hm.1.1 hm.1.2 (small hm.2) (w.drew.alloc (.cells arr E)) rfl rfl rfl rfl h1, h2, h⟩
    · exact h.elim
  · exact h.elim

theorem grown_row {k : Nat} {el : TypeId} {z : Value} {sz n cap' : Nat} {rows : List (List C)} {vals : List Value} (hz : ∀ r, r ∈ rows → r.length = sz) (hn : rows.length = n) (hvl : vals.length = n * sz) (hc : n ≤ cap') (hzs : z.cells.size = sz)
    (hok : CellsC κ vals rows.flatten) (arr : Array Value) (harr : arr = vals.toArray ++ Builtin.zeroCells z.cells (cap' - n)) :
    ObR κ (ρ.put k (some ⟨w.heap.size, 0, arr.size, n⟩)) (w.drew.alloc (.cells arr el)) k (.row true sz rows) ∧ AVR κ (ρ.put k (some ⟨w.heap.size, 0, arr.size, n⟩)) (.slice (some ⟨w.heap.size, 0, none⟩) n cap') (.ls k 0 n sz) := by
  have hsize : arr.size = cap' * sz := by
    rw [harr]; simp only [Array.size_append, List.size_toArray, hvl, size_zeroCells, hzs]
    rw [← Nat.add_mul]; congr 1; omega
  refine row_new (heap_push_self _ _) hz hn hc hsize fun j c hcj => ?_
  have hj := row_get hz hn hcj
  have hjv : j < vals.length := by omega
  refine ⟨vals[j], ?_, hok.2 j _ c (by simp) hcj, hok.1 j _ (by simp)⟩
  rw [harr, Array.getElem?_append_left (by simpa using hjv)]
  simp

theorem CellsC.append {xs ys : List Value} {cs ds : List C} (h : CellsC κ xs cs) (h' : CellsC κ ys ds) (hl : xs.length = cs.length) : CellsC κ (xs ++ ys) (cs ++ ds) := by
  refine ⟨fun k v hk => ?_, fun k v c hk hc => ?_⟩
  · rcases Nat.lt_or_ge k xs.length with hlt | hge
    · rw [List.getElem?_append_left hlt] at hk; exact h.1 k v hk
    · rw [List.getElem?_append_right hge] at hk; exact h'.1 _ v hk
  · rcases Nat.lt_or_ge k xs.length with hlt | hge
    · rw [List.getElem?_append_left hlt] at hk
      rw [List.getElem?_append_left (by omega)] at hc
      exact h.2 k v c hk hc
    · rw [List.getElem?_append_right hge] at hk
      rw [List.getElem?_append_right (by omega), ← hl] at hc
      exact h'.2 _ v c hk hc

theorem appK_sound {ts tx tyy : TypeId} {dst : Option Nat} {x y : AV} {vx vy : Value} (hr : Rel G κ ρ t l a w) (h : appK (tyOf P ts) (tyOf P tx).sh dst x y t l K) (hx : AVR κ ρ vx x) (hy : AVR κ ρ vy y) :
    Goes G κ a ((Builtin.append_ #[ts, tx] tyy #[vx, vy]).run P w) K := by
  unfold appK at h
  split at h
  · exact h.elim
  rename_i k
  have hb := (ifB_iff.1 h).1
  replace h := (ifB_iff.1 h).2
  simp only [Bool.and_eq_true, Bool.or_eq_true] at hb
  obtain ⟨⟨⟨⟨hs, hez⟩, hep⟩, hebp⟩, hsh⟩ := hb
  have hez := Nat.eq_of_beq_eq_true hez
  have hep := Nat.le_of_ble_eq_true hep
  have hebp : 0 < (tyOf P ts).ebytes := Nat.le_of_ble_eq_true hebp
  obtain ⟨el, ei, hu, hei, hes, heb, hezo⟩ := tyOf_slice hs
  obtain ⟨z, hzv, hcl⟩ := zero_some (z := ei.zero) rfl (by rw [← hezo]; exact hep)
  have hzs : z.cells.size = ei.size := by rw [← hes, ← hez, hezo, ← hcl]; simp
  obtain ⟨ux, hux, hxi⟩ : ∃ ux, P.underlying tx = some ux ∧ ∀ k, ux ≠ .int k := by
    rcases hsh with h3 | h4
    · exact ⟨_, tyOf_string h3, by intro k e; cases e⟩
    · obtain ⟨e', _, hu', _⟩ := tyOf_slice h4
      exact ⟨_, hu', by intro k e; cases e⟩
  obtain ⟨n2, r2, news, hK, hsrc⟩ := srcK_sound (P := P) hr.m h hy
  clear h
  have h := hK; clear hK
  rw [heb] at h hebp
  rw [hes] at h hsrc
  have hr2 := hsrc.rz
  have hfl2 : r2.flatten.length = n2 * ei.size := by rw [flatten_length hr2, hsrc.rl]
  split at h
  · have e := hx.val; subst e
    have ht := h.t
    have hf := h.f
    clear h
    cases hn2 : Nat.beq n2 0 with
    | true =>
      have e0 := Nat.eq_of_beq_eq_true hn2
      subst e0
      refine ⟨.slice none 0 0, w, κ, ρ, _, t, l, ?_, Know.le_refl _, hr, .d _ _ (.s _), ht hn2⟩
      rcases run_append (ty := tyy) (base := none) (n := 0) (cap := 0) (olds := []) hu hux hxi hei hzv hsrc (run_firstCells_none _ _ _ _ _) (by omega) hebp with ⟨_, h1⟩ | ⟨_, _, h2, _⟩
      · rw [h1]; rfl
      · omega
    | false =>
      obtain ⟨hbig, h⟩ := hf hn2
      have hn0 : n2 ≠ 0 := fun e => by subst e; simp at hn2
      rcases run_append (ty := tyy) (base := none) (n := 0) (cap := 0) (olds := []) hu hux hxi hei hzv hsrc (run_firstCells_none _ _ _ _ _) (by rw [Nat.zero_add]; exact hbig) hebp with ⟨h0, _⟩ | ⟨cap', h1, _, h3⟩
      · omega
      · rw [Nat.zero_add] at h1 h3
        refine newK_drew (kn := n2) hr h h3 fun k _ _ => ?_
        exact grown_row (vals := news) hr2 hsrc.rl hsrc.nl h1 hzs hsrc.ok _ (by simp)
  · rename_i id lo n sz
    split at h
    · rename_i sz' rows hl
      have hb := (ifB_iff.1 h).1
      replace h := (ifB_iff.1 h).2
      simp only [Bool.and_eq_true] at hb
      have e1 := Nat.eq_of_beq_eq_true hb.1
      have e2 := Nat.eq_of_beq_eq_true hb.2
      subst e1
      subst e2
      obtain ⟨r1, hr1, hle, hbig, h⟩ := h
      have hob := hr.m.ob id
      rw [hl] at hob
      obtain ⟨L, arr, E, fz, hL, hh, hN, hfz, hz, hkn, hcs⟩ := hob
      have hfz := hfz rfl
      subst hfz
      obtain ⟨cap, A, rfl, hA, hc1, hc2, hc3⟩ := hx.ls_at hL
      have hr1l : r1.length = n := by rw [← hr1]; simp; omega
      have hr1z : ∀ q, q ∈ r1 → q.length = ei.size := fun q hq => hz q (by rw [← hr1] at hq; exact List.mem_of_mem_drop (List.mem_of_mem_take hq))
      have hr12 : ∀ q, q ∈ r1 ++ r2 → q.length = ei.size := fun q hq => (List.mem_append.1 hq).elim (hr1z q) (hr2 q)
      have hl12 : (r1 ++ r2).length = n + n2 := by rw [List.length_append, hr1l, hsrc.rl]
      have hfl1 : r1.flatten.length = n * ei.size := by rw [flatten_length hr1z, hr1l]
      obtain ⟨olds, h1, hob, h3⟩ := seg_exists (arr := arr) (o := L.o + lo * ei.size) (N := n * ei.size) (p := fun j x => (∀ c, r1.flatten[j]? = some c → Repr κ x c) ∧ oneV x = true) (fun j hj => by
        have hjl : j < r1.flatten.length := by rw [hfl1]; exact hj
        have := flatten_sub (lo := lo) hz hj
        rw [hr1, List.getElem?_eq_getElem hjl] at this
        obtain ⟨x, h5, h6, h7⟩ := hcs (lo * ei.size + j) _ this.symm
        refine ⟨x, by rw [Nat.add_assoc]; exact h5, fun c hc => ?_, h7⟩
        rw [List.getElem?_eq_getElem hjl] at hc; cases hc; exact h6)
      have hoc : CellsC κ olds r1.flatten := ⟨fun k v hk => (h3 k v hk).2.2, fun k v c hk hc => (h3 k v hk).2.1 c hc⟩
      have hof : (Builtin.firstCells ei.size n (.slice (some A) n cap)).run P w.drew = .ok olds.toArray w.drew := by
        rcases hA with rfl | h0
        · refine run_firstCells_some (P := P) w.drew ei.size n _ n cap olds h1 (fun j v hj => ?_)
          rw [Addr.add_none, cell?_heap (by rfl : w.drew.heap = w.heap), cell_heap hh]
          exact (h3 j v hj).1
        · have hn0 : n = 0 := by omega
          subst hn0
          have : olds = [] := List.eq_nil_of_length_eq_zero (by simpa using h1)
          subst this
          exact run_firstCells_some (P := P) w.drew ei.size 0 _ 0 cap [] (by simp) (by simp)
      have hrd := hr.drop id
      rcases run_append (ty := tyy) (base := some A) hu hux hxi hei hzv hsrc hof hbig hebp with ⟨hin, h4⟩ | ⟨cap', h5, _, h6⟩
      · -- in place
        have hfit : 0 < n2 → L.o + lo * ei.size + n * ei.size + news.length ≤ arr.size := fun _ => by
          have e : (lo + cap) * ei.size = lo * ei.size + cap * ei.size := Nat.add_mul _ _ _
          have e' : (n + n2) * ei.size ≤ cap * ei.size := Nat.mul_le_mul_right _ hin
          have e'' : (n + n2) * ei.size = n * ei.size + n2 * ei.size := Nat.add_mul _ _ _
          rw [hsrc.nl]; omega
        have hstore : ∃ w' arr', (storeCells (A.add (n * ei.size)) news).run P w = .ok () w' ∧ ButB w w' L.b ∧ w'.heap[L.b]? = some (.cells arr' E (0, 0)) ∧ arr'.size = arr.size ∧
            (∀ (j : Nat) v, (olds ++ news)[j]? = some v → arr'[L.o + lo * ei.size + j]? = some v) := by
          rcases Nat.eq_zero_or_pos n2 with h0 | hp
          · subst h0
            have : news = [] := List.eq_nil_of_length_eq_zero (by rw [hsrc.nl]; simp)
            subst this
            exact ⟨w, arr, rfl, ButB.refl _ _, hh, rfl, fun j v hj => (h3 j v (by simpa using hj)).1⟩
          · have hA' : A = ⟨L.b, L.o + lo * ei.size, none⟩ := hA.resolve_right (by omega)
            subst hA'
            have hfit := hfit hp
            have hrs := run_storeCells' (P := P) (o := L.o + lo * ei.size + n * ei.size) hh news hfit hsrc.ok.1
            obtain ⟨h7, h8⟩ := heap_setCells (b := L.b) news w (L.o + lo * ei.size + n * ei.size) arr hh
            refine ⟨_, _, by rw [Addr.add_none]; exact hrs, h8, h7, setAll_size _ _ _, fun j v hj => ?_⟩
            rcases Nat.lt_or_ge j olds.length with hlt | hge
            · rw [List.getElem?_append_left hlt] at hj
              rw [setAll_out _ _ _ _ (by omega)]
              exact (h3 j v hj).1
            · rw [List.getElem?_append_right hge] at hj
              have hjn := (List.getElem?_eq_some_iff.1 hj).1
              have := setAll_in news arr (L.o + lo * ei.size + n * ei.size) (j - olds.length) hfit hjn
              rw [show L.o + lo * ei.size + n * ei.size + (j - olds.length) = L.o + lo * ei.size + j by omega] at this
              rw [this]; exact hj
        obtain ⟨w', arr', hs1, hs2, hs3, hs4, hs5⟩ := hstore
        simp only [hs1, Result.andThen_ok] at h4
        have hok := hoc.append hsrc.ok (by rw [h1, hfl1])
        unfold newK at h
        simp only at h
        split at h
        · rename_i hmm
          simp only [Bool.or_eq_false_iff] at hmm
          obtain ⟨hmm, hsm⟩ := hmm
          have hsm := small hsm
          obtain ⟨hl1, hl2⟩ := lment_get hmm.2
          obtain ⟨f1, f2⟩ := hr.m.fre id L hL (by rw [hl]; rfl)
          have hne : ∀ {j Lj}, (ρ.put id none) j = some Lj → j ≠ id ∧ ρ j = some Lj := fun {j Lj} h => by
            unfold Place.put at h; split at h
            · cases h
            · rename_i hne; exact ⟨hne, h⟩
          let L' : Loc := ⟨L.b, L.o + lo * ei.size, L.N, n + n2⟩
          have hkρ : ∀ j, j ≠ k → ((ρ.put id none).put k (some L')) j = (ρ.put id none) j := fun j hj => if_neg hj
          have hm' : Mem G κ ((ρ.put id none).put k (some L')) ((k, .row true ei.size (r1 ++ r2)) :: lrem id l) w' := by
            refine hrd.m.change (k := k) hs2 (fun j Lj hj hLj => ?_) f1 f2 (fun j hj => .inl (hkρ j hj)) (fun j hj => .inl (by rw [lget_cons, if_neg hj])) (fun L1 h => by rw [put_self] at h; cases h; rfl) ?_ (by rw [lget_cons, if_pos rfl]) ?_ (fun L hi _ => by omega)
            · obtain ⟨g1, g2⟩ := hne hLj
              exact Ne.symm (hr.m.sep id j L Lj (Ne.symm g1) hL g2 (by rw [hl]; rfl))
            · intro v x j m cs hb hx hv
              have := hl2 j m cs hb
              obtain ⟨i, hi⟩ := List.mem_iff_getElem?.1 hx
              exact hv.put (ments_get this i x hi)
            · refine ⟨L', arr', E, (0, 0), put_self _ _, hs3, by rw [hs4]; exact hN, fun _ => rfl, hr12, by rw [hl12]; exact Nat.le_refl _, fun j c hc => ?_⟩
              have hj := row_get hr12 hl12 hc
              have hjl : j < (olds ++ news).length := by rw [List.length_append, h1, hsrc.nl, ← Nat.add_mul]; exact hj
              rw [List.flatten_append] at hc
              exact ⟨(olds ++ news)[j], hs5 j _ (by simp), hok.2 j _ c (by simp) hc, hok.1 j _ (by simp)⟩
          refine ⟨_, w', κ, _, _, _, _, h4, Know.le_refl _, ⟨hm', hrd.df, hrd.sz, fun i => (hrd.tm i).put (tment_get hmm.1 i)⟩, ?_, h⟩
          refine .ls _ _ _ _ _ fun L1 hL1 => ?_
          rw [put_self] at hL1; cases hL1
          refine ⟨cap, A, rfl, ?_, hin, ?_, by simpa [L'] using hin⟩
          · rcases hA with rfl | h0
            · left; simp [L']
            · exact .inr h0
          · have e : (lo + cap) * ei.size = lo * ei.size + cap * ei.size := Nat.add_mul _ _ _
            simp only [L', Nat.zero_add]; omega
        · exact h.elim
      · refine newK_drew (kn := n + n2) hrd h h6 fun k _ _ => ?_
        refine grown_row (vals := olds ++ news) hr12 hl12 (by rw [List.length_append, h1, hsrc.nl, Nat.add_mul]) h5 hzs ?_ _ (by simp)
        rw [List.flatten_append]
        exact hoc.append hsrc.ok (by rw [h1, hfl1])
    · exact h.elim
  · exact h.elim

theorem drop_flatten {α : Type} {sz : Nat} {rows : List (List α)} (hz : ∀ r, r ∈ rows → r.length = sz) {m : Nat} (hm : m ≤ rows.length) (j : Nat) : (rows.drop m).flatten[j]? = rows.flatten[m * sz + j]? := by
  have h1 : (rows.take m).flatten.length = m * sz := by rw [flatten_length fun r hr => hz r (List.mem_of_mem_take hr), List.length_take, Nat.min_eq_left hm]
  conv => rhs; rw [← List.take_append_drop m rows, List.flatten_append, List.getElem?_append_right (by omega), h1, show m * sz + j - m * sz = j by omega]

theorem splice_get {α : Type} {sz : Nat} {rows r2 : List (List α)} (hz : ∀ r, r ∈ rows → r.length = sz) (hr2 : ∀ r, r ∈ r2 → r.length = sz) {lo : Nat} (hl : lo + r2.length ≤ rows.length) {k : Nat} {c : α}
    (h : (rows.take lo ++ (r2 ++ rows.drop (lo + r2.length))).flatten[k]? = some c) :
    (∃ j, k = lo * sz + j ∧ j < r2.length * sz ∧ r2.flatten[j]? = some c) ∨ ((k < lo * sz ∨ lo * sz + r2.length * sz ≤ k) ∧ rows.flatten[k]? = some c) := by
  have h1 : (rows.take lo).flatten.length = lo * sz := by rw [flatten_length fun r hr => hz r (List.mem_of_mem_take hr), List.length_take, Nat.min_eq_left (by omega)]
  have h2 : r2.flatten.length = r2.length * sz := flatten_length hr2
  rw [List.flatten_append, List.flatten_append] at h
  rcases Nat.lt_or_ge k (lo * sz) with hk | hk
  · rw [List.getElem?_append_left (by omega)] at h
    refine .inr ⟨.inl hk, ?_⟩
    conv => lhs; rw [← List.take_append_drop lo rows, List.flatten_append, List.getElem?_append_left (by omega)]
    exact h
  · rw [List.getElem?_append_right (by omega), h1] at h
    rcases Nat.lt_or_ge (k - lo * sz) (r2.length * sz) with hk2 | hk2
    · rw [List.getElem?_append_left (by omega)] at h
      exact .inl ⟨k - lo * sz, by omega, hk2, h⟩
    · rw [List.getElem?_append_right (by omega), h2, drop_flatten hz hl, Nat.add_mul, show lo * sz + r2.length * sz + (k - lo * sz - r2.length * sz) = k by omega] at h
      exact .inr ⟨.inr (by omega), h⟩

theorem copyK_sound {ts tx tyy : TypeId} {x y : AV} {vx vy : Value} {K : AV → LL → Prop} (hr : Rel G κ ρ t l a w) (h : copyK (tyOf P ts) x y l K) (hx : AVR κ ρ vx x) (hy : AVR κ ρ vy y) :
    Goes G κ a ((Builtin.copy_ #[ts, tx] tyy #[vx, vy]).run P w) fun v t' l' => t' = t ∧ K v l' := by
  have hs := (ifB_iff.1 h).1
  replace h := (ifB_iff.1 h).2
  obtain ⟨el, ei, hu, hei, hes, heb, hezo⟩ := tyOf_slice hs
  obtain ⟨n2, r2, news, hK, hsrc⟩ := srcK_sound (P := P) hr.m h hy
  clear h
  have h := hK; clear hK
  split at h
  · rename_i id lo n sz
    split at h
    · rename_i sz' rows hl
      obtain ⟨hb, ⟨h1, h2⟩, h⟩ := ifB_iff.1 h
      simp only [Bool.and_eq_true] at hb
      have e1 := Nat.eq_of_beq_eq_true hb.1
      have e2 := Nat.eq_of_beq_eq_true hb.2
      subst e1
      rw [← e2] at hsrc
      have hK := lsetK_iff.1 h
      have hob := hr.m.ob id
      rw [hl] at hob
      obtain ⟨L, arr, E, fz, hL, hh, hN, hfz, hz, hkn, hcs⟩ := hob
      have hfz := hfz rfl
      subst hfz
      obtain ⟨cap, A, rfl, hA, hc1, hc2, hc3⟩ := hx.ls_at hL
      have hr2 := hsrc.rz
      have hr2l := hsrc.rl
      have hfl : rows.flatten.length = rows.length * sz := flatten_length hz
      have hin : ∀ k, k < rows.flatten.length → L.o + k < arr.size := fun k hk => by
        obtain ⟨x, h1, _⟩ := hcs k rows.flatten[k] (List.getElem?_eq_getElem hk)
        exact (Array.getElem?_eq_some_iff.1 h1).1
      have hle : (lo + n2) * sz ≤ rows.length * sz := Nat.mul_le_mul_right _ (by omega)
      rw [Nat.add_mul] at hle
      have hbound : news.length = 0 ∨ L.o + lo * sz + news.length ≤ arr.size := by
        rcases Nat.eq_zero_or_pos news.length with h0 | h0
        · exact .inl h0
        · right
          have hn := hsrc.nl
          have := hin (lo * sz + n2 * sz - 1) (by omega)
          omega
      have hone : ∀ (k : Nat) v, news[k]? = some v → oneV v = true := hsrc.ok.1
      have hrun : ∀ w', w'.heap = w.heap → (storeCells A news).run P w' = .ok () (w'.setCells L.b (L.o + lo * sz) news) := by
        intro w' hw'
        rcases hA with rfl | h0
        · rcases hbound with hb0 | hb0
          · have e0 := List.eq_nil_of_length_eq_zero hb0
            subst e0; rfl
          · exact run_storeCells' (P := P) (by rw [hw']; exact hh) news hb0 hone
        · have e0 : news = [] := List.eq_nil_of_length_eq_zero (by have := hsrc.nl; rw [this, show n2 = 0 by omega, Nat.zero_mul])
          subst e0; rfl
      have hcells := hsrc.cells w rfl
      have hlen := hsrc.len w
      have hmin : Nat.min n2 n = n2 := Nat.min_eq_left h1
      have hfin : (Builtin.copy_ #[ts, tx] tyy #[.slice (some A) n cap, vy]).run P w = .ok (.int .i64 n2) (w.setCells L.b (L.o + lo * sz) news) := by
        have hsz : ei.size = sz := by rw [e2, hes]
        rw [← hsz] at hcells
        simp [Builtin.copy_, run_underlying hu, hlen, hmin, sizeOf, typeInfo, hei, hcells, hrun w rfl, goInt]
      obtain ⟨g1, g2⟩ := heap_setCells (b := L.b) news w (L.o + lo * sz) arr hh
      refine ⟨_, _, κ, ρ, _, t, _, hfin, Know.le_refl _, ⟨hr.m.rewrite (o' := .row true sz (rows.take lo ++ (r2 ++ rows.drop (lo + n2)))) hL hl rfl g2 ⟨L, _, E, (0, 0), hL, g1, by rw [setAll_size]; exact hN, fun _ => rfl, ?_, ?_, fun k c hk => ?_⟩, hr.df, hr.sz, hr.tm⟩, .d _ _ (.s _), rfl, hK⟩
      · intro q hq
        rcases List.mem_append.1 hq with hq | hq
        · exact hz q (List.mem_of_mem_take hq)
        · rcases List.mem_append.1 hq with hq | hq
          · exact hr2 q hq
          · exact hz q (List.mem_of_mem_drop hq)
      · simp only [List.length_append, List.length_take, List.length_drop, hr2l]; omega
      · rw [← hr2l] at hk
        rcases splice_get hz hr2 (by omega) hk with ⟨j, rfl, hj1, hj2⟩ | ⟨hk1, hk2⟩
        · have hjn : j < news.length := by rw [hsrc.nl, ← hr2l]; exact hj1
          have hb0 : L.o + lo * sz + news.length ≤ arr.size := by omega
          refine ⟨news[j], ?_, hsrc.ok.2 j _ c (List.getElem?_eq_getElem hjn) hj2, hone j _ (List.getElem?_eq_getElem hjn)⟩
          rw [← Nat.add_assoc, setAll_in _ _ _ _ hb0 hjn]
          simp
        · obtain ⟨x, h3, h4⟩ := hcs k c hk2
          have := hsrc.nl
          rw [← hr2l] at this
          exact ⟨x, by rw [setAll_out _ _ _ _ (by omega)]; exact h3, h4⟩
    · exact h.elim
  · exact h.elim

end
end Go.V
/- The abstract machine is sound, part 11: an operation. -/
namespace Go.V

/-- The types' facts, where they are told, are the program's. -/
def TyOk (P : Program) (ty : TypeId → Ty) : Prop := ∀ i, okT (ty i) = true → ty i = tyOf P i

section
variable {P : Program} {G : Ctx} {κ : Know} {ρ : Place} {t : TL} {l : LL} {a : Act} {w : World} {K : AV → TL → LL → Prop}

/-- What is so behind an operation. -/
def After (G : Ctx) (κ : Know) (a : Act) (K : AV → TL → LL → Prop) (v : Value) (w' : World) : Prop :=
  ∃ κ' ρ' x t' l', κ.le κ' ∧ Rel G κ' ρ' t' l' a w' ∧ AVR κ' ρ' v x ∧ K x t' l'

def OpGoes (P : Program) (G : Ctx) (κ : Know) (a : Act) (K : AV → TL → LL → Prop) : Result Next → Prop
  | .ok (.value v) w' => After G κ a K v w'
  | .ok .skip w' => After G κ a K undef w'
  | .ok (.enter f args) w' => Calls P f args w' fun e w'' => ∃ v, e = .returned v ∧ After G κ a K v w''
  | _ => False

theorem Pure.goes {s : Sem Value} (hr : Rel G κ ρ t l a w) (h : Pure P κ ρ w s fun v => K v t l) : OpGoes P G κ a K ((do pure (.value (← s)) : Sem Next).run P w) := by
  obtain ⟨v, x, h1, h2, h3⟩ := h
  simp only [Sem.run_bind, h1, Result.andThen_ok, Sem.run_pure]
  exact ⟨κ, ρ, x, t, l, Know.le_refl _, hr, h2, h3⟩

theorem Goes.goes {s : Sem Value} (h : Goes G κ a (s.run P w) K) : OpGoes P G κ a K ((do pure (.value (← s)) : Sem Next).run P w) := by
  obtain ⟨v, w', κ', ρ', x, t', l', h1, h2, h3, h4, h5⟩ := h
  simp only [Sem.run_bind, h1, Result.andThen_ok, Sem.run_pure]
  exact ⟨κ', ρ', x, t', l', h2, h3, h4, h5⟩

theorem goes_then {s : Sem Value} (h : OpGoes P G κ a K ((do pure (.value (← s)) : Sem Next).run P w)) : OpGoes P G κ a K ((s.run P w).andThen fun a w' => Result.ok (Next.value a) w') := by
  simpa only [Sem.run_bind, Sem.run_pure] using h

theorem evs_get {t : TL} : ∀ {xs : List Operand} (i : Nat) o, xs[i]? = some o → (evs t xs)[i]? = some (ev t o)
  | [], i, o, h => by simp at h
  | x :: r, 0, o, h => by simp at h; subst h; rfl
  | x :: r, i + 1, o, h => by simpa [evs] using evs_get (xs := r) i o (by simpa using h)
theorem evs_length {t : TL} : ∀ {xs : List Operand}, (evs t xs).length = xs.length
  | [] => rfl
  | _ :: r => by simp [evs, evs_length (xs := r)]
theorem evps_length {t : TL} : ∀ {xs : List (Nat × Operand)}, (evps t xs).length = xs.length
  | [] => rfl
  | _ :: r => by simp [evps, evps_length (xs := r)]
theorem evps_get {t : TL} : ∀ {xs : List (Nat × Operand)} (i : Nat) j x, (evps t xs)[i]? = some (j, x) → ∃ o, xs[i]? = some (j, o) ∧ x = ev t o
  | [], i, j, x, h => by simp [evps] at h
  | (k, o) :: r, 0, j, x, h => by simp [evps] at h; obtain ⟨rfl, rfl⟩ := h; exact ⟨o, rfl, rfl⟩
  | (k, o) :: r, i + 1, j, x, h => by simpa using evps_get (xs := r) i j x (by simpa [evps] using h)

theorem okT_of_sh {T : Ty} {n : Nat} (h : Nat.beq T.sh n = true) (hn : n < 99) : okT T = true := by
  have := Nat.eq_of_beq_eq_true h
  exact Nat.ble_eq_true_of_le (by omega)

theorem parts_rel (hr : Rel G κ ρ t l a w) (ps : Array (Nat × Operand)) : (evps t ps.toList).length = (ps.map fun (i, x) => (i, a.eval x)).size ∧
    ∀ (k : Nat) i x j v, (evps t ps.toList)[k]? = some (i, x) → (ps.map fun (i, x) => (i, a.eval x))[k]? = some (j, v) → i = j ∧ AVR κ ρ v x := by
  refine ⟨by simp [evps_length], fun k i x j v h1 h2 => ?_⟩
  obtain ⟨o, h3, rfl⟩ := evps_get k i x h1
  have h3' : ps[k]? = some (i, o) := by simpa using h3
  simp [h3'] at h2
  obtain ⟨rfl, rfl⟩ := h2
  exact ⟨rfl, hr.ev o⟩

theorem optK_iff {x : Option Operand} {K : Option AV → Prop} : optK t x K ↔ K (x.map (ev t)) := by
  cases x with
  | none => exact Iff.rfl
  | some x => simp [optK, evK_iff]

theorem opt_rel (hr : Rel G κ ρ t l a w) (x : Option Operand) : (∀ b, x.map (ev t) = some b → ∃ v, x.map a.eval = some v ∧ AVR κ ρ v b) ∧ (x.map (ev t) = none → x.map a.eval = none) := by
  cases x with
  | none => simp
  | some x => exact ⟨fun b hb => by simp at hb; subst hb; exact ⟨_, rfl, hr.ev x⟩, by simp⟩

theorem map_one {args : Array Operand} {x : AV} (f : Operand → Value) (h : evs t args.toList = [x]) : ∃ o, args.map f = #[f o] ∧ x = ev t o := by
  obtain ⟨xs⟩ := args
  match xs, h with
  | [o], h => simp [evs] at h; exact ⟨o, by simp, h.symm⟩
theorem map_two {args : Array Operand} {x y : AV} (f : Operand → Value) (h : evs t args.toList = [x, y]) : ∃ o p, args.map f = #[f o, f p] ∧ x = ev t o ∧ y = ev t p := by
  obtain ⟨xs⟩ := args
  match xs, h with
  | [o, p], h => simp [evs] at h; exact ⟨o, p, by simp, h.1.symm, h.2.symm⟩

/-- Bytes to a string. -/
theorem conv2K_sound {a b : TypeId} {x : AV} {vx : Value} {K : AV → Prop} (hm : Mem G κ ρ l w) (h : conv2K (tyOf P a) (tyOf P b) x l K) (hx : AVR κ ρ vx x) : Pure P κ ρ w (convert a b vx) K := by
  have h0 := ifB_iff.1 h
  clear h
  obtain ⟨hb, h⟩ := h0
  simp only [Bool.and_eq_true] at hb
  obtain ⟨⟨⟨hs, hz⟩, hd⟩, hby⟩ := hb
  obtain ⟨e, ei, hu, he, he8, hes⟩ := tyOf_slice8 hs hby
  have hd := tyOf_string hd
  have back : ∀ (A : Addr) (cap n : Nat) (s : ByteArray), s.data.toList.length = n → (∀ j (hj : j < s.data.toList.length), w.cell? (A.add j) = some (.int .u8 (s.data.toList[j].toNat : Int))) →
      (convert a b (.slice (some A) n cap)).run P w = .ok (.string s) w := fun A cap n s hn hc => by
    subst hn
    exact run_convert_bytes_back w a b e A cap s.data.toList hu he8 hd hc
  split at h
  · rename_i id lo n sz
    split at h
    · rename_i m sz' rows hl
      have h0 := ifB_iff.1 h
      clear h
      obtain ⟨hb2, h⟩ := h0
      simp only [Bool.and_eq_true] at hb2
      have e1 := Nat.eq_of_beq_eq_true hb2.1
      have e2 := Nat.eq_of_beq_eq_true hb2.2
      subst e1; subst e2
      obtain ⟨r, hr, hle, ⟨s, hs8, hk⟩⟩ := h
      have hob := hm.ob id
      rw [hl] at hob
      obtain ⟨L, arr, E, fz, hL, hh, hN, _, hz1, hkn, hcs⟩ := hob
      obtain ⟨cap, A, rfl, hA, hc1, hc2, hc3⟩ := hx.ls_at hL
      have hrl : r.length = n := by rw [← hr]; simp; omega
      have hsl : s.data.toList.length = n := by rw [← hrl, hs8]; simp
      refine .c (back A cap n s hsl fun j hj => ?_) hk
      have hA' : A = ⟨L.b, L.o + lo * 1, none⟩ := hA.resolve_right (by omega)
      rw [hA', Addr.add_none, cell_heap hh]
      have hrj : r[j]? = some [.s (.int .u8 (s.data.toList[j].toNat : Int))] := by rw [hs8, List.getElem?_map, List.getElem?_eq_getElem hj]; rfl
      rw [← hr] at hrj
      have hrj' : rows[lo + j]? = some [.s (.int .u8 (s.data.toList[j].toNat : Int))] := by
        rw [List.getElem?_take_of_lt (by omega), List.getElem?_drop] at hrj; exact hrj
      have hfl := flatten_get hz1 hrj' 0 (by omega)
      obtain ⟨x, h4, h5, _⟩ := hcs _ _ hfl
      cases h5
      rw [← h4]; congr 1; omega
    · exact h.elim
  · rename_i rows
    obtain ⟨s, hs8, hk⟩ := h
    have hrz : ∀ r, r ∈ rows → r.length = 1 := fun r hr => by rw [hs8] at hr; obtain ⟨y, _, rfl⟩ := List.mem_map.1 hr; rfl
    have hsl : s.data.toList.length = rows.length := by rw [hs8]; simp
    have hrep := hx.repr
    have emp : rows = [] → s = ByteArray.empty := fun e => by
      rw [e] at hsl
      have : s.data.toList = [] := List.length_eq_zero_iff.1 (by simpa using hsl)
      cases s with | mk d =>
        simp only at this
        have : d = #[] := by apply Array.toList_inj.1; simpa using this
        subst this; rfl
    cases hrep with
    | nil =>
      rw [emp rfl] at hk
      exact .c (run_convert_bytes_nil w a e hu he8 0 0 b hd) hk
    | none A cap =>
      cases A with
      | none => rw [emp rfl] at hk; exact .c (run_convert_bytes_nil w a e hu he8 0 cap b hd) hk
      | some A => exact .c (back A cap 0 s (by rw [hsl]; rfl) fun j hj => by rw [hsl] at hj; simp at hj) hk
    | sl bl off n cap _ vs hn hc hkk hr =>
      refine .c (back _ cap n s (by rw [hsl, hn]) fun j hj => ?_) hk
      have hrj : rows[j]? = some [.s (.int .u8 (s.data.toList[j].toNat : Int))] := by rw [hs8, List.getElem?_map, List.getElem?_eq_getElem hj]; rfl
      have hfl := flatten_get hrz hrj 0 (by omega)
      rw [Nat.mul_one, Nat.add_zero] at hfl
      have h1 := hm.kn _ _ _ (hkk j _ (by simpa using hfl))
      have h2 := hr j _ (by simpa using hfl)
      rw [Addr.add_none, h1]
      generalize vs j = vj at h2
      cases h2; rfl
  · exact h.elim

theorem vcOp_sound {ty : TypeId → Ty} (hty : TyOk P ty) {o : Oper} (hr : Rel G κ ρ t l a w) (h : vcOp P ty o.op o.dst t l K) : OpGoes P G κ a K ((execOp a.eval o).run P w) := by
  unfold vcOp at h
  split at h
  all_goals rename_i hop
  · -- move
    have := evK_iff.1 h
    simp only [execOp, hop, Sem.run_pure]
    exact ⟨κ, ρ, _, t, l, Know.le_refl _, hr, hr.ev _, this⟩
  · have := evK_iff.1 h
    simp only [execOp, hop, Sem.run_pure]
    exact ⟨κ, ρ, _, t, l, Know.le_refl _, hr, hr.ev _, this⟩
  · -- pick
    rename_i c x y
    have h := evK_iff.1 h
    have hc := hr.ev c
    split at h
    · rename_i e; rw [e] at hc
      have := evK_iff.1 h
      simp only [execOp, hop, hc.val, asBool, Sem.run_bind, Sem.run_pure, Result.andThen_ok, if_true]
      exact ⟨κ, ρ, _, t, l, Know.le_refl _, hr, hr.ev _, this⟩
    · rename_i e; rw [e] at hc
      have := evK_iff.1 h
      simp only [execOp, hop, hc.val, asBool, Sem.run_bind, Sem.run_pure, Result.andThen_ok, Bool.false_eq_true, if_false]
      exact ⟨κ, ρ, _, t, l, Know.le_refl _, hr, hr.ev _, this⟩
    · exact h.elim
  · -- alloc
    obtain ⟨hb, h⟩ := ifB_iff.1 h
    rw [hty _ hb] at h hb
    simp only [execOp, hop]
    exact (allocK_sound hr hb h).goes
  · -- box
    have h := evK_iff.1 h
    simp only [execOp, hop]
    exact (boxK_sound hr h (hr.ev _) (fun k hk => ev_ment hk _)).goes
  · -- build
    rename_i e ps
    obtain ⟨hb, h⟩ := ifB_iff.1 h
    have hok : okT (ty e) = true := by
      have hb := hb
      simp only [okS, Bool.and_eq_true] at hb
      exact okT_of_sh hb.1.1.1 (by decide)
    rw [hty _ hok] at h hb
    have h := partsK_iff.1 h
    obtain ⟨h1, h2⟩ := parts_rel hr ps
    simp only [execOp, hop]
    exact (buildK_sound hr.m hb h h1 h2).goes hr
  · -- buildSlice
    rename_i e n ps
    have h := partsK_iff.1 h
    have hok : okT (ty e) = true := by
      have := (ifB_iff.1 h).1
      simp only [Bool.and_eq_true] at this
      exact okT_of_sh this.1.1.1.1 (by decide)
    rw [hty _ hok] at h
    obtain ⟨h1, h2⟩ := parts_rel hr ps
    simp only [execOp, hop]
    exact (buildSliceK_sound hr h h1 h2).goes
  · -- load
    have h := evK_iff.1 h
    obtain ⟨hb, h⟩ := ifB_iff.1 h
    rw [hty _ hb] at h hb
    simp only [execOp, hop]
    exact (loadK_sound hr.m hb h (hr.ev _)).goes hr
  · -- store
    have h := evK_iff.1 h
    have h := evK_iff.1 h
    obtain ⟨hb, h⟩ := ifB_iff.1 h
    rw [hty _ hb] at h hb
    obtain ⟨w', l', h1, h2, h3⟩ := storeK_sound hr.m hb h (hr.ev _) (hr.ev _)
    simp only [execOp, hop, Sem.run_bind, h1, Result.andThen_ok, Sem.run_pure]
    exact ⟨κ, ρ, .j, t, l', Know.le_refl _, ⟨h2, hr.df, hr.sz, hr.tm⟩, .j _, h3⟩
  · -- nilCheck
    have h := evK_iff.1 h
    obtain ⟨v, x, h1, h2, h3⟩ := nilK_sound (P := P) hr.m h (hr.ev _) o hop a rfl
    rw [h1]
    exact ⟨κ, ρ, _, t, l, Know.le_refl _, hr, h2, h3⟩
  · -- binOp
    have h := evK_iff.1 h
    have h := evK_iff.1 h
    obtain ⟨hb, h⟩ := ifB_iff.1 h
    rw [hty _ hb] at h hb
    simp only [execOp, hop]
    exact (binK_sound h (hr.ev _) (hr.ev _)).goes hr
  · -- unOp
    have h := evK_iff.1 h
    simp only [execOp, hop]
    exact (unK_sound h (hr.ev _)).goes hr
  · -- convert
    rename_i e b x
    have h := evK_iff.1 h
    split at h
    · rename_i h4
      have hok : okT (ty e) = true := okT_of_sh h4 (by decide)
      have hb := (ifB_iff.1 h).1
      simp only [Bool.and_eq_true] at hb
      have hok2 : okT (ty b) = true := okT_of_sh hb.1.2 (by decide)
      rw [hty _ hok, hty _ hok2] at h
      simp only [execOp, hop]
      exact (conv2K_sound hr.m h (hr.ev _)).goes hr
    obtain ⟨hb, h⟩ := ifB_iff.1 h
    simp only [Bool.and_eq_true, Bool.or_eq_true] at hb
    obtain ⟨hb1, hb2⟩ := hb
    rw [hty _ hb2] at h
    have hok : okT (ty e) = true := hb1.elim (fun h => okT_of_sh h (by decide)) (fun h => okT_of_sh h (by decide))
    rw [hty _ hok] at hb1
    simp only [execOp, hop]
    exact (convK_sound (hb1.imp tyOf_int tyOf_string) h (hr.ev _)).goes hr
  · -- makeSlice
    rename_i e n m
    have h := evK_iff.1 h
    have h := evK_iff.1 h
    have hok : okT (ty e) = true := by
      unfold makeK at h
      split at h
      · have := (ifB_iff.1 h).1
        simp only [Bool.and_eq_true] at this
        exact okT_of_sh this.1.1.1 (by decide)
      · exact h.elim
    rw [hty _ hok] at h
    simp only [execOp, hop]
    exact (makeK_sound hr h (hr.ev _) (hr.ev _)).goes
  · -- slice
    rename_i e x lo hi
    have h := evK_iff.1 h
    have h := optK_iff.1 h
    have h := optK_iff.1 h
    have hok : okT (ty e) = true := by
      unfold sliceK at h
      split at h
      · exact okT_of_sh (ifB_iff.1 h).1 (by decide)
      · exact okT_of_sh (ifB_iff.1 h).1 (by decide)
      · split at h
        · have := (ifB_iff.1 h).1
          simp only [Bool.and_eq_true] at this
          exact okT_of_sh this.1.1 (by decide)
        · exact h.elim
      · have := (ifB_iff.1 h).1
        simp only [Bool.and_eq_true] at this
        exact okT_of_sh this.1.1.1 (by decide)
      · exact h.elim
    rw [hty _ hok] at h
    simp only [execOp, hop]
    exact (sliceK_sound hr.m h (hr.ev _) (opt_rel hr lo).1 (opt_rel hr lo).2 (opt_rel hr hi).1 (opt_rel hr hi).2).goes hr
  · -- fieldAddr
    have h := evK_iff.1 h
    obtain ⟨hb, h⟩ := ifB_iff.1 h
    rw [hty _ (okT_of_sh hb (by decide))] at h hb
    simp only [execOp, hop]
    exact (fieldAddrK_sound hr.m hb h (hr.ev _)).goes hr
  · -- indexAddr
    rename_i e x i
    have h := evK_iff.1 h
    have h := evK_iff.1 h
    have hok : okT (ty e) = true := by
      unfold indexAddrK at h
      split at h
      · have := (ifB_iff.1 h).1
        simp only [Bool.and_eq_true] at this
        exact okT_of_sh this.1.1 (by decide)
      · have := (ifB_iff.1 h).1
        simp only [Bool.and_eq_true] at this
        exact okT_of_sh this.1.1.1 (by decide)
      · have := (ifB_iff.1 h).1
        simp only [Bool.and_eq_true] at this
        exact okT_of_sh this.1.1 (by decide)
      · exact okT_of_sh (ifB_iff.1 h).1 (by decide)
      · exact h.elim
    rw [hty _ hok] at h
    simp only [execOp, hop]
    exact (indexAddrK_sound hr.m h (hr.ev _) (hr.ev _)).goes hr
  · -- index
    have h := evK_iff.1 h
    have h := evK_iff.1 h
    obtain ⟨hb, h⟩ := ifB_iff.1 h
    rw [hty _ (okT_of_sh hb (by decide))] at hb
    simp only [execOp, hop]
    exact (indexK_sound (tyOf_string hb) h (hr.ev _) (hr.ev _)).goes hr
  · -- extract
    have h := evK_iff.1 h
    simp only [execOp, hop]
    exact (extractK_sound h (hr.ev _)).goes hr
  · -- builtin
    rename_i b args tys
    rw [evsK_eq] at h
    unfold builtinK at h
    split at h
    · rename_i e tl x he hx
      obtain ⟨o1, h1, rfl⟩ := map_one a.eval hx
      have hty0 : tys[0]? = some e := by have : tys.toList[0]? = some e := by rw [he]; rfl
                                         simpa using this
      have hok : okT (ty e) = true := by
        unfold lenK at h
        split at h
        · exact okT_of_sh (ifB_iff.1 h).1 (by decide)
        · exact okT_of_sh (ifB_iff.1 h).1 (by decide)
        · exact okT_of_sh (ifB_iff.1 h).1 (by decide)
        · have := (ifB_iff.1 h).1
          simp only [Bool.and_eq_true] at this
          exact okT_of_sh this.1 (by decide)
        · exact h.elim
      rw [hty _ hok] at h
      simp only [execOp, hop, resolve, Sem.run_bind, Sem.run_pure, Result.andThen_ok, invoke, builtin, h1]
      exact goes_then ((lenK_sound hr.m h (hr.ev _) tys hty0).goes hr)
    · rename_i x y hx
      obtain ⟨o1, o2, h1, rfl, rfl⟩ := map_two a.eval hx
      simp only [execOp, hop, resolve, Sem.run_bind, Sem.run_pure, Result.andThen_ok, invoke, builtin, h1]
      exact goes_then ((maxK_sound h (hr.ev _) (hr.ev _)).goes hr)
    · rename_i x y hx
      obtain ⟨o1, o2, h1, rfl, rfl⟩ := map_two a.eval hx
      simp only [execOp, hop, resolve, Sem.run_bind, Sem.run_pure, Result.andThen_ok, invoke, builtin, h1]
      exact goes_then ((minK_sound h (hr.ev _) (hr.ev _)).goes hr)
    · rename_i e e' x y he hx
      obtain ⟨o1, o2, h1, rfl, rfl⟩ := map_two a.eval hx
      have htys : tys = #[e, e'] := by
        obtain ⟨tl⟩ := tys; simp at he; simp [he]
      subst htys
      have hb : okT (ty e) = true ∧ okT (ty e') = true := by
        unfold appK at h
        split at h
        · exact h.elim
        · have := (ifB_iff.1 h).1
          simp only [Bool.and_eq_true, Bool.or_eq_true] at this
          exact ⟨okT_of_sh this.1.1.1.1 (by decide), this.2.elim (fun h => okT_of_sh h (by decide)) (fun h => okT_of_sh h (by decide))⟩
      rw [hty _ hb.1, hty _ hb.2] at h
      simp only [execOp, hop, resolve, Sem.run_bind, Sem.run_pure, Result.andThen_ok, invoke, builtin, h1]
      exact goes_then (appK_sound hr h (hr.ev _) (hr.ev _)).goes
    · rename_i e e' x y he hx
      obtain ⟨o1, o2, h1, rfl, rfl⟩ := map_two a.eval hx
      have htys : tys = #[e, e'] := by
        obtain ⟨tl⟩ := tys; simp at he; simp [he]
      subst htys
      have hb : okT (ty e) = true := okT_of_sh (ifB_iff.1 h).1 (by decide)
      rw [hty _ hb] at h
      simp only [execOp, hop, resolve, Sem.run_bind, Sem.run_pure, Result.andThen_ok, invoke, builtin, h1]
      have hg : Goes G κ a ((Builtin.copy_ #[e, e'] o.type #[a.eval o1, a.eval o2]).run P w) K := by
        obtain ⟨v, w', κ', ρ', x, t', l', g1, g2, g3, g4, rfl, g5⟩ := copyK_sound (tx := e') (tyy := o.type) hr h (hr.ev _) (hr.ev _)
        exact ⟨v, w', κ', ρ', x, _, l', g1, g2, g3, g4, g5⟩
      exact goes_then hg.goes
    · exact h.elim
  · -- a function
    rename_i f args tys
    have h := evK_iff.1 h
    rw [evsK_eq] at h
    unfold callK at h
    split at h
    · rename_i g caps e
      have hf := hr.ev f
      rw [e] at hf
      have hf := hf.repr
      cases hfe : a.eval f with
      | func g' fs cv =>
        rw [hfe] at hf
        cases hf with
        | fn _ _ _ hn hcr =>
        obtain ⟨fn, hfn, hbody, hname⟩ := h.en
        have hrun : (execOp a.eval o).run P w = .ok (.enter g (args.map a.eval ++ cv)) w := by
          have hbody' : fn.body.isNone = false := by cases hb : fn.body <;> simp [hb] at hbody ⊢
          simp only [execOp, hop, resolve, Deferred.ofValue, hfe, invoke, callFunc, Sem.run_bind, Sem.run_pure, run_program, Result.andThen_ok, hfn, hname, hbody', Bool.false_eq_true, if_false]
          simp
        rw [hrun]
        refine Calls.mono (h.out G κ ρ a w _ hr ?_ ?_) ?_
        · simp [evs_length, dIs, hn]
        · intro i v x hv hx
          rcases Nat.lt_or_ge i args.size with hlt | hge
          · rw [Array.getElem?_append_left (by simpa using hlt)] at hv
            rw [List.getElem?_append_left (by simpa [evs_length] using hlt)] at hx
            have ho : args.toList[i]? = some args[i] := by simp
            rw [evs_get i _ ho] at hx
            cases hx
            have hv' : v = a.eval args[i] := by
              rw [Array.getElem?_map, Array.getElem?_eq_getElem hlt] at hv
              simpa using hv.symm
            rw [hv']
            exact hr.ev _
          · rw [Array.getElem?_append_right (by simpa using hge)] at hv
            rw [List.getElem?_append_right (by simpa [evs_length] using hge)] at hx
            obtain ⟨c, hc, rfl⟩ := dIs_get hx
            refine .d _ _ (hcr _ v c hv ?_)
            simpa [evs_length] using hc
        · rintro e w' ⟨v, κ', ρ', x, t', l', he, h1, h2, h3, h4⟩
          exact ⟨v, he, κ', ρ', x, t', l', h1, h2, h3, h4⟩
      | _ => rw [hfe] at hf; cases hf
    · exact h.elim
  · exact h.elim

end
end Go.V
/- The abstract machine is sound, part 12: regions in the text's order, code. -/
namespace Go.V

theorem AVR.less {κ : Know} {ρ ρ' : Place} {v : Value} {x : AV} (hρ : ∀ id L, ρ' id = some L → ρ id = some L) (h : AVR κ ρ v x) : AVR κ ρ' v x := by
  induction h with
  | j x => exact .j x
  | d x c h => exact .d x c h
  | ag vs cs hn ho h ih => exact .ag vs cs hn ho fun i v c h1 h2 => ih i v c h1 h2
  | tup vs cs hn h ih => exact .tup vs cs hn fun i v c h1 h2 => ih i v c h1 h2
  | lp x id off h => exact .lp x id off fun L' hL' => h L' (hρ _ _ hL')
  | pe x id i f sz h => exact .pe x id i f sz fun L' hL' => h L' (hρ _ _ hL')
  | ap x id n sz h => exact .ap x id n sz fun L' hL' => h L' (hρ _ _ hL')
  | ls x id lo len sz h => exact .ls x id lo len sz fun L' hL' => h L' (hρ _ _ hL')
  | ep b off rows i f sz vs hz h1 h2 => exact .ep b off rows i f sz vs hz h1 h2
  | pp b off cs o vs h1 h2 => exact .pp b off cs o vs h1 h2

section
variable {P : Program} {G : Ctx} {κ : Know} {ρ : Place} {t : TL} {l : LL} {a : Act} {w : World}

open Classical in
/-- Less may be told. -/
theorem Rel.less {t' : TL} {l' : LL} (hr : Rel G κ ρ t l a w) (ht : ∀ i, get i t' = .j ∨ get i t' = get i t) (hl : ∀ id, lget id l' = .no ∨ lget id l' = lget id l) : ∃ ρ', (∀ id L, ρ' id = some L → ρ id = some L) ∧ Rel G κ ρ' t' l' a w := by
  obtain ⟨hm, hdf, hsz, htm⟩ := hr
  let ρ' : Place := fun id => if lget id l' = .no then none else ρ id
  have hρ : ∀ id L, ρ' id = some L → ρ id = some L ∧ lget id l' = lget id l := fun id L h => by
    simp only [ρ'] at h
    split at h
    · cases h
    · rename_i hne; exact ⟨h, (hl id).resolve_left hne⟩
  refine ⟨ρ', fun id L h => (hρ id L h).1, ⟨fun id => ?_, fun i j Li Lj hij hi hj hw => ?_, fun i L hi hw => ?_, hm.kn, hm.one, hm.kn0, hm.fr, fun i L hi h => hm.par i L hi (hρ i L h).1⟩, hdf, hsz, fun i => ?_⟩
  · by_cases h : lget id l' = .no
    · rw [h]; exact if_pos h
    · rw [(hl id).resolve_left h]
      exact (hm.ob id).move (Know.le_refl _) (if_neg h) (fun _ _ => rfl) (fun _ _ _ _ _ _ _ hv => hv.less fun id L h => (hρ id L h).1)
  · obtain ⟨h1, h2⟩ := hρ i Li hi
    rw [h2] at hw
    exact hm.sep i j Li Lj hij h1 (hρ j Lj hj).1 hw
  · obtain ⟨h1, h2⟩ := hρ i L hi
    rw [h2] at hw
    exact hm.fre i L h1 hw
  · rcases ht i with h | h
    · rw [h]; exact .j _
    · rw [h]; exact (htm i).less fun id L h => (hρ id L h).1

theorem keepK_some {t : TL} : ∀ {ks : List Nat} {t' : TL} {K : TL → Prop}, keepK ks t t' K → (∀ i, get i t' = .j ∨ get i t' = get i t) → ∃ t'', K t'' ∧ ∀ i, get i t'' = .j ∨ get i t'' = get i t
  | [], t', K, h, ht => ⟨t', h, ht⟩
  | k :: r, t', K, h, ht => by
    unfold keepK at h
    split at h
    · exact keepK_some h ht
    · rw [force_eq] at h
      refine keepK_some h fun i => ?_
      rw [get_cons]
      by_cases hik : i = k
      · subst hik; exact .inr (if_pos rfl)
      · rw [if_neg hik]; exact ht i

theorem gcK_some {t : TL} {l0 : LL} : ∀ {l : LL} {K : LL → Prop}, gcK t l l0 K → ∃ l', K l' ∧ ∀ id, lget id l' = if tment id t || inBoxes id l0 then lget id l else .no
  | [], K, h => ⟨[], h, fun id => by simp [lget]⟩
  | (k, o) :: r, K, h => by
    unfold gcK at h
    split at h
    · rename_i hk
      obtain ⟨l', h1, h2⟩ := gcK_some h
      refine ⟨_, h1, fun id => ?_⟩
      rw [lget_cons, lget_cons]
      by_cases hid : id = k
      · subst hid; rw [if_pos rfl, if_pos rfl, if_pos hk]
      · rw [if_neg hid, if_neg hid]; exact h2 id
    · rename_i hk
      obtain ⟨l', h1, h2⟩ := gcK_some h
      refine ⟨_, h1, fun id => ?_⟩
      rw [lget_cons, h2 id]
      by_cases hid : id = k
      · subst hid; simp [hk]
      · rw [if_neg hid]

theorem bool_at {j g : Nat} {ops : Array Oper} {c : Bool} (hg : gslot (ops.toList.map (·.dst)) j = some g) (h : a.tmps.getD g undef = .bool c) : yielded ops a.tmps j = some c := by
  unfold gslot at hg
  have h1 : (ops[j]?).bind (·.dst) = some g := by
    simp only [List.getD_eq_getElem?_getD, List.getElem?_map] at hg
    cases h2 : ops[j]? with
    | none => simp [h2] at hg
    | some o => simpa [h2] using hg
  have h2 : a.tmps[g]? = some (.bool c) := by
    rw [Array.getD_eq_getD_getElem?] at h
    cases h3 : a.tmps[g]? with
    | none => rw [h3] at h; cases h
    | some v => rw [h3] at h; simp at h; rw [h]
  simp [yielded, h1, h2]

theorem tup_at {j g : Nat} {ops : Array Oper} {vs : Array Value} (hg : gslot (ops.toList.map (·.dst)) j = some g) (h : a.tmps.getD g undef = .tuple vs) : yielded ops a.tmps j = none := by
  unfold gslot at hg
  have h1 : (ops[j]?).bind (·.dst) = some g := by
    simp only [List.getD_eq_getElem?_getD, List.getElem?_map] at hg
    cases h2 : ops[j]? with
    | none => simp [h2] at hg
    | some o => simpa [h2] using hg
  rw [Array.getD_eq_getD_getElem?] at h
  cases h3 : a.tmps[g]? with
  | none => simp [yielded, h1, h3]
  | some v =>
    rw [h3] at h
    have : v = .tuple vs := by simpa using h
    subst this
    simp [yielded, h1, h3]

theorem Oper.wp_of_goes {o : Oper} {K : AV → TL → LL → Prop} {next : Act → World → Prop} {Q : Exit → Act → World → Prop} (hd : ∀ d, o.dst = some d → d < G.n)
    (h : OpGoes P G κ a K ((execOp a.eval o).run P w))
    (hK : ∀ κ' ρ' x t' l' a' w', κ.le κ' → Rel G κ' ρ' (push o.dst x t') l' a' w' → K x t' l' → next a' w') : o.wp P a w next Q := by
  have aft : ∀ v w', After G κ a K v w' → next (a.put o.dst v) w' := fun v w' ⟨κ', ρ', x, t', l', h1, h2, h3, h4⟩ => hK κ' ρ' x t' l' _ _ h1 (h2.push h3 hd) h4
  unfold Oper.wp
  generalize (execOp a.eval o).run P w = r at h
  cases r with
  | ok n w' =>
    cases n with
    | value v => exact aft v w' h
    | skip => exact aft _ w' h
    | enter f args => exact Calls.mono h fun e w'' ⟨v, he, h1⟩ => by subst he; exact aft v w'' h1
    | _ => exact h.elim
  | halt x w' => exact h.elim

/-- A region in the text's order. -/
theorem vcOps_sound {ty : TypeId → Ty} (hty : TyOk P ty) {ops : Array Oper} {K : TL → LL → Prop} {Q : Exit → Act → World → Prop} : ∀ (rest : List Oper) (κ : Know) (ρ : Place) (t : TL) (l : LL) (a : Act) (w : World),
    (∀ o, o ∈ rest → ∀ d, o.dst = some d → d < G.n) → Rel G κ ρ t l a w → vcOps P ty (ops.toList.map (·.dst)) rest t l K →
    (∀ κ' ρ' t' l' a' w', κ.le κ' → Rel G κ' ρ' t' l' a' w' → K t' l' → Q .normal a' w') → wpList P ops Q rest a w
  | [], κ, ρ, t, l, a, w, _, hr, h, hQ => hQ κ ρ t l a w (Know.le_refl _) hr h
  | o :: r, κ, ρ, t, l, a, w, hd, hr, h, hQ => by
    have hd1 := hd o (by simp)
    have hd2 : ∀ o', o' ∈ r → ∀ d, o'.dst = some d → d < G.n := fun o' ho => hd o' (by simp [ho])
    have yes : ∀ t, Rel G κ ρ t l a w → vcOp P ty o.op o.dst t l (fun x t l => vcOps P ty (ops.toList.map (·.dst)) r (push o.dst x t) l K) → o.wp P a w (wpList P ops Q r) Q := fun t hr h =>
      Oper.wp_of_goes hd1 (vcOp_sound hty hr h) fun κ' ρ' x t' l' a' w' h1 h2 h3 =>
        vcOps_sound hty r κ' ρ' _ l' a' w' hd2 h2 h3 fun κ'' ρ'' t'' l'' a'' w'' h4 => hQ κ'' ρ'' t'' l'' a'' w'' (Know.le_trans h1 h4)
    have no : ∀ t, Rel G κ ρ t l a w → vcOps P ty (ops.toList.map (·.dst)) r (push o.dst skipV t) l K → wpList P ops Q r (a.put o.dst undef) w := fun t hr h =>
      vcOps_sound hty r κ ρ _ l _ w hd2 (hr.push (.d _ _ (.s undef)) hd1) h hQ
    unfold vcOps at h
    unfold wpList
    split at h
    · rename_i hg
      rw [if_pos (by simp [Region.wanted, hg])]
      exact .inl (yes t hr h)
    · rename_i j want hg
      split at h
      · exact h.elim
      · rename_i g hgs
        unfold guardO at h
        split at h
        · rename_i c hc
          have hv := hr.tm g
          rw [hc] at hv
          have e := hv.val
          have hy := bool_at hgs e
          have h4 : Rel G κ ρ ((g, .d (.s (.bool c))) :: t) l a w := hr.told (by rw [e]; exact .mk _)
          cases want with
          | true =>
            cases c with
            | true => rw [if_pos (by simp [Region.wanted, hg, hy])]; exact .inl (yes _ h4 (h.t rfl))
            | false => rw [if_neg (by simp [Region.wanted, hg, hy])]; exact no _ h4 (h.f rfl)
          | false =>
            cases c with
            | true => rw [if_neg (by simp [Region.wanted, hg, hy])]; exact no _ h4 (h.t rfl)
            | false => rw [if_pos (by simp [Region.wanted, hg, hy])]; exact .inl (yes _ h4 (h.f rfl))
        · rename_i vs hc
          have hv := hr.tm g
          rw [hc] at hv
          have e := hv.val
          rw [if_neg (by
            have hy : yielded ops a.tmps j = none := tup_at hgs e
            simp [Region.wanted, hg, hy])]
          exact no _ hr h
        · exact h.elim

theorem dstOps_spec {n : Nat} : ∀ {l : List Oper}, dstOps n l = true → ∀ o, o ∈ l → ∀ d, o.dst = some d → d < n
  | [], _, o, ho, _, _ => by simp at ho
  | p :: r, h, o, ho, d, hd => by
    simp only [dstOps, Bool.and_eq_true] at h
    rcases List.mem_cons.1 ho with rfl | ho
    · rw [hd] at h; exact Nat.le_of_ble_eq_true h.1
    · exact dstOps_spec h.2 o ho d hd

theorem Lift.le {κ' : Know} {Q : Ex → TL → LL → Prop} (h : κ.le κ') {e : Exit} (hh : Lift G κ' Q e a w) : Lift G κ Q e a w :=
  let ⟨x, κ'', ρ', t', l', h1, h2, h3, h4⟩ := hh
  ⟨x, κ'', ρ', t', l', h1, Know.le_trans h h2, h3, h4⟩

theorem kept_sound {ks : List Nat} {K : TL → LL → Prop} (hr : Rel G κ ρ t l a w) (h : keepK ks t [] fun t => gcK t l l fun l => K t l) : ∃ ρ' t' l', Rel G κ ρ' t' l' a w ∧ K t' l' := by
  obtain ⟨t', h, ht⟩ := keepK_some h (fun i => .inl rfl)
  obtain ⟨l', h, hl⟩ := gcK_some h
  obtain ⟨ρ', _, hr'⟩ := hr.less (t' := t') (l' := l') ht (fun id => by rw [hl id]; split <;> simp)
  exact ⟨ρ', t', l', hr', h⟩

theorem vcCode_sound {ty : TypeId → Ty} (hty : TyOk P ty) {ks : List Nat} : ∀ (c : Code) (Q : Ex → TL → LL → Prop) (κ : Know) (ρ : Place) (t : TL) (l : LL) (a : Act) (w : World),
    dstCode G.n c = true → Rel G κ ρ t l a w → vcCode P ty ks c t l Q → c.wp P (Lift G κ Q) a w
  | .skip, Q, κ, ρ, t, l, a, w, _, hr, h => wp_skip ⟨.n, κ, ρ, t, l, rfl, Know.le_refl _, hr, h⟩
  | .region id ops false, Q, κ, ρ, t, l, a, w, hd, hr, h =>
    wp_region_list (vcOps_sound hty ops.toList κ ρ t l a w (dstOps_spec hd) hr h fun κ' ρ' t' l' a' w' h1 h2 h3 => by
      obtain ⟨ρ'', t'', l'', h4, h5⟩ := kept_sound h2 h3
      exact ⟨.n, κ', ρ'', t'', l'', rfl, h1, h4, h5⟩)
  | .region id ops true, Q, κ, ρ, t, l, a, w, hd, hr, h =>
    VDraw.out h G κ ρ a w hr (dstOps_spec hd) id _ fun κ' ρ' t' l' a' w' h1 h2 h3 => by
      obtain ⟨ρ'', t'', l'', h4, h5⟩ := kept_sound h2 h3
      exact ⟨.n, κ', ρ'', t'', l'', rfl, h1, h4, h5⟩
  | .seq x y, Q, κ, ρ, t, l, a, w, hd, hr, h => by
    simp only [dstCode, Bool.and_eq_true] at hd
    refine wp_seq (Code.wp_mono ?_ (vcCode_sound hty x _ κ ρ t l a w hd.1 hr h))
    rintro e a' w' ⟨x', κ', ρ', t', l', h1, h2, h3, h4⟩
    cases e with
    | normal =>
      simp only [exOf, Option.some.injEq] at h1; subst h1
      exact Code.wp_mono (fun e a w hh => hh.le h2) (vcCode_sound hty y Q κ' ρ' t' l' a' w' hd.2 h3 h4)
    | ret => simp only [exOf, Option.some.injEq] at h1; subst h1; exact ⟨.r, κ', ρ', t', l', rfl, h2, h3, h4⟩
    | exit id => simp only [exOf, Option.some.injEq] at h1; subst h1; exact ⟨.x id, κ', ρ', t', l', rfl, h2, h3, h4⟩
    | _ => simp [exOf] at h1
  | .block id c, Q, κ, ρ, t, l, a, w, hd, hr, h => by
    refine wp_block (Code.wp_mono ?_ (vcCode_sound hty c _ κ ρ t l a w hd hr h))
    rintro e a' w' ⟨x', κ', ρ', t', l', h1, h2, h3, h4⟩
    cases e with
    | normal => simp only [exOf, Option.some.injEq] at h1; subst h1; exact ⟨.n, κ', ρ', t', l', rfl, h2, h3, h4⟩
    | ret => simp only [exOf, Option.some.injEq] at h1; subst h1; exact ⟨.r, κ', ρ', t', l', rfl, h2, h3, h4⟩
    | exit id' =>
      simp only [exOf, Option.some.injEq] at h1; subst h1
      simp only [Exit.inBlock]
      simp only at h4
      by_cases hid : id' = id
      · subst hid; simp at h4 ⊢; exact ⟨.n, κ', ρ', t', l', rfl, h2, h3, h4⟩
      · have : Nat.beq id' id = false := Bool.eq_false_iff.2 fun e => hid (Nat.eq_of_beq_eq_true e)
        rw [this] at h4
        rw [if_neg hid]
        exact ⟨.x id', κ', ρ', t', l', rfl, h2, h3, h4⟩
    | _ => simp [exOf] at h1
  | .loop b, Q, κ, ρ, t, l, a, w, hd, hr, h => VLoop.out h G κ ρ a w hd hr
  | .cond c x y, Q, κ, ρ, t, l, a, w, hd, hr, h => by
    simp only [dstCode, Bool.and_eq_true] at hd
    unfold vcCode condK at h
    split at h
    · rename_i b hb
      have hv := hr.ev c
      rw [hb] at hv
      exact wp_cond_split hv.val (fun e => vcCode_sound hty x Q κ ρ t l a w hd.1 hr (h.t e)) (fun e => vcCode_sound hty y Q κ ρ t l a w hd.2 hr (h.f e))
    · exact h.elim
  | .exit id, Q, κ, ρ, t, l, a, w, _, hr, h => wp_exit ⟨.x id, κ, ρ, t, l, rfl, Know.le_refl _, hr, h⟩
  | .ret, Q, κ, ρ, t, l, a, w, _, hr, h => wp_ret ⟨.r, κ, ρ, t, l, rfl, Know.le_refl _, hr, h⟩
  | .rangeFunc _ _ _ _, _, _, _, _, _, _, _, _, _, h => h.elim
  | .label _, _, _, _, _, _, _, _, _, _, h => h.elim
  | .goto _, _, _, _, _, _, _, _, _, _, h => h.elim

end
end Go.V
/- Contracts of functions, and what a call of one comes to. -/
namespace Go.V

/-- The blocks that a call may write: those of the locals that it is handed. -/
def Mof (ρ : Place) (l : LL) : Nat → Prop := fun b => ∃ id L, ρ id = some L ∧ (lget id l).wr = true ∧ L.b = b

/-- What a call of f does: handed xs (data, and locals of l0), it hands back x, and its locals are l1. -/
structure Fn (P : Program) (f : FuncId) (xs : List AV) (l0 : LL) (x : AV) (l1 : LL) : Prop where
  en : Enters P f
  out : ∀ κ ρ w (vs : Array Value), Mem ⟨w, Mof ρ l0, κ, 0, ρ⟩ κ ρ l0 w → vs.size = xs.length → (∀ (i : Nat) v y, vs[i]? = some v → xs[i]? = some y → AVR κ ρ v y) →
    Calls P f vs w fun e w' => ∃ v κ' ρ', e = .returned v ∧ κ.le κ' ∧ Mem ⟨w, Mof ρ l0, κ, 0, ρ⟩ κ' ρ' l1 w' ∧ AVR κ' ρ' v x

mutual
def AV.ren (r : Nat → Nat) : AV → AV
  | .lp k o => .lp (r k) o
  | .pe k i f s => .pe (r k) i f s
  | .ap k n s => .ap (r k) n s
  | .ls k lo n s => .ls (r k) lo n s
  | .ag cs => .ag (AV.rens r cs)
  | .tup cs => .tup (AV.rens r cs)
  | .j => .j
  | .d c => .d c
  | .ep a b c e => .ep a b c e
  | .pp a b => .pp a b
def AV.rens (r : Nat → Nat) : List AV → List AV
  | [] => []
  | x :: xs => AV.ren r x :: AV.rens r xs
end

theorem rens_eq (r : Nat → Nat) : ∀ xs, AV.rens r xs = xs.map (AV.ren r)
  | [] => rfl
  | x :: xs => by simp [AV.rens, rens_eq r xs]

theorem ments_of {k : Nat} : ∀ {cs : List AV} {i : Nat} {c : AV}, cs[i]? = some c → AV.ment k c = true → AV.ments k cs = true
  | [], i, c, h, _ => by simp at h
  | x :: r, 0, c, h, hm => by simp at h; subst h; simp [AV.ments, hm]
  | x :: r, i + 1, c, h, hm => by simp [AV.ments, ments_of (cs := r) (i := i) (by simpa using h) hm]

theorem AVR.ren {κ : Know} {ρ ρ' : Place} {r : Nat → Nat} {v : Value} {x : AV} (h : AVR κ ρ v x) (hr : ∀ k, AV.ment k x = true → ∀ L, ρ' (r k) = some L → ρ k = some L) : AVR κ ρ' v (AV.ren r x) := by
  induction h with
  | j x => exact .j x
  | d x c h => exact .d x c h
  | ag vs cs hn ho h ih =>
    refine .ag vs _ (by rw [rens_eq]; simpa using hn) ho fun i v c h1 h2 => ?_
    rw [rens_eq, List.getElem?_map, Option.map_eq_some_iff] at h2
    obtain ⟨c', h3, rfl⟩ := h2
    exact ih i v c' h1 h3 fun k hk => hr k (by simpa [AV.ment] using ments_of h3 hk)
  | tup vs cs hn h ih =>
    refine .tup vs _ (by rw [rens_eq]; simpa using hn) fun i v c h1 h2 => ?_
    rw [rens_eq, List.getElem?_map, Option.map_eq_some_iff] at h2
    obtain ⟨c', h3, rfl⟩ := h2
    exact ih i v c' h1 h3 fun k hk => hr k (by simpa [AV.ment] using ments_of h3 hk)
  | lp x id off h => exact .lp x _ off fun L' hL' => h L' (hr id (by simp [AV.ment]) L' hL')
  | pe x id i f sz h => exact .pe x _ i f sz fun L' hL' => h L' (hr id (by simp [AV.ment]) L' hL')
  | ap x id n sz h => exact .ap x _ n sz fun L' hL' => h L' (hr id (by simp [AV.ment]) L' hL')
  | ls x id lo len sz h => exact .ls x _ lo len sz fun L' hL' => h L' (hr id (by simp [AV.ment]) L' hL')
  | ep b off rows i f sz vs hz h1 h2 => exact .ep b off rows i f sz vs hz h1 h2
  | pp b off cs o vs h1 h2 => exact .pp b off cs o vs h1 h2

/-- The names that a call's new locals get. -/
def renN (k j : Nat) : Nat := k + 1000 * j
theorem renN_inj {k i j : Nat} (h : renN k i = renN k j) : i = j := by unfold renN at h; omega

def renL (k : Nat) : LL → LL
  | [] => []
  | (j, o) :: r => (renN k j, o) :: renL k r

/-- Rows alone, whose new names nobody has. -/
def freshL (k : Nat) (t : TL) (l : LL) : LL → Bool
  | [] => true
  | (j, .row true _ _) :: r => !(tment (renN k j) t || lment (renN k j) l) && Nat.blt (renN k j) 1000000 && freshL k t l r
  | _ :: _ => false

theorem freshL_get {k : Nat} {t : TL} {l : LL} : ∀ {l1 : LL}, freshL k t l l1 = true → ∀ j, lget j l1 = .no ∨ ((∃ sz rows, lget j l1 = .row true sz rows) ∧ tment (renN k j) t = false ∧ lment (renN k j) l = false ∧ renN k j < 1000000)
  | [], _, j => .inl rfl
  | (i, .row true sz rows) :: r, h, j => by
    simp only [freshL, Bool.and_eq_true, Bool.not_eq_true', Bool.or_eq_false_iff] at h
    rw [lget_cons]
    by_cases hj : j = i
    · subst hj; rw [if_pos rfl]; exact .inr ⟨⟨sz, rows, rfl⟩, h.1.1.1, h.1.1.2, Nat.le_of_ble_eq_true h.1.2⟩
    · rw [if_neg hj]; exact freshL_get h.2 j

theorem lget_append : ∀ {a b : LL} (j : Nat), lget j (a ++ b) = if (a.map (·.1)).contains j then lget j a else lget j b
  | [], b, j => by simp
  | (k, x) :: r, b, j => by
    rw [List.cons_append, lget_cons, lget_append j, lget_cons, List.map_cons, List.contains_cons]
    by_cases h : j = k
    · subst h; simp
    · rw [if_neg h, if_neg h, beq_eq_false_iff_ne.2 h, Bool.false_or]

theorem lget_none : ∀ {a : LL} (j : Nat), (a.map (·.1)).contains j = false → lget j a = .no
  | [], j, _ => rfl
  | (k, x) :: r, j, h => by
    simp only [List.map_cons, List.contains_cons, Bool.or_eq_false_iff, beq_eq_false_iff_ne] at h
    rw [lget_cons, if_neg h.1]
    exact lget_none j h.2

theorem lget_renL {k : Nat} : ∀ {l : LL} (j : Nat), lget (renN k j) (renL k l) = lget j l
  | [], j => rfl
  | (i, o) :: r, j => by
    rw [renL, lget_cons, lget_cons, lget_renL j]
    by_cases h : j = i
    · subst h; simp
    · rw [if_neg h, if_neg fun e => h (renN_inj e)]

theorem renL_key {k : Nat} : ∀ {l : LL} (id : Nat), (renL k l).map (·.1) |>.contains id → ∃ j, id = renN k j ∧ (l.map (·.1)).contains j
  | [], id, h => by simp [renL] at h
  | (i, o) :: r, id, h => by
    simp only [renL, List.map_cons, List.contains_cons, Bool.or_eq_true, beq_iff_eq] at h
    rcases h with h | h
    · exact ⟨i, h, by simp⟩
    · obtain ⟨j, h1, h2⟩ := renL_key id h
      exact ⟨j, h1, by rw [List.map_cons, List.contains_cons, h2, Bool.or_true]⟩

theorem noObj_keys {k : Nat} {t : TL} {l : LL} : ∀ {l1 : LL}, freshL k t l l1 = true → ∀ j, (l1.map (·.1)).contains j = true → lget j l1 ≠ .no
  | [], _, j, h => by simp at h
  | (i, .row true sz rows) :: r, hf, j, h => by
    simp only [freshL, Bool.and_eq_true] at hf
    rw [lget_cons]
    by_cases hj : j = i
    · rw [if_pos hj]; simp
    · rw [if_neg hj]
      refine noObj_keys hf.2 j ?_
      simpa [hj] using h

/-- The values of x name none but the locals of l1. -/
def namesIn (l1 : LL) (x : AV) : Prop := ∀ j, AV.ment j x = true → lget j l1 ≠ .no

section
variable {P : Program} {G : Ctx} {κ : Know} {ρ : Place} {t : TL} {l : LL} {a : Act} {w : World}

theorem Mem.sub (hm : Mem G κ ρ l w) : Mem ⟨w, Mof (fun _ => none) [], κ, 0, fun _ => none⟩ κ (fun _ => none) [] w :=
  ⟨fun _ => rfl, fun i j Li Lj _ hi => (by cases hi), fun i L hi => (by cases hi), hm.kn, hm.one, fun b o x h => .inl h, ⟨rfl, rfl, rfl, Nat.le_refl _, fun _ _ _ => rfl⟩, fun i L _ h => h⟩

/-- Behind a call that is handed data alone: its new rows are the caller's, under new names. -/
theorem Rel.joined (hr : Rel G κ ρ t l a w) {κ' : Know} {ρ1 : Place} {l1 : LL} {w' : World} {k : Nat} (hk : κ.le κ') (hm1 : Mem ⟨w, Mof (fun _ => none) [], κ, 0, fun _ => none⟩ κ' ρ1 l1 w') (hf : freshL k t l l1 = true) :
    ∃ ρ', Rel G κ' ρ' t (renL k l1 ++ l) a w' ∧ ∀ v x, namesIn l1 x → AVR κ' ρ1 v x → AVR κ' ρ' v (AV.ren (renN k) x) := by
  obtain ⟨hm, hdf, hsz, htm⟩ := hr
  have hM : ∀ b, ¬ Mof (fun _ => none) [] b := fun b ⟨id, L, h, _⟩ => by cases h
  have hblk : ∀ b, b < w.heap.size → w'.heap[b]? = w.heap[b]? := fun b hb => hm1.fr.block b hb (hM b)
  have hnew : ∀ j L, ρ1 j = some L → lget j l1 ≠ .no → (∀ o x, ¬ κ' L.b o x) ∧ w.heap.size ≤ L.b := fun j L hj hl => by
    rcases freshL_get hf j with h | ⟨⟨sz, rows, h⟩, _⟩
    · exact absurd h hl
    · obtain ⟨h1, h2⟩ := hm1.fre j L hj (by rw [h]; rfl)
      exact ⟨h1, h2.resolve_right (hM _)⟩
  have hno : ∀ j L, ρ1 j = some L → lget j l1 ≠ .no := fun j L hj h => by
    have := hm1.ob j; rw [h] at this; simp only [ObR] at this; rw [this] at hj; cases hj
  classical
  let ρ' : Place := fun id => if h : ∃ j, id = renN k j ∧ lget j l1 ≠ .no then ρ1 h.choose else ρ id
  have hρ1 : ∀ j, lget j l1 ≠ .no → ρ' (renN k j) = ρ1 j := fun j hj => by
    have hex : ∃ i, renN k j = renN k i ∧ lget i l1 ≠ .no := ⟨j, rfl, hj⟩
    simp only [ρ']
    rw [dif_pos hex]
    rw [← renN_inj hex.choose_spec.1]
  have hρ2 : ∀ id, (¬ ∃ j, id = renN k j ∧ lget j l1 ≠ .no) → ρ' id = ρ id := fun id h => dif_neg h
  have hl1 : ∀ j, lget j l1 ≠ .no → lget (renN k j) (renL k l1 ++ l) = lget j l1 := fun j hj => by
    rw [lget_append]
    split
    · exact lget_renL j
    · rename_i hc
      have := lget_none (a := renL k l1) (renN k j) (by simpa using hc)
      rw [lget_renL] at this
      exact absurd this hj
  have hl2 : ∀ id, (¬ ∃ j, id = renN k j ∧ lget j l1 ≠ .no) → lget id (renL k l1 ++ l) = lget id l := fun id h => by
    rw [lget_append, if_neg]
    intro hc
    obtain ⟨j, h1, h2⟩ := renL_key id hc
    exact h ⟨j, h1, noObj_keys hf j h2⟩
  have hav : ∀ v x, (∀ j, lget j l1 ≠ .no → AV.ment (renN k j) x = false) → AVR κ ρ v x → AVR κ' ρ' v x := by
    intro v x hx h
    have := (h.mono hk).ren (ρ' := ρ') (r := id) (fun i hi L hL => by
      by_cases hex : ∃ j, i = renN k j ∧ lget j l1 ≠ .no
      · obtain ⟨j, rfl, hj⟩ := hex; rw [hx j hj] at hi; cases hi
      · rw [id, hρ2 i hex] at hL; exact hL)
    have e : AV.ren id x = x := by
      clear this h hx
      have key : ∀ n (x : AV), SizeOf.sizeOf x < n → AV.ren id x = x := by
        intro n
        induction n with
        | zero => intro x h; omega
        | succ n ih =>
          intro x hx
          have lst : ∀ (cs : List AV), (∀ c, c ∈ cs → SizeOf.sizeOf c < n) → AV.rens id cs = cs := by
            intro cs h
            rw [rens_eq]
            conv => rhs; rw [← List.map_id cs]
            exact List.map_congr_left fun c hc => ih c (h c hc)
          cases x with
          | ag cs => simp only [AV.ren]; rw [lst cs fun c hc => by have := List.sizeOf_lt_of_mem hc; simp at hx; omega]
          | tup cs => simp only [AV.ren]; rw [lst cs fun c hc => by have := List.sizeOf_lt_of_mem hc; simp at hx; omega]
          | _ => rfl
      exact key _ x (Nat.lt_succ_self _)
    rw [e] at this; exact this
  have hfresh : ∀ j, lget j l1 ≠ .no → tment (renN k j) t = false ∧ lment (renN k j) l = false := fun j hj => ⟨((freshL_get hf j).resolve_left hj).2.1, ((freshL_get hf j).resolve_left hj).2.2.1⟩
  refine ⟨ρ', ⟨⟨fun id => ?_, fun i j Li Lj hij hi hj hwi => ?_, fun i L hi hwi => ?_, hm1.kn, hm1.one, fun b o x h => ?_, ?_, fun i L hi h => ?_⟩, hdf, hsz, fun i => hav _ _ (fun j hj => tment_get (hfresh j hj).1 i) (htm i)⟩, fun v x hx h => h.ren fun j hj L hL => ?_⟩
  · by_cases hex : ∃ j, id = renN k j ∧ lget j l1 ≠ .no
    · obtain ⟨j, rfl, hj⟩ := hex
      rw [hl1 j hj]
      obtain ⟨⟨sz, rows, ho⟩, _⟩ := (freshL_get hf j).resolve_left hj
      have := hm1.ob j
      rw [ho] at this ⊢
      obtain ⟨L, arr, E, fz, g1, g2⟩ := this
      exact ⟨L, arr, E, fz, (hρ1 j hj).trans g1, g2⟩
    · rw [hl2 id hex]
      refine (hm.ob id).move hk (hρ2 id hex) (fun L hL => hblk _ ((hm.ob id).block hL)) ?_
      intro m cs hb i c v hc hv
      exact hav v c (fun j hj => ments_get ((lment_get (hfresh j hj).2).2 id m cs hb) i c hc) hv
  · by_cases hei : ∃ p, i = renN k p ∧ lget p l1 ≠ .no
    · obtain ⟨p, rfl, hp⟩ := hei
      rw [hρ1 p hp] at hi
      rw [hl1 p hp] at hwi
      by_cases hej : ∃ q, j = renN k q ∧ lget q l1 ≠ .no
      · obtain ⟨q, rfl, hq⟩ := hej
        rw [hρ1 q hq] at hj
        exact hm1.sep p q Li Lj (fun e => hij (by rw [e])) hi hj hwi
      · rw [hρ2 j hej] at hj
        have := (hm.ob j).block hj
        have := (hnew p Li hi hp).2
        omega
    · rw [hρ2 i hei] at hi
      rw [hl2 i hei] at hwi
      by_cases hej : ∃ q, j = renN k q ∧ lget q l1 ≠ .no
      · obtain ⟨q, rfl, hq⟩ := hej
        rw [hρ1 q hq] at hj
        have := (hm.ob i).block hi
        have := (hnew q Lj hj hq).2
        omega
      · rw [hρ2 j hej] at hj
        exact hm.sep i j Li Lj hij hi hj hwi
  · by_cases hei : ∃ p, i = renN k p ∧ lget p l1 ≠ .no
    · obtain ⟨p, rfl, hp⟩ := hei
      rw [hρ1 p hp] at hi
      obtain ⟨h1, h2⟩ := hnew p L hi hp
      exact ⟨h1, .inl (Nat.le_trans hm.fr.size h2)⟩
    · rw [hρ2 i hei] at hi
      rw [hl2 i hei] at hwi
      obtain ⟨h1, h2⟩ := hm.fre i L hi hwi
      refine ⟨fun o x hx => ?_, h2⟩
      rcases hm1.kn0 _ o x hx with h | h
      · exact h1 o x h
      · have := (hm.ob i).block hi
        have h := h.resolve_right (hM _)
        simp only at h; omega
  · rcases hm1.kn0 b o x h with h | h
    · exact hm.kn0 b o x h
    · exact .inr (.inl (Nat.le_trans hm.fr.size (h.resolve_right (hM _))))
  · have f1 := hm.fr; have f2 := hm1.fr
    exact ⟨f2.os.trans f1.os, f2.tape.trans f1.tape, f2.output.trans f1.output, Nat.le_trans f1.size f2.size,
      fun b hb hMb => (hblk b (Nat.lt_of_lt_of_le hb f1.size)).trans (f1.block b hb hMb)⟩
  · by_cases hex : ∃ j, i = renN k j ∧ lget j l1 ≠ .no
    · obtain ⟨j, rfl, hj⟩ := hex
      have := ((freshL_get hf j).resolve_left hj).2.2.2
      omega
    · rw [hρ2 i hex] at h; exact hm.par i L hi h
  · have hj' := hx j hj
    rw [hρ1 j hj'] at hL
    exact hL

theorem VCall.of_fn {f : FuncId} {xs : List AV} {x : AV} {l1 : LL} {k : Nat} {K : AV → TL → LL → Prop} (h : Fn P f xs [] x l1) (hn : namesIn l1 x) (hf : freshL k t l l1 = true)
    (hK : K (AV.ren (renN k) x) t (renL k l1 ++ l)) : VCall P f xs (some k) t l K where
  en := h.en
  out := fun G κ ρ a w vs hr hs hv => by
    refine Calls.mono (h.out κ (fun _ => none) w vs hr.m.sub hs fun i v y h1 h2 => (hv i v y h1 h2).less (fun id L h => by cases h)) ?_
    rintro e w' ⟨v, κ', ρ1, he, h1, h2, h3⟩
    obtain ⟨ρ', h4, h5⟩ := hr.joined h1 h2 hf
    exact ⟨v, κ', ρ', _, _, _, he, h1, h4, h5 v x hn h3, hK⟩

/-- A call that hands back data, or nothing new of the caller's. -/
theorem VCall.of_data {f : FuncId} {xs : List AV} {x : AV} {dst : Option Nat} {K : AV → TL → LL → Prop} (h : Fn P f xs [] x []) (hn : namesIn [] x) (hK : K (AV.ren (renN 0) x) t l) : VCall P f xs dst t l K where
  en := h.en
  out := fun G κ ρ a w vs hr hs hv => by
    refine Calls.mono (h.out κ (fun _ => none) w vs hr.m.sub hs fun i v y h1 h2 => (hv i v y h1 h2).less (fun id L h => by cases h)) ?_
    rintro e w' ⟨v, κ', ρ1, he, h1, h2, h3⟩
    obtain ⟨ρ', h4, h5⟩ := hr.joined (k := 0) h1 h2 rfl
    exact ⟨v, κ', ρ', _, _, _, he, h1, h4, h5 v x hn h3, hK⟩

end
end Go.V
/- Contracts proved: from the text to what a call does. -/
namespace Go.V

def slots : Nat → List AV → TL
  | _, [] => []
  | i, x :: r => (i, x) :: slots (i + 1) r

theorem get_slots : ∀ {xs : List AV} {i : Nat} (k : Nat), get k (slots i xs) = if i ≤ k then xs.getD (k - i) .j else .j
  | [], i, k => by simp [slots, get]
  | x :: r, i, k => by
    rw [slots, get_cons, get_slots]
    by_cases h : k = i
    · subst h; simp
    · rw [if_neg h]
      by_cases h2 : i + 1 ≤ k
      · rw [if_pos h2, if_pos (by omega)]
        have : k - i = (k - (i + 1)) + 1 := by omega
        rw [this]; simp
      · rw [if_neg h2, if_neg (by omega)]

/-- What is told of the slots, of the locals, is so there too. -/
def entT (t' : TL) : TL → Prop
  | [] => True
  | (k, x) :: r => get k t' = x ∧ entT t' r
def entL (l' : LL) : LL → Prop
  | [] => True
  | (k, o) :: r => lget k l' = o ∧ entL l' r

theorem entT_get {t' : TL} : ∀ {T : TL}, entT t' T → ∀ i, get i T = .j ∨ get i T = get i t'
  | [], _, i => .inl rfl
  | (k, x) :: r, h, i => by
    rw [get_cons]
    by_cases hi : i = k
    · subst hi; rw [if_pos rfl]; exact .inr h.1.symm
    · rw [if_neg hi]; exact entT_get h.2 i
theorem entL_get {l' : LL} : ∀ {L : LL}, entL l' L → ∀ i, lget i L = .no ∨ lget i L = lget i l'
  | [], _, i => .inl rfl
  | (k, x) :: r, h, i => by
    rw [lget_cons]
    by_cases hi : i = k
    · subst hi; rw [if_pos rfl]; exact .inr h.1.symm
    · rw [if_neg hi]; exact entL_get h.2 i

/-- Rows that a call was handed, as it leaves them. -/
def parsOnly : LL → Bool
  | [] => true
  | (k, .row true _ _) :: r => Nat.ble 1000000 k && parsOnly r
  | _ :: _ => false

theorem parsOnly_get : ∀ {l : LL}, parsOnly l = true → ∀ i, lget i l = .no ∨ (1000000 ≤ i ∧ ∃ sz rows, lget i l = .row true sz rows)
  | [], _, i => .inl rfl
  | (k, .row true sz rows) :: r, h, i => by
    simp only [parsOnly, Bool.and_eq_true] at h
    rw [lget_cons]
    by_cases hi : i = k
    · subst hi; rw [if_pos rfl]; exact .inr ⟨Nat.le_of_ble_eq_true h.1, sz, rows, rfl⟩
    · rw [if_neg hi]; exact parsOnly_get h.2 i

/-- The same data; or no elements, where nil is told. -/
def wkC (c c' : C) : Prop :=
  match c, c' with
  | .s (.slice none 0 0), .sl [] => True
  | c, c' => c = c'

theorem wkC_sound {κ : Know} {v : Value} {c c' : C} (h : wkC c c') (hr : Repr κ v c) : Repr κ v c' := by
  unfold wkC at h
  split at h
  · cases hr; exact .nil
  · subst h; exact hr

/-- Structs by their cells. -/
def flatA : List AV → List AV
  | [] => []
  | .ag cs :: r => cs ++ flatA r
  | x :: r => x :: flatA r

def shapeA : List AV → List AV → Bool
  | [], [] => true
  | .ag cs :: r, .ag cs' :: r' => Nat.beq cs.length cs'.length && shapeA r r'
  | .ag _ :: _, _ :: _ => false
  | _ :: _, .ag _ :: _ => false
  | _ :: r, _ :: r' => shapeA r r'
  | _, _ => false

/-- The results, as they are told: data, rows that become data, rows that are handed on. -/
def finK (l : LL) : List AV → List AV → Nat → LL → Prop
  | [], [], j, l1 => entL l l1 ∧ (parsOnly l1 && Nat.ble j 1000000) = true
  | x :: xs, y :: ys, j, l1 => match x, y with
    | .d (.s (.slice none 0 0)), .d (.sl []) => finK l xs ys (j + 1) l1
    | .d c, .d c' => c = c' ∧ finK l xs ys (j + 1) l1
    | .ls id lo n sz, .d (.sl r) => match lget id l with
      | .row true sz' rows => (sz = sz' ∧ n + lo ≤ rows.length ∧ (rows.drop lo).take n = r) ∧ finK (lrem id l) xs ys (j + 1) l1
      | _ => False
    | .ls id lo n sz, .ls j' lo' n' s2 => match Nat.ble 1000000 j' with
      | true => (j' = id ∧ lo' = lo ∧ n' = n ∧ s2 = sz ∧ Nat.ble j 1000000 = true) ∧ finK l xs ys (j + 1) l1
      | false => match lget id l with
        | .row true sz' rows => (sz = sz' ∧ s2 = sz ∧ j' = j ∧ lo' = lo ∧ n' = n ∧ Nat.blt j 1000000 = true) ∧ ∃ l2, l1 = (j, .row true sz rows) :: l2 ∧ finK (lrem id l) xs ys (j + 1) l2
        | _ => False
    | _, _ => False
  | _, _, _, _ => False

section
variable {P : Program} {G : Ctx} {κ : Know} {ρ : Place} {t : TL} {l : LL} {a : Act} {w : World}

/-- Its cells are known from here on. -/
def Know.add (κ : Know) (b o n : Nat) (arr : Array Value) : Know := fun b' o' x => κ b' o' x ∨ (b' = b ∧ o ≤ o' ∧ o' < o + n ∧ arr[o']? = some x)

theorem Mem.drop (hm : Mem G κ ρ l w) (id : Nat) : Mem G κ (ρ.put id none) (lrem id l) w := by
  have hp : ∀ {i L}, (ρ.put id none) i = some L → i ≠ id ∧ ρ i = some L := fun {i L} h => by
    unfold Place.put at h; split at h
    · cases h
    · rename_i hne; exact ⟨hne, h⟩
  refine ⟨fun i => ?_, fun i j Li Lj hij hi hj hw => ?_, fun i L hi hw => ?_, hm.kn, hm.one, hm.kn0, hm.fr, fun i L hi h => hm.par i L hi (hp h).2⟩
  · rw [lget_lrem]; split
    · rename_i e; subst e; exact put_self _ _
    · rename_i hne
      refine (hm.ob i).move (Know.le_refl _) (if_neg hne) (fun _ _ => rfl) (fun _ _ _ _ _ _ _ h => h.gone)
  · obtain ⟨h1, h2⟩ := hp hi
    rw [lget_lrem, if_neg h1] at hw
    exact hm.sep i j Li Lj hij h2 (hp hj).2 hw
  · obtain ⟨h1, h2⟩ := hp hi
    rw [lget_lrem, if_neg h1] at hw
    exact hm.fre i L h2 hw

theorem Mem.none (hm : Mem G κ ρ l w) : Mem G κ (fun _ => none) [] w :=
  ⟨fun _ => rfl, fun i j Li Lj _ hi => (by cases hi), fun i L hi => (by cases hi), hm.kn, hm.one, hm.kn0, hm.fr, fun i L _ h => (by cases h)⟩

/-- A row that may be written becomes data. -/
theorem Mem.freeze (hm : Mem G κ ρ l w) {id sz : Nat} {rows : List (List C)} {L : Loc} (hl : lget id l = .row true sz rows) (hL : ρ id = some L) :
    ∃ κ', κ.le κ' ∧ Mem G κ' (ρ.put id Option.none) (lrem id l) w ∧ (∀ b o x, κ' b o x → κ b o x ∨ b = L.b) ∧ (∀ v lo n, AVR κ ρ v (.ls id lo n sz) → n + lo ≤ rows.length → AVR κ' (ρ.put id Option.none) v (.d (.sl ((rows.drop lo).take n)))) := by
  have hob := hm.ob id
  rw [hl] at hob
  obtain ⟨L', arr, E, fz, hL', hh, hN, hfz, hz, hkn, hcs⟩ := hob
  rw [hL] at hL'; cases hL'
  obtain ⟨f1, f2⟩ := hm.fre id L hL (by rw [hl]; rfl)
  have hd := hm.drop id
  refine ⟨κ.add L.b L.o rows.flatten.length arr, fun b o x h => .inl h, ⟨fun i => ?_, hd.sep, fun i Li hi hw => ?_, fun b o x h => ?_, ⟨fun b o x h => ?_, fun b o x h => .inl (hm.one.2 b o x h)⟩, fun b o x h => ?_, hd.fr, hd.par⟩, fun b o x h => h.imp (fun h => h) And.left, fun v lo n hv hle => ?_⟩
  · refine (hd.ob i).move (fun b o x h => .inl h) rfl (fun _ _ => rfl) (fun _ _ _ _ _ _ _ h => h.mono fun b o x h => .inl h)
  · obtain ⟨h1, h2⟩ := hd.fre i Li hi hw
    refine ⟨fun o x hx => ?_, h2⟩
    rcases hx with hx | ⟨hx, _⟩
    · exact h1 o x hx
    · have hne : i ≠ id := fun e => by subst e; simp [Place.put] at hi
      have hi' : ρ i = some Li := by rw [← hi]; exact (if_neg hne).symm
      exact hm.sep id i L Li (Ne.symm hne) hL hi' (by rw [hl]; rfl) hx.symm
  · rcases h with h | ⟨rfl, _, _, h3⟩
    · exact hm.kn b o x h
    · rw [cell_heap hh]; exact h3
  · rcases h with h | ⟨rfl, h1, h2, h3⟩
    · exact hm.one.1 b o x h
    · obtain ⟨y, h4, _, h5⟩ := hcs (o - L.o) _ (List.getElem?_eq_getElem (by omega))
      rw [show L.o + (o - L.o) = o by omega, h3] at h4; cases h4; exact h5
  · rcases h with h | ⟨rfl, _⟩
    · exact hm.kn0 b o x h
    · exact .inr f2
  · obtain ⟨cap, A, rfl, hA, hc1, hc2, hc3⟩ := hv.ls_at hL
    have hrl : ((rows.drop lo).take n).length = n := by simp; omega
    rcases Nat.eq_zero_or_pos n with h0 | hp
    · subst h0; simp only [List.take_zero]; exact .d _ _ (.none _ _)
    · have hA' : A = ⟨L.b, L.o + lo * sz, Option.none⟩ := hA.resolve_right (by omega)
      subst hA'
      have hrz : ∀ q, q ∈ (rows.drop lo).take n → q.length = sz := fun q hq => hz q (List.mem_of_mem_drop (List.mem_of_mem_take hq))
      have hfl : rows.flatten.length = rows.length * sz := flatten_length hz
      have hlo : lo * sz + n * sz ≤ rows.length * sz := by rw [← Nat.add_mul]; exact Nat.mul_le_mul_right _ (by omega)
      have key : ∀ (k : Nat) (c : C), ((rows.drop lo).take n).flatten[k]? = some c → k < n * sz ∧ rows.flatten[lo * sz + k]? = some c := fun k c hc => by
        have hk := row_get hrz hrl hc
        exact ⟨hk, by rw [← flatten_sub hz hk]; exact hc⟩
      refine .d _ _ (.sl L.b (L.o + lo * sz) n cap _ (fun k => arr.getD (L.o + lo * sz + k) undef) hrl.symm hc1 (fun k c hc => ?_) (fun k c hc => ?_))
      all_goals
        obtain ⟨hk, hc'⟩ := key k c hc
        obtain ⟨x, h4, h5, _⟩ := hcs _ c hc'
        rw [← Nat.add_assoc] at h4
        have e : arr.getD (L.o + lo * sz + k) undef = x := by rw [Array.getD_eq_getD_getElem?, h4]; rfl
        rw [e]
      · exact .inr ⟨rfl, by omega, by omega, h4⟩
      · exact h5.mono fun b o x h => .inl h

/-- A place is given a name. -/
theorem Mem.name (hm : Mem G κ ρ l w) {k : Nat} {o : Ob} {L : Loc} (hb : ∀ j Lj, ρ j = some Lj → Lj.b ≠ L.b) (hκ : ∀ o x, ¬ κ L.b o x) (hfr : G.w0.heap.size ≤ L.b ∨ G.M L.b)
    (hl : lget k l = .no) (hx : ∀ i m cs, lget i l = .box m cs → AV.ments k cs = false) (ho : ObR κ (ρ.put k (some L)) w k o) (hsm : k < 1000000) : Mem G κ (ρ.put k (some L)) ((k, o) :: l) w := by
  refine hm.change (k := k) (ButB.refl w L.b) (fun j Lj _ hj => hb j Lj hj) hκ hfr (fun j hj => .inl (if_neg hj)) (fun j hj => .inl (by rw [lget_cons, if_neg hj])) (fun L1 h => by rw [put_self] at h; cases h; rfl) ?_ (by rw [lget_cons, if_pos rfl]) ho (fun L hi _ => by omega)
  intro v x j m cs hbx hxm hv
  obtain ⟨i, hi⟩ := List.mem_iff_getElem?.1 hxm
  exact hv.put (ments_get (hx j m cs hbx) i x hi)

theorem ments_dIs (k : Nat) : ∀ ds : List C, AV.ments k (dIs ds) = false
  | [] => rfl
  | d :: r => by simpa [dIs, AV.ments, AV.ment] using ments_dIs k r

theorem finK_sound : ∀ {xs ys : List AV} {j : Nat} {l1 l : LL} {κ : Know} {ρ : Place}, Mem G κ ρ l w → finK l xs ys j l1 →
    ∃ κ' ρ', κ.le κ' ∧ Mem G κ' ρ' l1 w ∧ (∀ b o x, κ' b o x → κ b o x ∨ ∃ i L, ρ i = some L ∧ (lget i l).wr = true ∧ L.b = b) ∧
      (∀ i L, ρ' i = some L → j ≤ i ∧ (lget i l1).wr = true ∧ ∃ i' L', ρ i' = some L' ∧ (lget i' l).wr = true ∧ L'.b = L.b) ∧ (∀ i m cs, lget i l1 ≠ .box m cs) ∧ xs.length = ys.length ∧
      (∀ (i : Nat) v x y, xs[i]? = some x → ys[i]? = some y → AVR κ ρ v x → AVR κ' ρ' v y) ∧ (∀ (i : Nat) y, ys[i]? = some y → ∀ k, AV.ment k y = true → j ≤ k) ∧ ∀ i L, 1000000 ≤ i → ρ' i = some L → ρ i = some L
  | [], [], j, l1, l, κ, ρ, hm, h => by
    unfold finK at h
    obtain ⟨h1, h2⟩ := h
    simp only [Bool.and_eq_true] at h2
    have hj := Nat.le_of_ble_eq_true h2.2
    have hp := parsOnly_get h2.1
    have hr : Rel G κ ρ [] l ⟨Array.replicate G.n undef, []⟩ w := ⟨hm, rfl, by simp, fun i => .j _⟩
    obtain ⟨ρ', g1, g2⟩ := hr.less (t' := []) (l' := l1) (fun i => .inl rfl) (entL_get h1)
    refine ⟨κ, ρ', Know.le_refl _, g2.m, fun b o x h => .inl h, fun i L hi => ?_, fun i m cs hb => ?_, rfl, fun i v x y h => (by simp at h), fun i y h => (by simp at h), fun i L _ h => g1 i L h⟩
    · have hob := g2.m.ob i
      rcases hp i with h3 | ⟨h3, sz, rows, h4⟩
      · rw [h3] at hob; simp only [ObR] at hob; rw [hob] at hi; cases hi
      · have hl : lget i l = .row true sz rows := by rcases entL_get h1 i with h5 | h5 <;> rw [h4] at h5; · cases h5
                                                     · exact h5.symm
        exact ⟨by omega, by rw [h4]; rfl, i, L, g1 i L hi, by rw [hl]; rfl, rfl⟩
    · rcases hp i with h3 | ⟨_, _, _, h3⟩ <;> rw [h3] at hb <;> cases hb
  | x :: xs, y :: ys, j, l1, l, κ, ρ, hm, h => by
    have step : ∀ {l1' : LL}, finK l xs ys (j + 1) l1' → (∀ κ' ρ' v, κ.le κ' → (∀ i L, 1000000 ≤ i → ρ' i = some L → ρ i = some L) → AVR κ ρ v x → AVR κ' ρ' v y) → (∀ k, AV.ment k y = true → j ≤ k) →
        ∃ κ' ρ', κ.le κ' ∧ Mem G κ' ρ' l1' w ∧ (∀ b o x, κ' b o x → κ b o x ∨ ∃ i L, ρ i = some L ∧ (lget i l).wr = true ∧ L.b = b) ∧
          (∀ i L, ρ' i = some L → j ≤ i ∧ (lget i l1').wr = true ∧ ∃ i' L', ρ i' = some L' ∧ (lget i' l).wr = true ∧ L'.b = L.b) ∧ (∀ i m cs, lget i l1' ≠ .box m cs) ∧ (x :: xs).length = (y :: ys).length ∧
          (∀ (i : Nat) v x' y', (x :: xs)[i]? = some x' → (y :: ys)[i]? = some y' → AVR κ ρ v x' → AVR κ' ρ' v y') ∧ (∀ (i : Nat) y', (y :: ys)[i]? = some y' → ∀ k, AV.ment k y' = true → j ≤ k) ∧ ∀ i L, 1000000 ≤ i → ρ' i = some L → ρ i = some L := by
      intro l1' h hxy hy0
      obtain ⟨κ', ρ', h1, h2, h3, h4, h5, h6, h7, h77, h78⟩ := finK_sound hm h
      refine ⟨κ', ρ', h1, h2, h3, fun i L hi => ?_, h5, by simp [h6], fun i v x' y' hx hy hv => ?_, fun i y' hy k hk => ?_, h78⟩
      · obtain ⟨h8, h9⟩ := h4 i L hi; exact ⟨by omega, h9⟩
      · cases i with
        | zero => simp at hx hy; subst hx; subst hy; exact hxy κ' ρ' v h1 h78 hv
        | succ i => exact h7 i v x' y' (by simpa using hx) (by simpa using hy) hv
      · cases i with
        | zero => simp at hy; subst hy; exact hy0 k hk
        | succ i => have := h77 i y' (by simpa using hy) k hk; omega
    unfold finK at h
    split at h
    · exact step h (fun κ' ρ' v hk _ hv => by have := hv.repr; cases this; exact .d _ _ .nil) (fun k h => by cases h)
    · obtain ⟨rfl, h⟩ := h
      exact step h (fun κ' ρ' v hk _ hv => .d _ _ (hv.repr.mono hk)) (fun k h => by cases h)
    · rename_i id lo n sz r
      split at h
      · rename_i sz' rows hl
        obtain ⟨⟨rfl, hle, rfl⟩, h⟩ := h
        have hob := hm.ob id
        rw [hl] at hob
        obtain ⟨L, _, _, _, hL, _⟩ := hob
        obtain ⟨κ1, g1, g2, g3, g4⟩ := hm.freeze hl hL
        obtain ⟨κ', ρ', h1, h2, h3, h4, h5, h6, h7, h77, h78⟩ := finK_sound g2 h
        have hp : ∀ {i Li}, (ρ.put id none) i = some Li → i ≠ id ∧ ρ i = some Li := fun {i Li} h => by
          unfold Place.put at h; split at h
          · cases h
          · rename_i hne; exact ⟨hne, h⟩
        refine ⟨κ', ρ', Know.le_trans g1 h1, h2, fun b o x hx => ?_, fun i Li hi => ?_, h5, by simp [h6], fun i v x' y' hx hy hv => ?_, fun i y' hy k hk => ?_, fun i Li hi h => (hp (h78 i Li hi h)).2⟩
        · rcases h3 b o x hx with h | ⟨i, Li, hi, hw, hb⟩
          · rcases g3 b o x h with h | h
            · exact .inl h
            · exact .inr ⟨id, L, hL, by rw [hl]; rfl, h.symm⟩
          · obtain ⟨e1, e2⟩ := hp hi
            rw [lget_lrem, if_neg e1] at hw
            exact .inr ⟨i, Li, e2, hw, hb⟩
        · obtain ⟨h8, h9, i', L', h10, h11, h12⟩ := h4 i Li hi
          obtain ⟨e1, e2⟩ := hp h10
          rw [lget_lrem, if_neg e1] at h11
          exact ⟨by omega, h9, i', L', e2, h11, h12⟩
        · cases i with
          | zero =>
            simp at hx hy; subst hx; subst hy
            have := (g4 v lo n hv hle).mono h1
            cases this with | d _ _ h => exact .d _ _ h
          | succ i =>
            have hx' : xs[i]? = some x' := by simpa using hx
            exact h7 i v x' y' hx' (by simpa using hy) (hv.mono g1).gone
        · cases i with
          | zero => simp at hy; subst hy; cases hk
          | succ i => have := h77 i y' (by simpa using hy) k hk; omega
      · exact h.elim
    · rename_i id lo n sz j' lo' n' s2
      split at h
      · rename_i hbig
        obtain ⟨⟨e1, e2, e3, e4, e5⟩, h⟩ := h
        subst e1; subst e2; subst e3; subst e4
        refine step h (fun κ' ρ' v hk hp hv => .ls _ _ _ _ _ fun L hL => hv.ls_at (hp _ L (Nat.le_of_ble_eq_true hbig) hL)) (fun k hk => ?_)
        have e : k = _ := (Nat.eq_of_beq_eq_true hk).symm
        have := Nat.le_of_ble_eq_true hbig
        have := Nat.le_of_ble_eq_true e5
        omega
      · split at h
        · rename_i sz' rows hl
          obtain ⟨⟨e1, e2, e3, e4, e5, hsm⟩, l2, rfl, h⟩ := h
          have hsm := Nat.le_of_ble_eq_true hsm
          have e2 := e2.symm
          subst e1; subst e2; subst e3; subst e4; subst e5
          have hob := hm.ob id
          rw [hl] at hob
          obtain ⟨L, arr, E, fz, hL, hh, hN, hfz, hz, hkn, hcs⟩ := hob
          obtain ⟨f1, f2⟩ := hm.fre id L hL (by rw [hl]; rfl)
          have hp : ∀ {i Li}, (ρ.put id none) i = some Li → i ≠ id ∧ ρ i = some Li := fun {i Li} h => by
            unfold Place.put at h; split at h
            · cases h
            · rename_i hne; exact ⟨hne, h⟩
          obtain ⟨κ', ρ', h1, h2, h3, h4, h5, h6, h7, h77, h78⟩ := finK_sound (hm.drop id) h
          have hsep : ∀ i Li, (ρ.put id none) i = some Li → Li.b ≠ L.b := fun i Li hi => by
            obtain ⟨e1, e2⟩ := hp hi
            exact Ne.symm (hm.sep id i L Li (Ne.symm e1) hL e2 (by rw [hl]; rfl))
          have hno : lget j' l2 = .no := by
            have := h2.ob j'
            cases ho : lget j' l2 with
            | no => rfl
            | box m cs => exact absurd ho (h5 _ _ _)
            | row m sz rows =>
              rw [ho] at this
              obtain ⟨Lx, _, _, _, hx, _⟩ := this
              have := (h4 j' Lx hx).1
              omega
          have hκ : ∀ o x, ¬ κ' L.b o x := fun o x hx => by
            rcases h3 _ o x hx with h | ⟨i, Li, hi, _, hb⟩
            · exact f1 o x h
            · exact hsep i Li hi hb
          have hm' := h2.name (k := j') (L := L) (o := .row true sz rows) (fun i Li hi => by
              obtain ⟨_, _, i', Li', e1, _, e2⟩ := h4 i Li hi
              rw [← e2]; exact hsep i' Li' e1) hκ f2 hno (fun i m cs hb => absurd hb (h5 i m cs)) ⟨L, arr, E, fz, put_self _ _, hh, hN, hfz, hz, hkn, fun k c hc => by
                obtain ⟨x, g1, g2, g3⟩ := hcs k c hc
                exact ⟨x, g1, g2.mono h1, g3⟩⟩ hsm
          have hlsnew : ∀ v, AVR κ ρ v (.ls id lo' n' sz) → AVR κ' (ρ'.put j' (some L)) v (.ls j' lo' n' sz) := fun v hv =>
            .ls _ _ _ _ _ fun L1 h => by rw [put_self] at h; cases h; exact hv.ls_at hL
          refine ⟨κ', ρ'.put j' (some L), h1, hm', fun b o x hx => ?_, fun i Li hi => ?_, fun i m cs => ?_, by simp [h6], fun i v x' y' hx hy hv => ?_, fun i y' hy k hk => ?_, fun i Li hi h => (hp (h78 i Li hi (by rw [← h]; exact (if_neg (by omega)).symm))).2⟩
          · rcases h3 b o x hx with h | ⟨i, Li, hi, hw, hb⟩
            · exact .inl h
            · obtain ⟨e1, e2⟩ := hp hi
              rw [lget_lrem, if_neg e1] at hw
              exact .inr ⟨i, Li, e2, hw, hb⟩
          · by_cases hij : i = j'
            · subst hij
              rw [put_self] at hi; cases hi
              exact ⟨Nat.le_refl _, by rw [lget_cons, if_pos rfl]; rfl, id, L, hL, by rw [hl]; rfl, rfl⟩
            · have hi' : ρ' i = some Li := by rw [← hi]; exact (if_neg hij).symm
              obtain ⟨h8, h9, i', L'', h10, h11, h12⟩ := h4 i Li hi'
              obtain ⟨e1, e2⟩ := hp h10
              rw [lget_lrem, if_neg e1] at h11
              exact ⟨by omega, by rw [lget_cons, if_neg hij]; exact h9, i', L'', e2, h11, h12⟩
          · rw [lget_cons]; split
            · simp
            · exact h5 i m cs
          · cases i with
            | zero => simp at hx hy; subst hx; subst hy; exact hlsnew v hv
            | succ i =>
              have hx' : xs[i]? = some x' := by simpa using hx
              have hy' : ys[i]? = some y' := by simpa using hy
              have hr := h7 i v x' y' hx' hy' hv.gone
              refine hr.put (Bool.eq_false_iff.2 fun hk => ?_)
              have := h77 i y' hy' _ hk
              omega
          · cases i with
            | zero => simp at hy; subst hy; simp [AV.ment] at hk; omega
            | succ i => have := h77 i y' (by simpa using hy) k hk; omega
        · exact h.elim
    · exact h.elim
  | [], _ :: _, _, _, _, _, _, _, h => by unfold finK at h; exact h.elim
  | _ :: _, [], _, _, _, _, _, _, h => by unfold finK at h; exact h.elim

/-- From the cells to the results. -/
theorem flatA_get {κ κ' : Know} {ρ ρ' : Place} : ∀ {xs ys : List AV}, shapeA xs ys = true → (∀ (i : Nat) v x y, (flatA xs)[i]? = some x → (flatA ys)[i]? = some y → AVR κ ρ v x → AVR κ' ρ' v y) → (flatA xs).length = (flatA ys).length →
    xs.length = ys.length ∧ ∀ (i : Nat) v x y, xs[i]? = some x → ys[i]? = some y → AVR κ ρ v x → AVR κ' ρ' v y
  | [], [], _, _, _ => ⟨rfl, fun i v x y h => (by simp at h)⟩
  | [], _ :: _, h, _, _ => by simp [shapeA] at h
  | x :: xs, [], h, _, _ => by unfold shapeA at h; split at h <;> simp_all
  | x :: xs, y :: ys, h, hg, hl => by
    have tail : ∀ {cs cs' : List AV}, flatA (x :: xs) = cs ++ flatA xs → flatA (y :: ys) = cs' ++ flatA ys → cs.length = cs'.length → shapeA xs ys = true →
        (∀ v, (∀ (k : Nat) u c c', cs[k]? = some c → cs'[k]? = some c' → AVR κ ρ u c → AVR κ' ρ' u c') → AVR κ ρ v x → AVR κ' ρ' v y) →
        (x :: xs).length = (y :: ys).length ∧ ∀ (i : Nat) v x' y', (x :: xs)[i]? = some x' → (y :: ys)[i]? = some y' → AVR κ ρ v x' → AVR κ' ρ' v y' := by
      intro cs cs' e1 e2 hc hs hxy
      rw [e1, e2] at hl
      simp only [List.length_append] at hl
      have h0 : ∀ (i : Nat) v a b, (flatA xs)[i]? = some a → (flatA ys)[i]? = some b → AVR κ ρ v a → AVR κ' ρ' v b := fun i v a b ha hb hv =>
        hg (cs.length + i) v a b (by rw [e1, List.getElem?_append_right (by omega)]; simpa using ha) (by rw [e2, List.getElem?_append_right (by omega), show cs.length + i - cs'.length = i by omega]; exact hb) hv
      obtain ⟨g1, g2⟩ := flatA_get hs h0 (by omega)
      refine ⟨by simp [g1], fun i v x' y' hx hy hv => ?_⟩
      cases i with
      | zero =>
        simp at hx hy; subst hx; subst hy
        refine hxy v (fun k u c c' hc1 hc2 hu => ?_) hv
        have hk := some_lt hc1
        have hk' := some_lt hc2
        exact hg k u c c' (by rw [e1, List.getElem?_append_left hk]; exact hc1) (by rw [e2, List.getElem?_append_left hk']; exact hc2) hu
      | succ i => exact g2 i v x' y' (by simpa using hx) (by simpa using hy) hv
    unfold shapeA at h
    split at h
    · rename_i e1 e2; cases e1
    · rename_i cs r cs' r' e1 e2
      cases e1; cases e2
      simp only [Bool.and_eq_true] at h
      replace h : cs.length = cs'.length ∧ shapeA xs ys = true := ⟨Nat.eq_of_beq_eq_true h.1, h.2⟩
      refine tail rfl rfl h.1 h.2 fun v hcs hv => ?_
      obtain ⟨vs, rfl, hn, ho, hv⟩ := hv.agg
      refine .ag vs _ (by rw [hn, h.1]) ho fun k u c' h1 h2 => ?_
      have hk : k < cs.length := by rw [h.1]; exact some_lt h2
      exact hcs k u _ c' (List.getElem?_eq_getElem hk) h2 (hv k u _ h1 (List.getElem?_eq_getElem hk))
    · cases h
    · cases h
    · rename_i a r b r' n1 n2 e1 e2
      cases e1; cases e2
      have f1 : flatA (x :: xs) = [x] ++ flatA xs := by
        cases x with
        | ag cs => exact (n1 cs rfl).elim
        | _ => rfl
      have f2 : flatA (y :: ys) = [y] ++ flatA ys := by
        cases y with
        | ag cs => exact (n2 cs rfl).elim
        | _ => rfl
      exact tail f1 f2 rfl h fun v hcs hv => hcs 0 v x y rfl rfl hv
    · cases h

end
end Go.V
/- Contracts proved, part 2: the text of a function. -/
namespace Go.V

def resK (ty : TypeId → Ty) (t : TL) (l : LL) : List ResultVar → (List AV → Prop) → Prop
  | [], K => K []
  | .tmp i :: r, K => force (get i t) fun x => resK ty t l r fun xs => K (x :: xs)
  | .cell i e :: r, K => force (get i t) fun a => ifB (okT (ty e)) (loadK (ty e) a l fun x => resK ty t l r fun xs => K (x :: xs))

def resOne (tmps : Array Value) : ResultVar → Sem Value
  | .tmp t => pure (tmps.getD t undef)
  | .cell p t => do loadVar t (← asAddr (tmps.getD p undef))

/-- What is asked at a function's end. -/
def endK (ty : TypeId → Ty) (rs : List ResultVar) (x1 : AV) (l1 : LL) (e : Ex) (t : TL) (l : LL) : Prop :=
  match e with
  | .x _ => False
  | _ => resK ty t l rs fun ys => match x1 with
    | .tup zs => ifB (!Nat.beq ys.length 1) (ifB (shapeA ys zs) (finK l (flatA ys) (flatA zs) 0 l1))
    | y => ifB (shapeA ys [y]) (finK l (flatA ys) (flatA [y]) 0 l1)

section
variable {P : Program} {G : Ctx} {κ : Know} {ρ : Place} {t : TL} {l : LL} {a : Act} {w : World}

theorem resK_sound {ty : TypeId → Ty} (hty : TyOk P ty) (hr : Rel G κ ρ t l a w) : ∀ {rs : List ResultVar} {K : List AV → Prop}, resK ty t l rs K →
    ∃ vs xs, (rs.mapM (resOne a.tmps)).run P w = .ok vs w ∧ vs.length = xs.length ∧ (∀ (i : Nat) v x, vs[i]? = some v → xs[i]? = some x → AVR κ ρ v x) ∧ K xs
  | [], K, h => ⟨[], [], by simp, rfl, by simp, h⟩
  | .tmp i :: r, K, h => by
    unfold resK at h
    rw [force_eq] at h
    obtain ⟨vs, xs, h1, h2, h3, h4⟩ := resK_sound hty hr h
    refine ⟨a.tmps.getD i undef :: vs, get i t :: xs, ?_, by simp [h2], fun j v x hv hx => ?_, h4⟩
    · simp only [List.mapM_cons, resOne, Sem.run_bind, Sem.run_pure, Result.andThen_ok, h1]
    · cases j with
      | zero => simp only [List.getElem?_cons_zero, Option.some.injEq] at hv hx; subst hv; subst hx; exact hr.tm i
      | succ j => exact h3 j v x (by simpa using hv) (by simpa using hx)
  | .cell i e :: r, K, h => by
    unfold resK at h
    rw [force_eq] at h
    obtain ⟨hb, h⟩ := ifB_iff.1 h
    rw [hty _ hb] at h hb
    obtain ⟨v0, x0, g1, g2, g3⟩ := loadK_sound (P := P) hr.m hb h (hr.tm i)
    obtain ⟨vs, xs, h1, h2, h3, h4⟩ := resK_sound hty hr g3
    refine ⟨v0 :: vs, x0 :: xs, ?_, by simp [h2], fun j v x hv hx => ?_, h4⟩
    · have : (do loadVar e (← asAddr (a.tmps.getD i undef)) : Sem Value).run P w = .ok v0 w := by
        cases hp : a.tmps.getD i undef with
        | pointer p =>
          cases p with
          | some ad => rw [hp] at g1; exact g1
          | none => rw [hp] at g1; simp [Instr.loadAt, Instr.sureAddr] at g1
        | _ => rw [hp] at g1; simp [Instr.loadAt, Instr.sureAddr] at g1
      simp only [List.mapM_cons, resOne, Sem.run_bind] at this ⊢
      simp only [this, Result.andThen_ok, h1, Sem.run_pure]
    · cases j with
      | zero => simp only [List.getElem?_cons_zero, Option.some.injEq] at hv hx; subst hv; subst hx; exact g2
      | succ j => exact h3 j v x (by simpa using hv) (by simpa using hx)

theorem results_run {fn : Func} {tmps : Array Value} {vs : List Value}
    (h : (fn.results.toList.mapM (resOne tmps)).run P w = .ok vs w) :
    (results fn tmps).run P w = .ok (if h : vs.toArray.size = 1 then vs.toArray[0] else .tuple vs.toArray) w := by
  have e : results fn tmps = (do let vs ← fn.results.mapM (resOne tmps); pure (if h : vs.size = 1 then vs[0] else .tuple vs)) := by
    unfold results
    congr 1
  rw [e, Array.mapM_eq_mapM_toList]
  simp only [Sem.run_bind, Sem.run_map]
  simp only [h, Result.andThen_ok, Sem.run_pure]

theorem Fn.intro {ty : TypeId → Ty} {ks : List Nat} {f : FuncId} {fn : Func} {c : Code} {xs : List AV} {l0 : LL} {x1 : AV} {l1 : LL} (hty : TyOk P ty) (hf : P.funcs[f]? = some fn) (hb : fn.body = some c)
    (hname : (fn.name == "runtime.NumGoroutine") = false) (hx : Nat.ble xs.length fn.ntmps = true) (hd : dstCode fn.ntmps c = true)
    (h : vcCode P ty ks c (slots 0 xs) l0 (endK ty fn.results.toList x1 l1)) : Fn P f xs l0 x1 l1 where
  en := ⟨fn, hf, by rw [hb]; rfl, hname⟩
  out := fun κ ρ w vs hm hvs hv => by
    have hxl := Nat.le_of_ble_eq_true hx
    refine calls_of_wp hf hb (Code.wp_mono ?_ (vcCode_sound (G := ⟨w, Mof ρ l0, κ, fn.ntmps, ρ⟩) hty c _ κ ρ _ _ _ w hd ?_ h))
    · rintro e a' w' ⟨x, κ', ρ', t', l', h1, h2, h3, h4⟩
      have key : endK ty fn.results.toList x1 l1 .n t' l' → a'.defers = [] ∧ ∃ v, (results fn a'.tmps).run P w' = .ok v w' ∧ ∃ v_1 κ' ρ', Ending.returned v = .returned v_1 ∧ κ.le κ' ∧ Mem ⟨w, Mof ρ l0, κ, 0, ρ⟩ κ' ρ' l1 w' ∧ AVR κ' ρ' v_1 x1 := by
        intro h4
        refine ⟨h3.df, ?_⟩
        unfold endK at h4
        obtain ⟨us, ys, g1, g2, g3, g4⟩ := resK_sound hty h3 h4
        refine ⟨_, results_run g1, (if h : us.toArray.size = 1 then us.toArray[0] else .tuple us.toArray), ?_⟩
        have hm3 : Mem ⟨w, Mof ρ l0, κ, 0, ρ⟩ κ' ρ' l' w' := ⟨h3.m.ob, h3.m.sep, h3.m.fre, h3.m.kn, h3.m.one, h3.m.kn0, ⟨h3.m.fr.os, h3.m.fr.tape, h3.m.fr.output, h3.m.fr.size, h3.m.fr.block⟩, h3.m.par⟩
        have one : ∀ y, ifB (shapeA ys [y]) (finK l' (flatA ys) (flatA [y]) 0 l1) → ∃ κ2 ρ2, Ending.returned (if h : us.toArray.size = 1 then us.toArray[0] else .tuple us.toArray) = Ending.returned (if h : us.toArray.size = 1 then us.toArray[0] else .tuple us.toArray) ∧ κ.le κ2 ∧ Mem ⟨w, Mof ρ l0, κ, 0, ρ⟩ κ2 ρ2 l1 w' ∧ AVR κ2 ρ2 (if h : us.toArray.size = 1 then us.toArray[0] else .tuple us.toArray) y := by
          intro y hfin
          replace hfin := ifB_iff.1 hfin
          obtain ⟨κ2, ρ2, k1, k2, _, _, _, k6, k7, _⟩ := finK_sound hm3 hfin.2
          replace ⟨k6, k7⟩ := flatA_get hfin.1 k7 k6
          have hl1 : us.length = 1 := by rw [g2, k6]; rfl
          refine ⟨κ2, ρ2, rfl, Know.le_trans h2 k1, k2, ?_⟩
          match us, ys, hl1, k6, g2 with
          | [u], [y'], _, _, _ => exact k7 0 u y' y rfl rfl (g3 0 u y' rfl rfl)
        split at g4
        · rename_i zs
          obtain ⟨hb1, g4⟩ := ifB_iff.1 g4
          replace g4 := ifB_iff.1 g4
          obtain ⟨κ2, ρ2, k1, k2, _, _, _, k6, k7, _⟩ := finK_sound hm3 g4.2
          replace ⟨k6, k7⟩ := flatA_get g4.1 k7 k6
          have hne : ¬ us.toArray.size = 1 := fun e => by
            have : ys.length = 1 := by rw [← g2]; simpa using e
            rw [this] at hb1; simp at hb1
          refine ⟨κ2, ρ2, rfl, Know.le_trans h2 k1, k2, ?_⟩
          rw [dif_neg hne]
          refine .tup _ _ (by simp [g2, k6]) fun i v z hv hz => ?_
          have hv' : us[i]? = some v := by simpa using hv
          have hiy : i < ys.length := by rw [← g2]; exact some_lt hv'
          have hyi : ys[i]? = some ys[i] := List.getElem?_eq_getElem hiy
          exact k7 i v _ z hyi hz (g3 i v _ hv' hyi)
        · exact one _ g4
      cases e with
      | normal => have h1' : some Ex.n = some x := h1; cases h1'; exact key h4
      | ret => have h1' : some Ex.r = some x := h1; cases h1'; exact key h4
      | exit id => have h1' : some (Ex.x id) = some x := h1; cases h1'; exact (show False from h4).elim
      | _ => simp [exOf] at h1
    · refine ⟨⟨hm.ob, hm.sep, hm.fre, hm.kn, hm.one, hm.kn0, ⟨rfl, rfl, rfl, Nat.le_refl _, fun _ _ _ => rfl⟩, fun i L _ h => h⟩, rfl, (by show (vs ++ Array.replicate (fn.ntmps - vs.size) undef).size = fn.ntmps; rw [Array.size_append, Array.size_replicate]; omega), fun i => ?_⟩
      rw [get_slots, if_pos (Nat.zero_le _)]
      simp only [Nat.sub_zero]
      rcases Nat.lt_or_ge i vs.size with hlt | hge
      · have h1 : (vs ++ Array.replicate (fn.ntmps - vs.size) undef).getD i undef = vs[i] := by
          rw [Array.getD_eq_getD_getElem?, Array.getElem?_append_left hlt, Array.getElem?_eq_getElem hlt]; rfl
        rw [h1]
        have hix : i < xs.length := by omega
        have h2 : xs.getD i .j = xs[i] := by simp [List.getD_eq_getElem?_getD, hix]
        rw [h2]
        exact hv i _ _ (by simp) (List.getElem?_eq_getElem hix)
      · have : xs.getD i .j = .j := by rw [List.getD_eq_getElem?_getD, List.getElem?_eq_none (by omega)]; rfl
        rw [this]; exact .j _

end
end Go.V
/- Rules: loops, names, rows that become data. -/
namespace Go.V

def renT (r : Nat → Nat) : TL → TL
  | [] => []
  | (k, x) :: t => (k, AV.ren r x) :: renT r t
def Ob.ren (r : Nat → Nat) : Ob → Ob
  | .no => .no
  | .box w cs => .box w (AV.rens r cs)
  | .row w sz rows => .row w sz rows
def renLL (r : Nat → Nat) : LL → LL
  | [] => []
  | (k, o) :: l => (r k, Ob.ren r o) :: renLL r l
def swp (k k' i : Nat) : Nat := bif Nat.beq i k then k' else i

theorem get_renT {r : Nat → Nat} : ∀ {t : TL} (i : Nat), get i (renT r t) = AV.ren r (get i t)
  | [], i => rfl
  | (k, x) :: t, i => by rw [renT, get_cons, get_cons, get_renT i]; split <;> rfl

theorem swp_eq (k k' i : Nat) : swp k k' i = if i = k then k' else i := by
  unfold swp
  by_cases h : i = k
  · subst h; simp
  · have : Nat.beq i k = false := Bool.eq_false_iff.2 fun e => h (Nat.eq_of_beq_eq_true e)
    simp [this, h]

theorem lget_swp {k k' : Nat} (hk : k ≠ k') : ∀ {l : LL}, lget k' l = .no → (∀ p, p ∈ l → p.1 ≠ k') → ∀ i, lget i (renLL (swp k k') l) = if i = k' then Ob.ren (swp k k') (lget k l) else if i = k then .no else Ob.ren (swp k k') (lget i l)
  | [], _, _, i => by simp [renLL, lget, Ob.ren]
  | (j, o) :: l, h, hp, i => by
    have hj : j ≠ k' := hp (j, o) (by simp)
    rw [lget_cons, if_neg (Ne.symm hj)] at h
    rw [renLL, lget_cons, lget_swp hk h (fun p hp' => hp p (by simp [hp'])), lget_cons, lget_cons, swp_eq]
    by_cases hjk : j = k
    · subst hjk
      simp only [if_true]
      by_cases hi : i = k'
      · simp [hi]
      · rw [if_neg hi, if_neg hi]
        by_cases hij : i = j
        · subst hij; simp [hi]
        · simp [hij, hi]
    · simp only [hjk, if_false]
      by_cases hij : i = j
      · subst hij; simp [hj, hjk]
      · simp only [hij, if_false]
        have : ¬ k = j := fun e => hjk e.symm
        simp only [this, if_false]

theorem lment_keys {k : Nat} : ∀ {l : LL}, lment k l = false → ∀ p, p ∈ l → p.1 ≠ k
  | [], _, p, hp => by simp at hp
  | (j, .box m cs) :: r, h, p, hp => by
    simp only [lment, Bool.or_eq_false_iff] at h
    rcases List.mem_cons.1 hp with rfl | hp
    · exact fun e => by rw [show j = k from e] at h; simp at h
    · exact lment_keys h.2 p hp
  | (j, .no) :: r, h, p, hp => by
    simp only [lment, Bool.or_eq_false_iff] at h
    rcases List.mem_cons.1 hp with rfl | hp
    · exact fun e => by rw [show j = k from e] at h; simp at h
    · exact lment_keys h.2 p hp
  | (j, .row m sz rows) :: r, h, p, hp => by
    simp only [lment, Bool.or_eq_false_iff] at h
    rcases List.mem_cons.1 hp with rfl | hp
    · exact fun e => by rw [show j = k from e] at h; simp at h
    · exact lment_keys h.2 p hp

section
variable {P : Program} {G : Ctx} {κ : Know} {ρ : Place} {t : TL} {l : LL} {a : Act} {w : World}

theorem ObR.ren {id id' : Nat} {ρ' : Place} {r : Nat → Nat} {o : Ob} (h : ObR κ ρ w id o) (hρ : ρ' id' = ρ id) (ha : ∀ m cs, o = .box m cs → ∀ (i : Nat) c v, cs[i]? = some c → AVR κ ρ v c → AVR κ ρ' v (AV.ren r c)) : ObR κ ρ' w id' (Ob.ren r o) := by
  cases o with
  | no => simp only [ObR, Ob.ren] at h ⊢; rw [hρ]; exact h
  | box m cs =>
    obtain ⟨L, arr, E, fz, h1, h2, h3, h4, h5⟩ := h
    refine ⟨L, arr, E, fz, by rw [hρ]; exact h1, h2, h3, h4, fun k c hc => ?_⟩
    rw [rens_eq, List.getElem?_map, Option.map_eq_some_iff] at hc
    obtain ⟨c', hc', rfl⟩ := hc
    obtain ⟨x, h6, h7, h8⟩ := h5 k c' hc'
    exact ⟨x, h6, ha m cs rfl k c' x hc' h7, h8⟩
  | row m sz rows =>
    obtain ⟨L, arr, E, fz, h1, h2⟩ := h
    exact ⟨L, arr, E, fz, by rw [hρ]; exact h1, h2⟩

/-- A local gets another name. -/
theorem Rel.swap (hr : Rel G κ ρ t l a w) {k k' : Nat} (hk : k ≠ k') (ht : tment k' t = false) (hl : lment k' l = false) (hsm : k < 1000000 ∧ k' < 1000000) : ∃ ρ', Rel G κ ρ' (renT (swp k k') t) (renLL (swp k k') l) a w := by
  obtain ⟨hm, hdf, hsz, htm⟩ := hr
  obtain ⟨hl1, hl2⟩ := lment_get hl
  have hlg := lget_swp hk hl1 (lment_keys hl)
  let ρ' : Place := fun i => if i = k' then ρ k else if i = k then none else ρ i
  have hav : ∀ v x, AV.ment k' x = false → AVR κ ρ v x → AVR κ ρ' v (AV.ren (swp k k') x) := fun v x hx h => h.ren fun i hi L hL => by
    rw [swp_eq] at hL
    by_cases hik : i = k
    · subst hik; simpa [ρ'] using hL
    · have hik' : i ≠ k' := fun e => by subst e; rw [hx] at hi; cases hi
      rw [if_neg hik] at hL
      simpa [ρ', hik, hik'] using hL
  have hback : ∀ i L, ρ' i = some L → ∃ j, ρ j = some L ∧ (lget i (renLL (swp k k') l)).wr = (lget j l).wr ∧ j = if i = k' then k else i := fun i L hi => by
    by_cases h1 : i = k'
    · subst h1
      refine ⟨k, by simpa [ρ'] using hi, ?_, by simp⟩
      rw [hlg, if_pos rfl]; cases lget k l <;> rfl
    · by_cases h2 : i = k
      · subst h2; simp [ρ', h1] at hi
      · refine ⟨i, by simpa [ρ', h1, h2] using hi, ?_, by simp [h1]⟩
        rw [hlg, if_neg h1, if_neg h2]; cases lget i l <;> rfl
  refine ⟨ρ', ⟨fun id => ?_, fun i j Li Lj hij hi hj hw => ?_, fun i L hi hw => ?_, hm.kn, hm.one, hm.kn0, hm.fr, fun i L hi h => ?_⟩, hdf, hsz, fun i => ?_⟩
  · rw [hlg]
    by_cases h1 : id = k'
    · rw [if_pos h1]
      exact (hm.ob k).ren (by simp [ρ', h1]) fun m cs e i c v hc hv => hav v c (ments_get (hl2 k m cs e) i c hc) hv
    · rw [if_neg h1]
      by_cases h2 : id = k
      · rw [if_pos h2]; simp [ObR, ρ', h2, hk]
      · rw [if_neg h2]
        exact (hm.ob id).ren (by simp [ρ', h1, h2]) fun m cs e i c v hc hv => hav v c (ments_get (hl2 id m cs e) i c hc) hv
  · obtain ⟨i', h1, h2, h3⟩ := hback i Li hi
    obtain ⟨j', h4, _, h6⟩ := hback j Lj hj
    rw [h2] at hw
    refine hm.sep i' j' Li Lj (fun e => hij ?_) h1 h4 hw
    rw [h3, h6] at e
    by_cases ei : i = k' <;> by_cases ej : j = k' <;> simp [ei, ej] at e ⊢
    · subst e; simp [ρ', ej] at hj
    · subst e; simp [ρ', ei] at hi
    · exact e
  · obtain ⟨i', h1, h2, _⟩ := hback i L hi
    rw [h2] at hw
    exact hm.fre i' L h1 hw
  · obtain ⟨i', h1, _, h3⟩ := hback i L h
    rw [if_neg (by omega)] at h3
    subst h3; exact hm.par i' L hi h1
  · rw [get_renT]
    exact hav _ _ (tment_get ht i) (htm i)

theorem VLoop.ren {ty : TypeId → Ty} {ks : List Nat} {b : Code} {Q : Ex → TL → LL → Prop} (k k' : Nat) (hc : (!Nat.beq k k' && !(tment k' t || lment k' l) && Nat.blt k 1000000 && Nat.blt k' 1000000) = true) (h : VLoop P ty ks b (renT (swp k k') t) (renLL (swp k k') l) Q) : VLoop P ty ks b t l Q where
  out := fun G κ ρ a w hd hr => by
    simp only [Bool.and_eq_true, Bool.not_eq_true', Bool.or_eq_false_iff] at hc
    obtain ⟨ρ', hr'⟩ := hr.swap (k := k) (k' := k') (fun e => by subst e; simp at hc) hc.1.1.2.1 hc.1.1.2.2 ⟨Nat.le_of_ble_eq_true hc.1.2, Nat.le_of_ble_eq_true hc.2⟩
    exact h.out G κ ρ' a w hd hr'

theorem least {p : Nat → Prop} (h : ∃ n, p n) : ∃ n, p n ∧ ∀ m, p m → n ≤ m := by
  obtain ⟨n, hn⟩ := h
  induction n using Nat.strongRecOn with
  | _ n ih =>
    by_cases hm : ∃ m, m < n ∧ p m
    · obtain ⟨m, h1, h2⟩ := hm; exact ih m h1 h2
    · exact ⟨n, hn, fun m hm' => Nat.le_of_not_lt fun hlt => hm ⟨m, hlt, hm'⟩⟩

open Classical in
/-- A loop, by what holds at its head. -/
theorem VLoop.inv {ty : TypeId → Ty} {ks : List Nat} {b : Code} {Q : Ex → TL → LL → Prop} (hty : TyOk P ty) {S : Type} (T : S → TL) (L : S → LL) (I : S → Prop) (μ : S → Nat) (s0 : S) (h0 : I s0) (hT : entT t (T s0)) (hL : entL l (L s0))
    (round : ∀ s, I s → vcCode P ty ks b (T s) (L s) fun e t' l' => match e with
      | .n => ∃ s', I s' ∧ μ s' < μ s ∧ entT t' (T s') ∧ entL l' (L s')
      | .r => Q .r t' l'
      | .x i => Q (.x i) t' l') : VLoop P ty ks b t l Q where
  out := fun G κ ρ a w hd hr => by
    let J : Act → World → Nat → Prop := fun a' w' n => ∃ s κ' ρ', μ s = n ∧ I s ∧ κ.le κ' ∧ Rel G κ' ρ' (T s) (L s) a' w'
    let M : Act → World → Nat := fun a' w' => if h : ∃ n, J a' w' n then Classical.choose (least h) else 0
    have hM : ∀ {a' w'}, (∃ n, J a' w' n) → J a' w' (M a' w') ∧ ∀ m, J a' w' m → M a' w' ≤ m := fun {a' w'} h => by
      have : M a' w' = Classical.choose (least h) := dif_pos h
      rw [this]; exact Classical.choose_spec (least h)
    refine wp_loop (fun a' w' => ∃ n, J a' w' n) M ?_ ?_
    · obtain ⟨ρ', _, h⟩ := hr.less (entT_get hT) (entL_get hL)
      exact ⟨_, s0, κ, ρ', rfl, h0, Know.le_refl _, h⟩
    · intro a1 w1 hJ
      obtain ⟨⟨s, κ1, ρ1, hs, hI, hk1, hr1⟩, _⟩ := hM hJ
      refine Code.wp_mono ?_ (vcCode_sound hty b _ κ1 ρ1 _ _ a1 w1 hd hr1 (round s hI))
      rintro e a2 w2 ⟨x, κ2, ρ2, t2, l2, h1, h2, h3, h4⟩
      cases e with
      | normal =>
        have h1' : some Ex.n = some x := h1
        cases h1'
        obtain ⟨s', g1, g2, g3, g4⟩ := h4
        obtain ⟨ρ', _, h⟩ := h3.less (entT_get g3) (entL_get g4)
        have hJ2 : J a2 w2 (μ s') := ⟨s', κ2, ρ', rfl, g1, Know.le_trans hk1 h2, h⟩
        have := (hM ⟨_, hJ2⟩).2 _ hJ2
        exact ⟨⟨_, hJ2⟩, by omega⟩
      | ret => have h1' : some Ex.r = some x := h1; cases h1'; exact ⟨.r, κ2, ρ2, t2, l2, rfl, Know.le_trans hk1 h2, h3, h4⟩
      | exit id => have h1' : some (Ex.x id) = some x := h1; cases h1'; exact ⟨.x id, κ2, ρ2, t2, l2, rfl, Know.le_trans hk1 h2, h3, h4⟩
      | _ => simp [exOf] at h1

end
end Go.V
namespace Go.V

/-! A table of types. -/

def tyGet (i : Nat) : List (Nat × Ty) → Ty
  | [] => Ty.none
  | (k, T) :: r => bif Nat.beq i k then T else tyGet i r

def TabOk (P : Program) : List (Nat × Ty) → Prop
  | [] => True
  | (k, T) :: r => T = tyOf P k ∧ TabOk P r

theorem tyOk_tab {P : Program} {tab : List (Nat × Ty)} (h : TabOk P tab) : TyOk P (fun i => tyGet i tab) := by
  intro i hi
  show tyGet i tab = tyOf P i
  replace hi : okT (tyGet i tab) = true := hi
  induction tab with
  | nil => exact absurd (show okT Ty.none = true from hi) (by decide)
  | cons p r ih =>
    obtain ⟨k, T⟩ := p
    have e : tyGet i ((k, T) :: r) = if i = k then T else tyGet i r := by
      show (bif Nat.beq i k then T else tyGet i r) = _
      by_cases h : i = k
      · subst h; simp
      · have : Nat.beq i k = false := Bool.eq_false_iff.2 fun e => h (Nat.eq_of_beq_eq_true e)
        simp [this, h]
    rw [e] at hi ⊢
    split
    · rename_i hik; subst hik; exact h.1
    · rename_i hik
      rw [if_neg hik] at hi
      exact ih h.2 hi

/-! The stops' rules. -/

theorem Wr.fit {z : Int} {k : IntKind} {K : Int → Prop} (h : k.wrap z = z) (hk : K z) : Wr z k K := ⟨by rw [h]; exact hk⟩

theorem wrap_i64 {z : Int} (h : -9223372036854775808 ≤ z) (h' : z ≤ 9223372036854775807) : IntKind.i64.wrap z = z := by
  simp only [IntKind.wrap, IntKind.signed, IntKind.bits]
  simp
  omega

end Go.V
/- A call that is handed rows of the caller's own. -/
namespace Go.V

/-- What is handed, as the caller names it, and as the contract names it. -/
def arg1 (r : Nat → Nat) (x y : AV) : Prop :=
  match x, y with
  | .d c, .d c' => wkC c c'
  | .ls id lo n sz, .ls p lo' n' sz' => id = r p ∧ lo = lo' ∧ n = n' ∧ sz = sz'
  | _, _ => False

def args1 (r : Nat → Nat) : List AV → List AV → Prop
  | [], [] => True
  | x :: xs, y :: ys => arg1 r x y ∧ args1 r xs ys
  | _, _ => False

def argR (r : Nat → Nat) : List AV → List AV → Prop
  | [], [] => True
  | x :: xs, y :: ys => (match x, y with
    | .ag cs, .ag cs' => args1 r cs cs'
    | x, y => arg1 r x y) ∧ argR r xs ys
  | _, _ => False

def parR (r : Nat → Nat) (l : LL) : LL → Prop
  | [] => True
  | (p, o) :: q => (lget (r p) l = o ∧ ∀ p', lget p' q ≠ .no → r p' ≠ r p) ∧ parR r l q

def ret (r : Nat → Nat) (k j : Nat) : Nat := bif Nat.ble 1000000 j then r j else renN k j

def retL (r : Nat → Nat) (k : Nat) : LL → LL
  | [] => []
  | (j, o) :: q => (ret r k j, o) :: retL r k q

/-- Rows that the call was handed and hands back, rows that are new. -/
def freshR (r : Nat → Nat) (k : Nat) (t : TL) (l l0 : LL) : LL → Bool
  | [] => true
  | (j, .row true _ _) :: q => (bif Nat.ble 1000000 j then (match lget j l0 with | .no => false | _ => true) else !(tment (renN k j) t || lment (renN k j) l) && Nat.blt (renN k j) 1000000) && freshR r k t l l0 q
  | _ :: _ => false

def pmap : List (Nat × Nat) → Nat → Nat
  | [], i => i
  | (p, a) :: r, i => bif Nat.beq i p then a else pmap r i

theorem arg1_get {r : Nat → Nat} {κ : Know} {ρ ρ0 : Place} {x y : AV} {v : Value} (h : arg1 r x y) (hp : ∀ p L, ρ0 p = some L → ρ (r p) = some L) (hv : AVR κ ρ v x) : AVR κ ρ0 v y := by
  unfold arg1 at h
  split at h
  · exact .d _ _ (wkC_sound h hv.repr)
  · obtain ⟨rfl, rfl, rfl, rfl⟩ := h
    exact .ls _ _ _ _ _ fun L hL => hv.ls_at (hp _ L hL)
  · exact h.elim

theorem args1_get {r : Nat → Nat} {κ : Know} {ρ ρ0 : Place} (hp : ∀ p L, ρ0 p = some L → ρ (r p) = some L) : ∀ {xs ys : List AV}, args1 r xs ys → xs.length = ys.length ∧ ∀ (i : Nat) v x y, xs[i]? = some x → ys[i]? = some y → AVR κ ρ v x → AVR κ ρ0 v y
  | [], [], _ => ⟨rfl, fun i v x y h => (by simp at h)⟩
  | [], _ :: _, h => h.elim
  | _ :: _, [], h => h.elim
  | x :: xs, y :: ys, h => by
    obtain ⟨h1, h2⟩ := args1_get (κ := κ) hp h.2
    refine ⟨by simp [h1], fun i v x' y' hx hy hv => ?_⟩
    cases i with
    | succ i => exact h2 i v x' y' (by simpa using hx) (by simpa using hy) hv
    | zero =>
      simp only [List.getElem?_cons_zero, Option.some.injEq] at hx hy
      subst hx; subst hy
      exact arg1_get h.1 hp hv

theorem argR_get {r : Nat → Nat} {κ : Know} {ρ ρ0 : Place} (hp : ∀ p L, ρ0 p = some L → ρ (r p) = some L) : ∀ {xs ys : List AV}, argR r xs ys → xs.length = ys.length ∧ ∀ (i : Nat) v x y, xs[i]? = some x → ys[i]? = some y → AVR κ ρ v x → AVR κ ρ0 v y
  | [], [], _ => ⟨rfl, fun i v x y h => (by simp at h)⟩
  | [], _ :: _, h => h.elim
  | _ :: _, [], h => h.elim
  | x :: xs, y :: ys, h => by
    obtain ⟨h1, h2⟩ := argR_get (κ := κ) hp h.2
    refine ⟨by simp [h1], fun i v x' y' hx hy hv => ?_⟩
    cases i with
    | succ i => exact h2 i v x' y' (by simpa using hx) (by simpa using hy) hv
    | zero =>
      simp only [List.getElem?_cons_zero, Option.some.injEq] at hx hy
      subst hx; subst hy
      have h3 := h.1
      split at h3
      · rename_i cs cs'
        obtain ⟨vs, rfl, hn, ho, hv⟩ := hv.agg
        obtain ⟨g1, g2⟩ := args1_get (κ := κ) hp h3
        refine .ag vs _ (by rw [hn, g1]) ho fun k u c e1 e2 => ?_
        have hk : k < cs.length := by rw [g1]; exact some_lt e2
        exact g2 k u _ c (List.getElem?_eq_getElem hk) e2 (hv k u _ e1 (List.getElem?_eq_getElem hk))
      · exact arg1_get h3 hp hv

theorem parR_get {r : Nat → Nat} {l : LL} : ∀ {l0 : LL}, parR r l l0 → ∀ p, lget p l0 ≠ .no → lget (r p) l = lget p l0 ∧ ∀ p', lget p' l0 ≠ .no → r p' = r p → p' = p
  | [], _, p, h => absurd rfl h
  | (q, o) :: s, h, p, hp => by
    obtain ⟨⟨h1, h2⟩, h3⟩ := h
    rw [lget_cons] at hp ⊢
    by_cases hpq : p = q
    · subst hpq
      rw [if_pos rfl]
      refine ⟨h1, fun p' hp' e => ?_⟩
      rw [lget_cons] at hp'
      by_cases hpp : p' = p
      · exact hpp
      · rw [if_neg hpp] at hp'; exact absurd e (h2 p' hp')
    · rw [if_neg hpq] at hp ⊢
      obtain ⟨g1, g2⟩ := parR_get h3 p hp
      refine ⟨g1, fun p' hp' e => ?_⟩
      rw [lget_cons] at hp'
      by_cases hpp : p' = q
      · subst hpp; exact absurd e.symm (h2 p hp)
      · rw [if_neg hpp] at hp'; exact g2 p' hp' e

theorem freshR_get {r : Nat → Nat} {k : Nat} {t : TL} {l l0 : LL} : ∀ {l1 : LL}, freshR r k t l l0 l1 = true → ∀ j, lget j l1 = .no ∨ ((∃ sz rows, lget j l1 = .row true sz rows) ∧
    (1000000 ≤ j ∧ lget j l0 ≠ .no ∨ j < 1000000 ∧ tment (renN k j) t = false ∧ lment (renN k j) l = false ∧ renN k j < 1000000))
  | [], _, j => .inl rfl
  | (i, .row true sz rows) :: q, h, j => by
    simp only [freshR, Bool.and_eq_true] at h
    rw [lget_cons]
    by_cases hj : j = i
    · subst hj
      rw [if_pos rfl]
      refine .inr ⟨⟨sz, rows, rfl⟩, ?_⟩
      have h := h.1
      cases hb : Nat.ble 1000000 j with
      | true =>
        rw [hb] at h
        refine .inl ⟨Nat.le_of_ble_eq_true hb, fun e => ?_⟩
        rw [e] at h; simp at h
      | false =>
        rw [hb] at h
        simp only [cond_false, Bool.and_eq_true, Bool.not_eq_true', Bool.or_eq_false_iff] at h
        exact .inr ⟨small hb, h.1.1, h.1.2, Nat.le_of_ble_eq_true h.2⟩
    · rw [if_neg hj]; exact freshR_get h.2 j

theorem ret_big {r : Nat → Nat} {k j : Nat} (h : 1000000 ≤ j) : ret r k j = r j := by unfold ret; rw [Nat.ble_eq_true_of_le h]; rfl
theorem ret_small {r : Nat → Nat} {k j : Nat} (h : j < 1000000) : ret r k j = renN k j := by
  unfold ret
  have : Nat.ble 1000000 j = false := Bool.eq_false_iff.2 fun e => by have := Nat.le_of_ble_eq_true e; omega
  rw [this]; rfl

section
variable {P : Program} {G : Ctx} {κ : Know} {ρ : Place} {t : TL} {l : LL} {a : Act} {w : World}

theorem lget_retL {r : Nat → Nat} {k : Nat} : ∀ {l1 : LL}, (∀ i j, (l1.map (·.1)).contains i = true → (l1.map (·.1)).contains j = true → ret r k i = ret r k j → i = j) → ∀ j, (l1.map (·.1)).contains j = true → lget (ret r k j) (retL r k l1) = lget j l1
  | [], _, j, h => by simp at h
  | (i, o) :: q, hi, j, hj => by
    rw [retL, lget_cons, lget_cons]
    by_cases h : j = i
    · subst h; simp
    · rw [if_neg h]
      have hj' : (q.map (·.1)).contains j = true := by
        rw [List.map_cons, List.contains_cons, beq_eq_false_iff_ne.2 h, Bool.false_or] at hj; exact hj
      have hne : ret r k j ≠ ret r k i := fun e => h (hi j i hj (by simp) e)
      rw [if_neg hne]
      exact lget_retL (fun a b ha hb => hi a b (by rw [List.map_cons, List.contains_cons, ha, Bool.or_true]) (by rw [List.map_cons, List.contains_cons, hb, Bool.or_true])) j hj'

theorem retL_key {r : Nat → Nat} {k : Nat} : ∀ {l : LL} (id : Nat), ((retL r k l).map (·.1)).contains id = true → ∃ j, id = ret r k j ∧ (l.map (·.1)).contains j = true
  | [], id, h => by simp [retL] at h
  | (i, o) :: q, id, h => by
    simp only [retL, List.map_cons, List.contains_cons, Bool.or_eq_true, beq_iff_eq] at h
    rcases h with h | h
    · exact ⟨i, h, by simp⟩
    · obtain ⟨j, h1, h2⟩ := retL_key id h
      exact ⟨j, h1, by rw [List.map_cons, List.contains_cons, h2, Bool.or_true]⟩

theorem key_retL {r : Nat → Nat} {k : Nat} : ∀ {l : LL} (j : Nat), (l.map (·.1)).contains j = true → ((retL r k l).map (·.1)).contains (ret r k j) = true
  | [], j, h => by simp at h
  | (i, o) :: q, j, h => by
    simp only [List.map_cons, List.contains_cons, Bool.or_eq_true, beq_iff_eq] at h
    simp only [retL, List.map_cons, List.contains_cons, Bool.or_eq_true, beq_iff_eq]
    rcases h with h | h
    · exact .inl (by rw [h])
    · exact .inr (key_retL j h)

theorem freshR_key {r : Nat → Nat} {k : Nat} {t : TL} {l l0 : LL} : ∀ {l1 : LL}, freshR r k t l l0 l1 = true → ∀ j, (l1.map (·.1)).contains j = true → lget j l1 ≠ .no
  | [], _, j, h => by simp at h
  | (i, .row true sz rows) :: q, hf, j, h => by
    simp only [freshR, Bool.and_eq_true] at hf
    rw [lget_cons]
    by_cases hj : j = i
    · rw [if_pos hj]; simp
    · rw [if_neg hj]
      refine freshR_key hf.2 j ?_
      rw [List.map_cons, List.contains_cons, beq_eq_false_iff_ne.2 hj, Bool.false_or] at h; exact h

theorem key_of {l : LL} {j : Nat} (h : lget j l ≠ .no) : (l.map (·.1)).contains j = true := by
  cases hc : (l.map (·.1)).contains j with
  | true => rfl
  | false => exact absurd (lget_none j hc) h

theorem AVR.same {κ κ' : Know} {ρ ρ' : Place} {v : Value} {x : AV} (hk : κ.le κ') (h : AVR κ ρ v x) (hr : ∀ k, AV.ment k x = true → ∀ L, ρ' k = some L → ρ k = some L) : AVR κ' ρ' v x := by
  have := (h.mono hk).ren (ρ' := ρ') (r := id) hr
  have e : AV.ren id x = x := by
    clear this h hr
    have key : ∀ n (x : AV), SizeOf.sizeOf x < n → AV.ren id x = x := by
      intro n
      induction n with
      | zero => intro x h; omega
      | succ n ih =>
        intro x hx
        have lst : ∀ (cs : List AV), (∀ c, c ∈ cs → SizeOf.sizeOf c < n) → AV.rens id cs = cs := by
          intro cs h
          rw [rens_eq]
          conv => rhs; rw [← List.map_id cs]
          exact List.map_congr_left fun c hc => ih c (h c hc)
        cases x with
        | ag cs => simp only [AV.ren]; rw [lst cs fun c hc => by have := List.sizeOf_lt_of_mem hc; simp at hx; omega]
        | tup cs => simp only [AV.ren]; rw [lst cs fun c hc => by have := List.sizeOf_lt_of_mem hc; simp at hx; omega]
        | _ => rfl
    exact key _ x (Nat.lt_succ_self _)
  rw [e] at this; exact this

open Classical in
/-- Where the rows lie that are handed. -/
noncomputable def hand (ρ : Place) (r : Nat → Nat) (l0 : LL) : Place := fun p => if lget p l0 = .no then none else ρ (r p)

theorem Mem.hand (hm : Mem G κ ρ l w) {r : Nat → Nat} {l0 : LL} (hp : parR r l l0) (h0 : parsOnly l0 = true) : Mem ⟨w, Mof (Go.V.hand ρ r l0) l0, κ, 0, Go.V.hand ρ r l0⟩ κ (Go.V.hand ρ r l0) l0 w := by
  have hh : ∀ {p L}, Go.V.hand ρ r l0 p = some L → lget p l0 ≠ .no ∧ ρ (r p) = some L := fun {p L} h => by
    unfold Go.V.hand at h; split at h
    · cases h
    · rename_i hne; exact ⟨hne, h⟩
  refine ⟨fun p => ?_, fun i j Li Lj hij hi hj hw => ?_, fun i L hi hw => ?_, hm.kn, hm.one, fun b o x h => .inl h, ⟨rfl, rfl, rfl, Nat.le_refl _, fun _ _ _ => rfl⟩, fun i L _ h => h⟩
  · rcases parsOnly_get h0 p with h | ⟨_, sz, rows, h⟩
    · rw [h]; simp [ObR, Go.V.hand, h]
    · have hob := hm.ob (r p)
      rw [(parR_get hp p (by rw [h]; simp)).1, h] at hob
      rw [h]
      obtain ⟨L, arr, E, fz, g1, g2⟩ := hob
      exact ⟨L, arr, E, fz, by simp [Go.V.hand, h, g1], g2⟩
  · obtain ⟨e1, e2⟩ := hh hi
    obtain ⟨e3, e4⟩ := hh hj
    obtain ⟨g1, g2⟩ := parR_get hp i e1
    exact hm.sep (r i) (r j) Li Lj (fun e => hij (g2 j e3 e.symm).symm) e2 e4 (by rw [g1]; exact hw)
  · obtain ⟨e1, e2⟩ := hh hi
    obtain ⟨g1, _⟩ := parR_get hp i e1
    exact ⟨(hm.fre (r i) L e2 (by rw [g1]; exact hw)).1, .inr ⟨i, L, hi, hw, rfl⟩⟩

/-- Behind a call that is handed rows of the caller's. -/
theorem Rel.joinedR (hr : Rel G κ ρ t l a w) {κ' : Know} {ρ1 : Place} {l0 l1 : LL} {w' : World} {k : Nat} {r : Nat → Nat} (hp : parR r l l0) (h0 : parsOnly l0 = true) (hk : κ.le κ')
    (hm1 : Mem ⟨w, Mof (Go.V.hand ρ r l0) l0, κ, 0, Go.V.hand ρ r l0⟩ κ' ρ1 l1 w') (hf : freshR r k t l l0 l1 = true) (hkeep : ∀ p, lget p l0 ≠ .no → lget p l1 ≠ .no) :
    ∃ ρ', Rel G κ' ρ' t (retL r k l1 ++ l) a w' ∧ ∀ v x, namesIn l1 x → AVR κ' ρ1 v x → AVR κ' ρ' v (AV.ren (ret r k) x) := by
  obtain ⟨hm, hdf, hsz, htm⟩ := hr
  have hh : ∀ {p L}, Go.V.hand ρ r l0 p = some L → lget p l0 ≠ .no ∧ ρ (r p) = some L := fun {p L} h => by
    unfold Go.V.hand at h; split at h
    · cases h
    · rename_i hne; exact ⟨hne, h⟩
  have hwr0 : ∀ p, lget p l0 ≠ .no → (lget (r p) l).wr = true ∧ 1000000 ≤ p := fun p h => by
    obtain ⟨g1, _⟩ := parR_get hp p h
    rcases parsOnly_get h0 p with h2 | ⟨h2, sz, rows, h3⟩
    · exact absurd h2 h
    · rw [g1, h3]; exact ⟨rfl, h2⟩
  have hM : ∀ b, Mof (Go.V.hand ρ r l0) l0 b → ∃ p L, lget p l0 ≠ .no ∧ ρ (r p) = some L ∧ L.b = b := fun b ⟨p, L, h1, _, h3⟩ => ⟨p, L, (hh h1).1, (hh h1).2, h3⟩
  have hkey := freshR_key hf
  have hnewid : ∀ j, lget j l1 ≠ .no → j < 1000000 → tment (renN k j) t = false ∧ lment (renN k j) l = false ∧ renN k j < 1000000 := fun j h1 h2 => by
    obtain ⟨_, h3⟩ := (freshR_get hf j).resolve_left h1
    exact (h3.resolve_left fun h => by omega).2
  have hold : ∀ j, lget j l1 ≠ .no → 1000000 ≤ j → lget j l0 ≠ .no := fun j h1 h2 => by
    obtain ⟨_, h3⟩ := (freshR_get hf j).resolve_left h1
    exact (h3.resolve_right fun h => by omega).2
  have hrow : ∀ j, lget j l1 ≠ .no → ∃ sz rows, lget j l1 = .row true sz rows := fun j h1 => ((freshR_get hf j).resolve_left h1).1
  have hlno : ∀ p, lget p l0 ≠ .no → lget (r p) l ≠ .no := fun p h => by rw [(parR_get hp p h).1]; exact h
  have hinj : ∀ i j, lget i l1 ≠ .no → lget j l1 ≠ .no → ret r k i = ret r k j → i = j := fun i j hi hj e => by
    by_cases h1 : 1000000 ≤ i <;> by_cases h2 : 1000000 ≤ j
    · rw [ret_big h1, ret_big h2] at e
      exact (parR_get hp j (hold j hj h2)).2 i (hold i hi h1) e
    · rw [ret_big h1, ret_small (by omega)] at e
      have := (lment_get (hnewid j hj (by omega)).2.1).1
      rw [← e] at this
      exact absurd this (hlno i (hold i hi h1))
    · rw [ret_small (by omega), ret_big h2] at e
      have := (lment_get (hnewid i hi (by omega)).2.1).1
      rw [e] at this
      exact absurd this (hlno j (hold j hj h2))
    · rw [ret_small (by omega), ret_small (by omega)] at e
      exact renN_inj e
  have hblk : ∀ b, b < w.heap.size → ¬ Mof (Go.V.hand ρ r l0) l0 b → w'.heap[b]? = w.heap[b]? := fun b hb hn => hm1.fr.block b hb hn
  classical
  let ρ' : Place := fun id => if h : ∃ j, id = ret r k j ∧ lget j l1 ≠ .no then ρ1 h.choose else ρ id
  have hρ1 : ∀ j, lget j l1 ≠ .no → ρ' (ret r k j) = ρ1 j := fun j hj => by
    have hex : ∃ i, ret r k j = ret r k i ∧ lget i l1 ≠ .no := ⟨j, rfl, hj⟩
    simp only [ρ']
    rw [dif_pos hex]
    rw [← hinj j _ hj hex.choose_spec.2 hex.choose_spec.1]
  have hρ2 : ∀ id, (¬ ∃ j, id = ret r k j ∧ lget j l1 ≠ .no) → ρ' id = ρ id := fun id h => dif_neg h
  have hl1 : ∀ j, lget j l1 ≠ .no → lget (ret r k j) (retL r k l1 ++ l) = lget j l1 := fun j hj => by
    rw [lget_append, if_pos (key_retL j (key_of hj))]
    exact lget_retL (fun i j hi hj => hinj i j (hkey i hi) (hkey j hj)) j (key_of hj)
  have hl2 : ∀ id, (¬ ∃ j, id = ret r k j ∧ lget j l1 ≠ .no) → lget id (retL r k l1 ++ l) = lget id l := fun id h => by
    rw [lget_append, if_neg]
    intro hc
    obtain ⟨j, h1, h2⟩ := retL_key id hc
    exact h ⟨j, h1, hkey j h2⟩
  /- an old name keeps its place -/
  have hplace : ∀ id L, (∀ j, lget j l1 ≠ .no → j < 1000000 → id ≠ renN k j) → ρ' id = some L → ρ id = some L := fun id L hn h => by
    by_cases hex : ∃ j, id = ret r k j ∧ lget j l1 ≠ .no
    · obtain ⟨j, rfl, hj⟩ := hex
      rw [hρ1 j hj] at h
      by_cases hb : 1000000 ≤ j
      · rw [ret_big hb]
        exact (hh (hm1.par j L hb h)).2
      · exact absurd (ret_small (by omega)) (hn j hj (by omega))
    · rw [hρ2 id hex] at h; exact h
  have hav : ∀ v x, (∀ j, lget j l1 ≠ .no → j < 1000000 → AV.ment (renN k j) x = false) → AVR κ ρ v x → AVR κ' ρ' v x := fun v x hx h =>
    h.same hk fun i hi L hL => hplace i L (fun j hj hb e => by subst e; rw [hx j hj hb] at hi; cases hi) hL
  have hother : ∀ id L, (¬ ∃ j, id = ret r k j ∧ lget j l1 ≠ .no) → ρ id = some L → L.b < w.heap.size ∧ ¬ Mof (Go.V.hand ρ r l0) l0 L.b := fun id L hex hL => by
    refine ⟨(hm.ob id).block hL, fun hb => ?_⟩
    obtain ⟨p, Lp, h1, h2, h3⟩ := hM _ hb
    have hne : r p ≠ id := fun e => hex ⟨p, by rw [ret_big (hwr0 p h1).2]; exact e.symm, hkeep p h1⟩
    exact hm.sep (r p) id Lp L hne h2 hL (hwr0 p h1).1 h3
  have hmine : ∀ j L, ρ1 j = some L → lget j l1 ≠ .no → (∀ o x, ¬ κ' L.b o x) ∧ (w.heap.size ≤ L.b ∨ Mof (Go.V.hand ρ r l0) l0 L.b) := fun j L hj hl => by
    obtain ⟨sz, rows, h⟩ := hrow j hl
    exact hm1.fre j L hj (by rw [h]; rfl)
  have hMG : ∀ b, Mof (Go.V.hand ρ r l0) l0 b → G.w0.heap.size ≤ b ∨ G.M b := fun b hb => by
    obtain ⟨p, Lp, h1, h2, h3⟩ := hM _ hb
    rw [← h3]; exact (hm.fre (r p) Lp h2 (hwr0 p h1).1).2
  refine ⟨ρ', ⟨⟨fun id => ?_, fun i j Li Lj hij hi hj hwi => ?_, fun i L hi hwi => ?_, hm1.kn, hm1.one, fun b o x h => ?_, ?_, fun i L hi h => ?_⟩, hdf, hsz, fun i => hav _ _ (fun j hj hb => tment_get (hnewid j hj hb).1 i) (htm i)⟩, fun v x hx h => h.ren fun j hj L hL => ?_⟩
  · by_cases hex : ∃ j, id = ret r k j ∧ lget j l1 ≠ .no
    · obtain ⟨j, rfl, hj⟩ := hex
      rw [hl1 j hj]
      obtain ⟨sz, rows, ho⟩ := hrow j hj
      have := hm1.ob j
      rw [ho] at this ⊢
      obtain ⟨L, arr, E, fz, g1, g2⟩ := this
      exact ⟨L, arr, E, fz, (hρ1 j hj).trans g1, g2⟩
    · rw [hl2 id hex]
      refine (hm.ob id).move hk (hρ2 id hex) (fun L hL => hblk _ (hother id L hex hL).1 (hother id L hex hL).2) ?_
      intro m cs hb i c v hc hv
      exact hav v c (fun j hj hb' => ments_get ((lment_get (hnewid j hj hb').2.1).2 id m cs hb) i c hc) hv
  · by_cases hei : ∃ p, i = ret r k p ∧ lget p l1 ≠ .no
    · obtain ⟨p, rfl, hp'⟩ := hei
      rw [hρ1 p hp'] at hi
      rw [hl1 p hp'] at hwi
      by_cases hej : ∃ q, j = ret r k q ∧ lget q l1 ≠ .no
      · obtain ⟨q, rfl, hq⟩ := hej
        rw [hρ1 q hq] at hj
        exact hm1.sep p q Li Lj (fun e => hij (by rw [e])) hi hj hwi
      · rw [hρ2 j hej] at hj
        obtain ⟨g1, g2⟩ := hother j Lj hej hj
        intro e
        rcases (hmine p Li hi hp').2 with h | h
        · omega
        · rw [e] at h; exact g2 h
    · rw [hρ2 i hei] at hi
      rw [hl2 i hei] at hwi
      by_cases hej : ∃ q, j = ret r k q ∧ lget q l1 ≠ .no
      · obtain ⟨q, rfl, hq⟩ := hej
        rw [hρ1 q hq] at hj
        obtain ⟨g1, g2⟩ := hother i Li hei hi
        intro e
        rcases (hmine q Lj hj hq).2 with h | h
        · omega
        · rw [← e] at h; exact g2 h
      · rw [hρ2 j hej] at hj
        exact hm.sep i j Li Lj hij hi hj hwi
  · by_cases hei : ∃ p, i = ret r k p ∧ lget p l1 ≠ .no
    · obtain ⟨p, rfl, hp'⟩ := hei
      rw [hρ1 p hp'] at hi
      obtain ⟨h1, h2⟩ := hmine p L hi hp'
      exact ⟨h1, h2.elim (fun h => .inl (Nat.le_trans hm.fr.size h)) (hMG _)⟩
    · rw [hρ2 i hei] at hi
      rw [hl2 i hei] at hwi
      obtain ⟨h1, h2⟩ := hm.fre i L hi hwi
      obtain ⟨g1, g2⟩ := hother i L hei hi
      refine ⟨fun o x hx => ?_, h2⟩
      rcases hm1.kn0 _ o x hx with h | h | h
      · exact h1 o x h
      · simp only at h; omega
      · exact g2 h
  · rcases hm1.kn0 b o x h with h | h | h
    · exact hm.kn0 b o x h
    · exact .inr (.inl (Nat.le_trans hm.fr.size h))
    · exact .inr (hMG b h)
  · have f1 := hm.fr; have f2 := hm1.fr
    refine ⟨f2.os.trans f1.os, f2.tape.trans f1.tape, f2.output.trans f1.output, Nat.le_trans f1.size f2.size, fun b hb hMb => ?_⟩
    refine (hblk b (Nat.lt_of_lt_of_le hb f1.size) fun h => ?_).trans (f1.block b hb hMb)
    rcases hMG b h with h | h
    · omega
    · exact hMb h
  · refine hm.par i L hi (hplace i L (fun j hj hb e => ?_) h)
    have := (hnewid j hj hb).2.2
    omega
  · have hj' := hx j hj
    rw [hρ1 j hj'] at hL
    exact hL

theorem VCall.of_fnR {f : FuncId} {xs xs0 : List AV} {l0 : LL} {x : AV} {l1 : LL} {k : Nat} {dst : Option Nat} {K : AV → TL → LL → Prop} (r : Nat → Nat) (h : Fn P f xs0 l0 x l1) (ha : argR r xs xs0) (hp : parR r l l0) (h0 : parsOnly l0 = true) 
    (hkeep : ∀ p, lget p l0 ≠ .no → lget p l1 ≠ .no) (hn : namesIn l1 x) (hf : freshR r k t l l0 l1 = true)
    (hK : K (AV.ren (ret r k) x) t (retL r k l1 ++ l)) : VCall P f xs dst t l K where
  en := h.en
  out := fun G κ ρ a w vs hr hs hv => by
    obtain ⟨e1, e2⟩ := argR_get (κ := κ) (ρ := ρ) (ρ0 := hand ρ r l0) (fun p L hL => by
      unfold hand at hL; split at hL
      · cases hL
      · exact hL) ha
    refine Calls.mono (h.out κ (hand ρ r l0) w vs (hr.m.hand hp h0) (hs.trans e1) fun i v y h1 h2 => ?_) ?_
    · have hi : i < xs.length := by rw [← hs]; exact (Array.getElem?_eq_some_iff.1 h1).1
      exact e2 i v _ y (List.getElem?_eq_getElem hi) h2 (hv i v _ h1 (List.getElem?_eq_getElem hi))
    · rintro e w' ⟨v, κ', ρ1, he, h1, h2, h3⟩
      obtain ⟨ρ', h4, h5⟩ := hr.joinedR hp h0 h1 h2 hf hkeep
      exact ⟨v, κ', ρ', _, _, _, he, h1, h4, h5 v x hn h3, hK⟩

end
end Go.V
/- A call that reads rows of the caller's own, and hands back nothing that leads to them. -/
namespace Go.V

/-- What is lent: rows, as the data that they hold now. -/
def lend1 (l : LL) (x y : AV) : Prop :=
  match x, y with
  | .d c, .d c' => wkC c c'
  | .ls id lo n sz, .d (.sl r) => match lget id l with
    | .row _ sz' rows => sz = sz' ∧ n + lo ≤ rows.length ∧ (rows.drop lo).take n = r
    | _ => False
  | _, _ => False

def lends1 (l : LL) : List AV → List AV → Prop
  | [], [] => True
  | x :: xs, y :: ys => lend1 l x y ∧ lends1 l xs ys
  | _, _ => False

def lendR (l : LL) : List AV → List AV → Prop
  | [], [] => True
  | x :: xs, y :: ys => (match x, y with
    | .ag cs, .ag cs' => lends1 l cs cs'
    | x, y => lend1 l x y) ∧ lendR l xs ys
  | _, _ => False

/-- It leads to nothing. -/
def flatC : C → Bool
  | .s _ => true
  | .sl [] => true
  | _ => false
def flatCs : List C → Bool
  | [] => true
  | c :: r => flatC c && flatCs r
def flat : AV → Bool
  | .d c => flatC c
  | _ => false
def flats : List AV → Bool
  | [] => true
  | x :: r => flat x && flats r
def flat1 : AV → Bool
  | .d c => flatC c
  | .tup cs => flats cs
  | _ => false

theorem flatC_sound {κ κ' : Know} {v : Value} {c : C} (h : flatC c = true) (hv : Repr κ v c) : Repr κ' v c := by
  cases hv with
  | s => exact .s _
  | nil => exact .nil
  | none a cap => exact .none a cap
  | sl b off n cap rows vs hn hc hk hr =>
    cases rows with
    | nil => exact .sl b off n cap [] vs hn hc (fun k c h => by simp at h) (fun k c h => by simp at h)
    | cons r q => simp [flatC] at h
  | _ => simp [flatC] at h

theorem flat_sound {κ κ' : Know} {ρ ρ' : Place} {v : Value} {x : AV} (h : flat x = true) (hv : AVR κ ρ v x) : AVR κ' ρ' v x := by
  cases x with
  | d c => exact .d _ _ (flatC_sound h hv.repr)
  | _ => simp [flat] at h

theorem flats_get : ∀ {xs : List AV}, flats xs = true → ∀ (i : Nat) x, xs[i]? = some x → flat x = true
  | [], _, i, x, h => by simp at h
  | y :: r, hf, 0, x, h => by simp only [flats, Bool.and_eq_true] at hf; simp at h; subst h; exact hf.1
  | y :: r, hf, i + 1, x, h => by simp only [flats, Bool.and_eq_true] at hf; exact flats_get hf.2 i x (by simpa using h)

theorem flat1_sound {κ κ' : Know} {ρ ρ' : Place} {v : Value} {x : AV} (h : flat1 x = true) (hv : AVR κ ρ v x) : AVR κ' ρ' v x := by
  cases x with
  | d c => exact flat_sound (x := .d c) h hv
  | tup cs =>
    obtain ⟨vs, rfl, hn, hv⟩ := hv.tuple
    exact .tup vs cs hn fun i u c h1 h2 => flat_sound (flats_get h i c h2) (hv i u c h1 h2)
  | _ => simp [flat1] at h

section
variable {P : Program} {G : Ctx} {κ : Know} {ρ : Place} {t : TL} {l : LL} {a : Act} {w : World}

/-- The caller's, where only new blocks came. -/
theorem Rel.grown (hr : Rel G κ ρ t l a w) {w' : World} (ho : w'.os = w.os) (ht : w'.tape = w.tape) (hu : w'.output = w.output) (hs : w.heap.size ≤ w'.heap.size) (hb : ∀ b, b < w.heap.size → w'.heap[b]? = w.heap[b]?) : Rel G κ ρ t l a w' := by
  obtain ⟨hm, hdf, hsz, htm⟩ := hr
  refine ⟨⟨fun id => ?_, hm.sep, hm.fre, fun b o x h => ?_, hm.one, hm.kn0, ?_, hm.par⟩, hdf, hsz, htm⟩
  · exact (hm.ob id).move (Know.le_refl _) rfl (fun L hL => hb _ ((hm.ob id).block hL)) (fun _ _ _ _ _ _ _ h => h)
  · have hbb := hm.known_block h
    have := hm.kn b o x h
    simp only [World.cell?] at this ⊢
    rw [hb b hbb]; exact this
  · have f := hm.fr
    exact ⟨ho.trans f.os, ht.trans f.tape, hu.trans f.output, Nat.le_trans f.size hs, fun b h1 h2 => (hb b (Nat.lt_of_lt_of_le h1 f.size)).trans (f.block b h1 h2)⟩

/-- All cells of the world that are one cell: what may be known while a reader runs. -/
def Know.all (w : World) : Know := fun b o x => w.cell? ⟨b, o, none⟩ = some x ∧ oneV x = true

theorem know_all_le (hm : Mem G κ ρ l w) : κ.le (Know.all w) := fun b o x h => ⟨hm.kn b o x h, hm.one.1 b o x h⟩

theorem lend1_get (hm : Mem G κ ρ l w) {x y : AV} {v : Value} (h3 : lend1 l x y) (hv : AVR κ ρ v x) : AVR (Know.all w) (fun _ => none) v y := by
  unfold lend1 at h3
  split at h3
  · exact .d _ _ (wkC_sound h3 (hv.repr.mono (know_all_le hm)))
  · rename_i id lo n sz r
    split at h3
    · rename_i m sz' rows hl
      obtain ⟨rfl, hle, rfl⟩ := h3
      have hob := hm.ob id
      rw [hl] at hob
      obtain ⟨L, arr, E, fz, hL, hh, hN, hfz, hz, hkn, hcs⟩ := hob
      obtain ⟨cap, A, rfl, hA, hc1, hc2, hc3⟩ := hv.ls_at hL
      have hrl : ((rows.drop lo).take n).length = n := by simp; omega
      rcases Nat.eq_zero_or_pos n with h0 | hp
      · subst h0; simp only [List.take_zero]; exact .d _ _ (.none _ _)
      · have hA' : A = ⟨L.b, L.o + lo * sz, Option.none⟩ := hA.resolve_right (by omega)
        subst hA'
        have hrz : ∀ q, q ∈ (rows.drop lo).take n → q.length = sz := fun q hq => hz q (List.mem_of_mem_drop (List.mem_of_mem_take hq))
        refine .d _ _ (.sl L.b (L.o + lo * sz) n cap _ (fun k => arr.getD (L.o + lo * sz + k) undef) hrl.symm hc1 (fun k c hc => ?_) (fun k c hc => ?_))
        all_goals
          have hk := row_get hrz hrl hc
          rw [flatten_sub hz hk] at hc
          obtain ⟨x, h4, h5, h6⟩ := hcs _ c hc
          rw [← Nat.add_assoc] at h4
          have e : arr.getD (L.o + lo * sz + k) undef = x := by rw [Array.getD_eq_getD_getElem?, h4]; rfl
          rw [e]
        · exact ⟨by rw [cell_heap hh]; exact h4, h6⟩
        · exact h5.mono (know_all_le hm)
    · exact h3.elim
  · exact h3.elim

theorem lends1_get (hm : Mem G κ ρ l w) : ∀ {xs ys : List AV}, lends1 l xs ys → xs.length = ys.length ∧ ∀ (i : Nat) v x y, xs[i]? = some x → ys[i]? = some y → AVR κ ρ v x → AVR (Know.all w) (fun _ => none) v y
  | [], [], _ => ⟨rfl, fun i v x y h => (by simp at h)⟩
  | [], _ :: _, h => h.elim
  | _ :: _, [], h => h.elim
  | x :: xs, y :: ys, h => by
    obtain ⟨h1, h2⟩ := lends1_get hm h.2
    refine ⟨by simp [h1], fun i v x' y' hx hy hv => ?_⟩
    cases i with
    | succ i => exact h2 i v x' y' (by simpa using hx) (by simpa using hy) hv
    | zero =>
      simp only [List.getElem?_cons_zero, Option.some.injEq] at hx hy
      subst hx; subst hy
      exact lend1_get hm h.1 hv

theorem lend_get (hm : Mem G κ ρ l w) : ∀ {xs ys : List AV}, lendR l xs ys → xs.length = ys.length ∧ ∀ (i : Nat) v x y, xs[i]? = some x → ys[i]? = some y → AVR κ ρ v x → AVR (Know.all w) (fun _ => none) v y
  | [], [], _ => ⟨rfl, fun i v x y h => (by simp at h)⟩
  | [], _ :: _, h => h.elim
  | _ :: _, [], h => h.elim
  | x :: xs, y :: ys, h => by
    obtain ⟨h1, h2⟩ := lend_get hm h.2
    refine ⟨by simp [h1], fun i v x' y' hx hy hv => ?_⟩
    cases i with
    | succ i => exact h2 i v x' y' (by simpa using hx) (by simpa using hy) hv
    | zero =>
      simp only [List.getElem?_cons_zero, Option.some.injEq] at hx hy
      subst hx; subst hy
      have h3 := h.1
      split at h3
      · rename_i cs cs'
        obtain ⟨vs, rfl, hn, ho, hv⟩ := hv.agg
        obtain ⟨g1, g2⟩ := lends1_get hm h3
        refine .ag vs _ (by rw [hn, g1]) ho fun k u c e1 e2 => ?_
        have hk : k < cs.length := by rw [g1]; exact some_lt e2
        exact g2 k u _ c (List.getElem?_eq_getElem hk) e2 (hv k u _ e1 (List.getElem?_eq_getElem hk))
      · exact lend1_get hm h3 hv

theorem VCall.lend {f : FuncId} {xs xs0 : List AV} {x : AV} {dst : Option Nat} {K : AV → TL → LL → Prop} (h : Fn P f xs0 [] x []) (ha : lendR l xs xs0) (hx : flat1 x = true) (hK : K x t l) : VCall P f xs dst t l K where
  en := h.en
  out := fun G κ ρ a w vs hr hs hv => by
    obtain ⟨e1, e2⟩ := lend_get hr.m ha
    have hm0 : Mem ⟨w, Mof (fun _ => none) [], Know.all w, 0, fun _ => none⟩ (Know.all w) (fun _ => none) [] w :=
      ⟨fun _ => rfl, fun i j Li Lj _ hi => (by cases hi), fun i L hi => (by cases hi), fun b o x h => h.1, ⟨fun b o x h => h.2, Know.le_trans hr.m.one.2 (know_all_le hr.m)⟩, fun b o x h => .inl h, ⟨rfl, rfl, rfl, Nat.le_refl _, fun _ _ _ => rfl⟩, fun i L _ h => h⟩
    refine Calls.mono (h.out (Know.all w) (fun _ => none) w vs hm0 (hs.trans e1) fun i v y h1 h2 => ?_) ?_
    · have hi : i < xs.length := by rw [← hs]; exact (Array.getElem?_eq_some_iff.1 h1).1
      exact e2 i v _ y (List.getElem?_eq_getElem hi) h2 (hv i v _ h1 (List.getElem?_eq_getElem hi))
    · rintro e w' ⟨v, κ', ρ1, he, h1, h2, h3⟩
      have hM : ∀ b, ¬ Mof (fun _ => none) [] b := fun b ⟨id, L, h, _⟩ => by cases h
      refine ⟨v, κ, ρ, x, t, l, he, Know.le_refl _, hr.grown h2.fr.os h2.fr.tape h2.fr.output h2.fr.size (fun b hb => h2.fr.block b hb (hM b)), flat1_sound hx h3, hK⟩

/-- Rows of bare values alone. -/
def flatL : LL → Prop
  | [] => True
  | (_, .row true _ rows) :: r => (∀ q, q ∈ rows → ∀ c, c ∈ q → flatC c = true) ∧ flatL r
  | _ :: _ => False

theorem flatL_get : ∀ {l1 : LL}, flatL l1 → ∀ j, lget j l1 = .no ∨ ∃ sz rows, lget j l1 = .row true sz rows ∧ ∀ q, q ∈ rows → ∀ c, c ∈ q → flatC c = true
  | [], _, j => .inl rfl
  | (i, .row true sz rows) :: r, h, j => by
    rw [lget_cons]
    by_cases hj : j = i
    · rw [if_pos hj]; exact .inr ⟨sz, rows, rfl, h.1⟩
    · rw [if_neg hj]; exact flatL_get h.2 j

/-- What a reader's new rows hold stays, when what it knew is forgotten. -/
theorem Mem.forget (hm : Mem G κ ρ l w) {w' : World} {κ' : Know} {ρ1 : Place} {l1 : LL} (hm1 : Mem ⟨w, Mof (fun _ => Option.none) [], Know.all w, 0, fun _ => Option.none⟩ κ' ρ1 l1 w') (hf : flatL l1) :
    Mem ⟨w, Mof (fun _ => Option.none) [], κ, 0, fun _ => Option.none⟩ κ ρ1 l1 w' := by
  have hM : ∀ b, ¬ Mof (fun _ => Option.none) [] b := fun b ⟨id, L, h, _⟩ => by cases h
  refine ⟨fun j => ?_, hm1.sep, fun i L hi hw => ?_, fun b o x h => ?_, hm.one, fun b o x h => .inl h, ⟨hm1.fr.os, hm1.fr.tape, hm1.fr.output, hm1.fr.size, hm1.fr.block⟩, hm1.par⟩
  · have hob := hm1.ob j
    rcases flatL_get hf j with h | ⟨sz, rows, h, hflat⟩
    · rw [h] at hob ⊢; exact hob
    · rw [h] at hob ⊢
      obtain ⟨L, arr, E, fz, h1, h2, h3, h4, h5, h6, h7⟩ := hob
      refine ⟨L, arr, E, fz, h1, h2, h3, h4, h5, h6, fun k c hc => ?_⟩
      obtain ⟨x, g1, g2, g3⟩ := h7 k c hc
      refine ⟨x, g1, ?_, g3⟩
      have hc' : c ∈ rows.flatten := List.mem_of_getElem? hc
      obtain ⟨q, hq, hcq⟩ := List.mem_flatten.1 hc'
      have := hflat q hq c hcq
      exact flatC_sound this g2
  · obtain ⟨h1, h2⟩ := hm1.fre i L hi hw
    have h2 := h2.resolve_right (hM _)
    refine ⟨fun o x h => ?_, .inl h2⟩
    have := hm.known_block h
    simp only at h2; omega
  · have hb := hm.known_block h
    have := hm.kn b o x h
    simp only [World.cell?] at this ⊢
    rw [hm1.fr.block b hb (hM b)]; exact this

/-- The same, where new rows are handed back. -/
theorem VCall.lendN {f : FuncId} {xs xs0 : List AV} {x : AV} {l1 : LL} {k : Nat} {dst : Option Nat} {K : AV → TL → LL → Prop} (h : Fn P f xs0 [] x l1) (ha : lendR l xs xs0) (hl1 : flatL l1) (hx : ∀ κ κ' ρ v, AVR κ ρ v x → AVR κ' ρ v x)
    (hn : namesIn l1 x) (hf : freshL k t l l1 = true) (hK : K (AV.ren (renN k) x) t (renL k l1 ++ l)) : VCall P f xs dst t l K where
  en := h.en
  out := fun G κ ρ a w vs hr hs hv => by
    obtain ⟨e1, e2⟩ := lend_get hr.m ha
    have hm0 : Mem ⟨w, Mof (fun _ => none) [], Know.all w, 0, fun _ => none⟩ (Know.all w) (fun _ => none) [] w :=
      ⟨fun _ => rfl, fun i j Li Lj _ hi => (by cases hi), fun i L hi => (by cases hi), fun b o x h => h.1, ⟨fun b o x h => h.2, Know.le_trans hr.m.one.2 (know_all_le hr.m)⟩, fun b o x h => .inl h, ⟨rfl, rfl, rfl, Nat.le_refl _, fun _ _ _ => rfl⟩, fun i L _ h => h⟩
    refine Calls.mono (h.out (Know.all w) (fun _ => none) w vs hm0 (hs.trans e1) fun i v y h1 h2 => ?_) ?_
    · have hi : i < xs.length := by rw [← hs]; exact (Array.getElem?_eq_some_iff.1 h1).1
      exact e2 i v _ y (List.getElem?_eq_getElem hi) h2 (hv i v _ h1 (List.getElem?_eq_getElem hi))
    · rintro e w' ⟨v, κ', ρ1, he, h1, h2, h3⟩
      have hm1 := hr.m.forget h2 hl1
      obtain ⟨ρ', h4, h5⟩ := hr.joined (Know.le_refl _) hm1 hf
      exact ⟨v, κ, ρ', _, _, _, he, Know.le_refl _, h4, h5 v x hn (hx _ _ _ _ h3), hK⟩

theorem ls_any {id lo n sz : Nat} : ∀ κ κ' ρ v, AVR κ ρ v (.ls id lo n sz) → AVR κ' ρ v (.ls id lo n sz) := fun κ κ' ρ v h => by
  cases h with | ls _ _ _ _ _ h => exact .ls _ _ _ _ _ h

end
end Go.V
