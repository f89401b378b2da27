/- Part 4: the abstract machine, its soundness, contracts of functions. -/
import Derived.Test.YtokfblcbmmaloaaK3
import Derived.Carry
import Derived.SizedLaws
import Derived.KernelRfl
import Derived.Test.YtokfblcbmmaloaaProg
import Derived.Lib.ItoaNum
import Derived.Lib.ParseIntB
import Derived.Lib.Bytealg
import Derived.Test.YtokfblcbmmaloaaRshelf
import Derived.Lib.ConvBytes
import Derived.Lib.Strings
import Derived.Shelf.Strconv.Itoa3
import Derived.Lib.AppendIntMem
import Derived.Lib.SliceRun
import Derived.WalkKit
import Derived.Lib.Repeat
import Derived.Lib.Join
set_option linter.unusedVariables false
set_option linter.unusedSimpArgs false
namespace Go.V
def ancE (A : List Nat) (e : Edge) : Nat := bif Region.binds .any e then A.getD e.on 0 ||| (1 <<< e.on) else 0
def ancL (A : List Nat) : List Edge → Nat
 | [] => 0
 | e :: r => ancE A e ||| ancL A r
def ancT : List Oper → List Nat → List Nat
 | [], A => A
 | o :: r, A => ancT r (A ++ [ancL A o.after.toList])
def slotsOf : List Operand → List Nat
 | [] => []
 | .tmp i :: r => i :: slotsOf r
 | _ :: r => slotsOf r
def lookL (D : List (Option Nat)) (o : Oper) : List Nat :=
 (match o.guard with
  | some (j, _) => match gslot D j with
   | some g => [g]
   | none => []
  | none => []) ++ slotsOf o.op.operands.toList
def edgesOk (j : Nat) : List Edge → Bool
 | [] => true
 | e :: r => (!Region.binds .any e || Nat.blt e.on j) && edgesOk j r
def pairOk (A : List Nat) (na : List Nat) (lk : List Nat) (j : Nat) (o : Oper) (i : Nat) (o' : Oper) : Bool :=
 match o'.dst with
 | none => true
 | some d => (Nat.beq i j || !(o.dst == some d)) && (!lk.contains d || (A.getD j 0).testBit i) && (!newOp o'.op || Nat.beq i j || (A.getD j 0).testBit i || na.contains d)
def pairsOk (A : List Nat) (na : List Nat) (lk : List Nat) (j : Nat) (o : Oper) : Nat → List Oper → Bool
 | _, [] => true
 | i, o' :: r => pairOk A na lk j o i o' && pairsOk A na lk j o (i + 1) r
def opsOk (m : Nat) (ns : List (List Nat)) (D : List (Option Nat)) (A : List Nat) (os : List Oper) : Nat → List Oper → Bool
 | _, [] => true
 | j, o :: r => edgesOk j o.after.toList && Nat.beq (A.getD j 0) (ancL A o.after.toList) &&
   (match Nat.blt j m with
    | true => pairsOk A (ns.getD j []) (lookL D o) j o 0 (os.take m)
    | false => Nat.beq (A.getD j 0 &&& (2 ^ m - 1)) (2 ^ m - 1)) && opsOk m ns D A os (j + 1) r
def drawOk (m : Nat) (ns : List (List Nat)) (ops : Array Oper) : Bool :=
 Nat.ble m ops.size && opsOk m ns (ops.toList.map (·.dst)) (ancT ops.toList []) ops.toList 0 ops.toList
theorem ancL_bit {A : List Nat} {i : Nat} : ∀ {es : List Edge}, (ancL A es).testBit i = true → ∃ e, e ∈ es ∧ Region.binds .any e = true ∧ (i = e.on ∨ (A.getD e.on 0).testBit i = true)
 | [], h => by simp [ancL] at h
 | e :: r, h => by
  simp only [ancL, Nat.testBit_or, Bool.or_eq_true] at h
  rcases h with h | h
  ·unfold ancE at h
   cases hb : Region.binds .any e with
   | false => rw [hb] at h; simp at h
   | true =>
    rw [hb] at h
    simp only [cond_true, Nat.testBit_or, Bool.or_eq_true] at h
    refine ⟨e, by simp, hb, ?_⟩
    rcases h with h | h
    ·exact .inr h
    ·left
     rw [Nat.one_shiftLeft, Nat.testBit_two_pow] at h
     exact (of_decide_eq_true h).symm
  ·obtain ⟨e', h1, h2⟩ := ancL_bit h
   exact ⟨e', by simp [h1], h2⟩
theorem edgesOk_spec {j : Nat} : ∀ {es : List Edge}, edgesOk j es = true → ∀ e, e ∈ es → Region.binds .any e = true → e.on < j
 | [], _, e, h, _ => by cases h
 | x :: r, h, e, he, hb => by
  simp only [edgesOk, Bool.and_eq_true, Bool.or_eq_true, Bool.not_eq_true'] at h
  rcases List.mem_cons.1 he with rfl | he
  ·rcases h.1 with h1 | h1
   ·rw [hb] at h1; cases h1
   ·exact Nat.le_of_ble_eq_true h1
  ·exact edgesOk_spec h.2 e he hb
theorem pairsOk_spec {A na lk : List Nat} {j : Nat} {o : Oper} : ∀ {r : List Oper} {i : Nat}, pairsOk A na lk j o i r = true → ∀ k o', r[k]? = some o' → pairOk A na lk j o (i + k) o' = true
 | [], _, _, k, o', h => by simp at h
 | x :: r, i, h, k, o', hk => by
  simp only [pairsOk, Bool.and_eq_true] at h
  cases k with
  | zero => simp at hk; subst hk; exact h.1
  | succ k =>
   have := pairsOk_spec h.2 k o' (by simpa using hk)
   rw [show i + (k + 1) = i + 1 + k by omega]; exact this
structure OkAt (m : Nat) (ns : List (List Nat)) (D : List (Option Nat)) (A : List Nat) (os : List Oper) (j : Nat) (o : Oper) : Prop where
 ed : ∀ e, e ∈ o.after.toList → Region.binds .any e = true → e.on < j
 an : A.getD j 0 = ancL A o.after.toList
 lo : j < m → ∀ i o', i < m → os[i]? = some o' → pairOk A (ns.getD j []) (lookL D o) j o i o' = true
 hi : m ≤ j → ∀ i, i < m → (A.getD j 0).testBit i = true
theorem opsOk_spec {m : Nat} {ns : List (List Nat)} {D : List (Option Nat)} {A : List Nat} {os : List Oper} : ∀ {r : List Oper} {j : Nat}, opsOk m ns D A os j r = true → ∀ k o, r[k]? = some o → OkAt m ns D A os (j + k) o
 | [], _, _, k, o, h => by simp at h
 | x :: r, j, h, k, o, hk => by
  simp only [opsOk, Bool.and_eq_true] at h
  obtain ⟨⟨⟨h1, h2⟩, h3⟩, h4⟩ := h
  cases k with
  | zero =>
   simp at hk; subst hk
   refine ⟨edgesOk_spec h1, Nat.eq_of_beq_eq_true h2, fun hj i o' hi ho => ?_, fun hj i hi => ?_⟩
   ·have : Nat.blt j m = true := Nat.ble_eq_true_of_le hj
    rw [this] at h3
    have := pairsOk_spec h3 i o' (by rw [List.getElem?_take_of_lt hi]; exact ho)
    rwa [Nat.zero_add] at this
   ·have : Nat.blt j m = false := Bool.eq_false_iff.2 fun e => by have := Nat.le_of_ble_eq_true e; omega
    rw [this] at h3
    have e := Nat.eq_of_beq_eq_true h3
    have h5 : ((A.getD j 0 &&& (2 ^ m - 1)).testBit i) = true := by rw [e, Nat.testBit_two_pow_sub_one]; simp [hi]
    rw [Nat.testBit_and, Bool.and_eq_true] at h5
    exact h5.1
  | succ k =>
   have := opsOk_spec h4 k o (by simpa using hk)
   rw [show j + (k + 1) = j + 1 + k by omega]; exact this
def cnt (S : Nat → Bool) : Nat → Nat
 | 0 => 0
 | n + 1 => cnt S n + bif S n then 1 else 0
def setS (S : Nat → Bool) (i : Nat) : Nat → Bool := fun j => bif Nat.beq j i then true else S j
theorem setS_eq (S : Nat → Bool) (i j : Nat) : setS S i j = if j = i then true else S j := by
 unfold setS
 by_cases h : j = i
 ·subst h; simp
 ·rw [show Nat.beq j i = false from Bool.eq_false_iff.2 fun e => h (Nat.eq_of_beq_eq_true e)]; simp [h]
theorem cnt_same {S S' : Nat → Bool} : ∀ {n : Nat}, (∀ i, i < n → S i = S' i) → cnt S n = cnt S' n
 | 0, _ => rfl
 | n + 1, h => by unfold cnt; rw [cnt_same fun i hi => h i (by omega), h n (by omega)]
theorem cnt_set {S : Nat → Bool} {i : Nat} (hs : S i = false) : ∀ {n : Nat}, i < n → cnt (setS S i) n = cnt S n + 1
 | 0, h => by omega
 | n + 1, h => by
  unfold cnt
  by_cases e : i = n
  ·subst e
   rw [cnt_same (S' := S) fun j hj => by rw [setS_eq, if_neg (by omega)], setS_eq, if_pos rfl, hs]; simp
  ·rw [cnt_set hs (by omega), setS_eq, if_neg (by omega)]; omega
theorem cnt_le {S : Nat → Bool} : ∀ n, cnt S n ≤ n
 | 0 => Nat.le_refl _
 | n + 1 => by unfold cnt; have := cnt_le (S := S) n; cases S n <;> simp <;> omega
theorem cnt_all {S : Nat → Bool} {m : Nat} (h : ∀ i, S i = true ↔ i < m) : ∀ {n : Nat}, m ≤ n → cnt S n = m
  | 0, hn => by have : m = 0 := by omega
                subst this; rfl
  | n + 1, hn => by
    unfold cnt
    by_cases e : m = n + 1
    · subst e
      have hn1 : S n = true := (h n).2 (by omega)
      rw [hn1]
      have : cnt S n = n := by
        have h' : ∀ k, k ≤ n → cnt S k = k := by
          intro k
          induction k with
          | zero => intro _; rfl
          | succ k ih => intro hk; unfold cnt; rw [ih (by omega), (h k).2 (by omega)]; rfl
        exact h' n (Nat.le_refl _)
      rw [this]; rfl
    · have hn1 : S n = false := Bool.eq_false_iff.2 fun h' => by have := (h n).1 h'; omega
      rw [cnt_all h (by omega), hn1]; rfl
def listedTo (m : Nat) (n : Nat) : Array Bool := ((List.range n).map fun i => Nat.blt i m).toArray
theorem listedTo_getD (m n i : Nat) : (listedTo m n).getD i false = true ↔ i < n ∧ i < m := by
 unfold listedTo
 rw [Array.getD_eq_getD_getElem?]
 simp only [List.getElem?_toArray, List.getElem?_map, Option.map]
 by_cases h : i < n
 ·simp [h, Nat.blt_eq]
 ·simp [h]
theorem listed_eq {m n : Nat} {listed : Array Bool} (hs : listed.size = n) (h : ∀ i, listed.getD i false = true ↔ i < m) (hm : m ≤ n) : listed = listedTo m n := by
 refine Array.ext (by simp [listedTo, hs]) fun i h1 h2 => ?_
 have h3 : listed.getD i false = listed[i] := by simp [Array.getD, h1]
 have h4 : (listedTo m n).getD i false = (listedTo m n)[i] := by simp [Array.getD, h2]
 rw [← h3, ← h4]
 cases e : listed.getD i false with
 | true =>
  have := (h i).1 e
  exact ((listedTo_getD m n i).2 ⟨by omega, this⟩).symm
 | false =>
  symm
  apply Bool.eq_false_iff.2
  intro e'
  have := (h i).2 ((listedTo_getD m n i).1 e').2
  rw [this] at e; cases e
theorem tment_of_get {k d : Nat} : ∀ {t : TL}, AV.ment k (get d t) = true → tment k t = true
 | [], h => by simp [get, AV.ment] at h
 | (i, x) :: r, h => by
  rw [get_cons] at h
  simp only [tment, Bool.or_eq_true]
  split at h
  ·exact .inl h
  ·exact .inr (tment_of_get h)
section
variable {P : Program} {ty : TypeId → Ty} {G : Ctx}
theorem slots_mem {x : Nat} : ∀ {os : List Operand}, Operand.tmp x ∈ os → x ∈ slotsOf os
 | y :: r, h => by
  rcases List.mem_cons.1 h with h | h
  ·subst h; simp [slotsOf]
  ·have := slots_mem h
   cases y <;> simp [slotsOf, this]
theorem dstL_eq {r : List Oper} {i : Nat} {o : Oper} (h : r[i]? = some o) : dstL r i = o.dst := by unfold dstL; rw [h]; rfl
open Classical in
theorem draw_sound (hty : TyOk P ty) {ops : Array Oper} {m : Nat} {ns : List (List Nat)} {K : TL → LL → Prop} {Q : Exit → Act → World → Prop} {t0 : TL} {l0 : LL} {X : Nat → AV} {B : Nat → LL} {t1 : TL}
  (hmn : m ≤ ops.size) (hok : ∀ j o, ops.toList[j]? = some o → OkAt m ns (ops.toList.map (·.dst)) (ancT ops.toList []) ops.toList j o)
  (hB0 : ∀ j, m ≤ j → B j = [])
  (hout : ∀ j o, j < m → ops.toList[j]? = some o → OutAt P ty (ops.toList.map (·.dst)) (ns.getD j []) o (tl (dstL ops.toList) X t0 All j) (ll B l0 All j) (X j) (B j))
  (ht1 : TE t1 (tl (dstL ops.toList) X t0 All m)) (hK : vcAny P ty (ops.toList.map (·.dst)) ops.toList (ops.size - m) (2 ^ m - 1) t1 (ll B l0 All m) K)
  (hd : ∀ o, o ∈ ops.toList → ∀ d, o.dst = some d → d < G.n) :
  ∀ (k : Nat) (listed : Array Bool) (κ : Know) (ρ : Place) (a : Act) (w : World), listed.size = ops.size → (∀ i, listed.getD i false = true → i < m) →
   (∀ j o, ops.toList[j]? = some o → listed.getD j false = true → ∀ e, e ∈ o.after.toList → Region.binds .any e = true → listed.getD e.on false = true) →
   k + cnt (fun i => listed.getD i false) ops.size = ops.size → Rel G κ ρ (tl (dstL ops.toList) X t0 (fun i => listed.getD i false) m) (ll B l0 (fun i => listed.getD i false) m) a w →
   (∀ κ' ρ' t' l' a' w', κ.le κ' → Rel G κ' ρ' t' l' a' w' → K t' l' → Q .normal a' w') → wpAny P .any ops Q k listed a w := by
 have hB : OneB (dstL ops.toList) B := fun i => by
  by_cases hi : i < m
  ·have hlt : i < ops.toList.length := by rw [Array.length_toList]; omega
   have ho : ops.toList[i]? = some ops.toList[i] := List.getElem?_eq_getElem hlt
   obtain ⟨b, _, h1, h2⟩ := (hout i _ hi ho).out
   cases b with
   | false => exact .inl (h1 rfl).2
   | true =>
    rcases (h2 rfl).cb with h | ⟨_, k, ob, h3, h4, _⟩
    ·exact .inl h
    ·exact .inr ⟨k, ob, by rw [dstL_eq ho, h3], h4⟩
  ·exact .inl (hB0 i (by omega))
 have huniq : ∀ d i j, i < m → j < m → dstL ops.toList i = some d → dstL ops.toList j = some d → i = j := fun d i j hi hj h1 h2 => by
  unfold dstL at h1 h2
  cases hoi : ops.toList[i]? with
  | none => rw [hoi] at h1; cases h1
  | some oi =>
   cases hoj : ops.toList[j]? with
   | none => rw [hoj] at h2; cases h2
   | some oj =>
    rw [hoi] at h1; rw [hoj] at h2
    simp only [Option.bind_some] at h1 h2
    have := (hok j oj hoj).lo hj i oi hi hoi
    unfold pairOk at this
    rw [h1] at this
    simp only [Bool.and_eq_true, Bool.or_eq_true] at this
    rcases this.1.1 with h | h
    ·exact Nat.eq_of_beq_eq_true h
    ·simp [h2] at h
 have hlb : ∀ i, i < ops.size → (listedTo m ops.size).getD i false = (2 ^ m - 1).testBit i := fun i hi => by
  rw [Nat.testBit_two_pow_sub_one]
  by_cases h : i < m
  ·rw [(listedTo_getD m ops.size i).2 ⟨hi, h⟩]; simp [h]
  ·have : ¬ (listedTo m ops.size).getD i false = true := fun e => h ((listedTo_getD m ops.size i).1 e).2
   simp only [h, decide_false]; simpa using this
 intro k
 induction k with
 | zero =>
  intro listed κ ρ a w hsz hlt hcl hcnt hr hQ
  have hfull : ∀ i, listed.getD i false = true ↔ i < m := by
   intro i
   refine ⟨hlt i, fun hi => ?_⟩
   apply Classical.byContradiction
   intro h
   have h' : listed.getD i false = false := by simpa using h
   have h1 := cnt_set (S := fun i => listed.getD i false) h' (n := ops.size) (by omega)
   have h2 := cnt_le (S := setS (fun i => listed.getD i false) i) ops.size
   omega
  have e := listed_eq hsz hfull hmn
  have hrl : Rel G κ ρ t1 (ll B l0 All m) a w := hr.ext (fun i => by
    rw [← ht1.1 i]
    have : tl (dstL ops.toList) X t0 (fun i => listed.getD i false) m = tl (dstL ops.toList) X t0 All m := by
     have h' : ∀ n, n ≤ m → tl (dstL ops.toList) X t0 (fun i => listed.getD i false) n = tl (dstL ops.toList) X t0 All n := by
      intro n
      induction n with
      | zero => intro _; rfl
      | succ n ih => intro hn; unfold tl; rw [ih (by omega), (hfull n).2 (by omega)]
     exact h' m (Nat.le_refl _)
    rw [this]) (fun id => by
    have h' : ∀ n, n ≤ m → ll B l0 (fun i => listed.getD i false) n = ll B l0 All n := by
     intro n
     induction n with
     | zero => intro _; rfl
     | succ n ih => intro hn; unfold ll; rw [ih (by omega), (hfull n).2 (by omega)]
    rw [h' m (Nat.le_refl _)])
  have hmeq : ops.size - m = 0 := by
   have := cnt_all (S := fun i => listed.getD i false) (m := m) hfull (n := ops.size) hmn
   omega
  rw [hmeq] at hK
  rw [e]
  exact vcAny_sound hty hd 0 (2 ^ m - 1) _ κ ρ t1 _ a w (by simp [listedTo]) hlb hrl hK (fun j o ho => (hok j o ho).ed) hQ
 | succ k ih =>
  intro listed κ ρ a w hsz hlt hcl hcnt hr hQ
  have hcl' : ∀ j, listed.getD j false = true → ∀ i, ((ancT ops.toList []).getD j 0).testBit i = true → listed.getD i false = true := by
   intro j
   induction j using Nat.strongRecOn with
   | _ j ihj =>
    intro hj i hi
    have hjm := hlt j hj
    have hjl : j < ops.toList.length := by rw [Array.length_toList]; omega
    have ho : ops.toList[j]? = some ops.toList[j] := List.getElem?_eq_getElem hjl
    have hk := hok j _ ho
    rw [hk.an] at hi
    obtain ⟨e, h1, h2, h3⟩ := ancL_bit hi
    have h4 := hcl j _ ho hj e h1 h2
    rcases h3 with h3 | h3
    ·rw [h3]; exact h4
    ·exact ihj e.on (hk.ed e h1 h2) h4 i h3
  by_cases hfull : ∀ i, listed.getD i false = true ↔ i < m
  ·have e := listed_eq hsz hfull hmn
   have hrl : Rel G κ ρ t1 (ll B l0 All m) a w := hr.ext (fun i => by
     rw [← ht1.1 i]
     have : tl (dstL ops.toList) X t0 (fun i => listed.getD i false) m = tl (dstL ops.toList) X t0 All m := by
      have h' : ∀ n, n ≤ m → tl (dstL ops.toList) X t0 (fun i => listed.getD i false) n = tl (dstL ops.toList) X t0 All n := by
       intro n
       induction n with
       | zero => intro _; rfl
       | succ n ih => intro hn; unfold tl; rw [ih (by omega), (hfull n).2 (by omega)]
      exact h' m (Nat.le_refl _)
     rw [this]) (fun id => by
     have h' : ∀ n, n ≤ m → ll B l0 (fun i => listed.getD i false) n = ll B l0 All n := by
      intro n
      induction n with
      | zero => intro _; rfl
      | succ n ih => intro hn; unfold ll; rw [ih (by omega), (hfull n).2 (by omega)]
     rw [h' m (Nat.le_refl _)])
   have hmeq : ops.size - m = k + 1 := by
    have := cnt_all (S := fun i => listed.getD i false) (m := m) hfull (n := ops.size) hmn
    omega
   rw [hmeq] at hK
   rw [e]
   exact vcAny_sound hty hd (k + 1) (2 ^ m - 1) _ κ ρ t1 _ a w (by simp [listedTo]) hlb hrl hK (fun j o ho => (hok j o ho).ed) hQ
  ·obtain ⟨u, hu⟩ := Classical.not_forall.1 hfull
   have hu1 : u < m ∧ listed.getD u false = false := by
    have : ¬ listed.getD u false = true := fun h => hu ⟨fun _ => hlt u h, fun _ => h⟩
    refine ⟨Classical.byContradiction fun h => hu ⟨fun h' => absurd h' this, fun h' => absurd h' h⟩, by simpa using this⟩
   refine ⟨fun he => ?_, fun i hi => ?_⟩
   ·-- the least that is not listed is ready
    obtain ⟨v, hv, hleast⟩ := least (p := fun v => v < m ∧ listed.getD v false = false) ⟨u, hu1⟩
    have hvl : v < ops.toList.length := by rw [Array.length_toList]; omega
    have ho : ops.toList[v]? = some ops.toList[v] := List.getElem?_eq_getElem hvl
    have : v ∈ Region.ready .any ops listed := by
     refine mem_ready.2 ⟨?_, ops.toList[v], by rw [← Array.getElem?_toList]; exact ho, fun e h1 h2 => ?_⟩
     ·have h3 := hv.2
      have h4 : v < listed.size := by omega
      simp [Array.getD, h4] at h3 ⊢; exact h3
     ·have h3 := (hok v _ ho).ed e (by simpa using h1) h2
      apply Classical.byContradiction
      intro h4
      have h5 := hleast e.on ⟨by omega, by simpa using h4⟩
      omega
    rw [he] at this; cases this
   ·obtain ⟨hun, o, ho', haft⟩ := mem_ready.1 hi
    have ho : ops.toList[i]? = some o := by rw [Array.getElem?_toList]; exact ho'
    have hin : i < ops.size := by
     have := (Array.getElem?_eq_some_iff.1 ho').1; exact this
    have hS : listed.getD i false = false := by
     have h4 : i < listed.size := by omega
     simp [Array.getD, h4] at hun ⊢; exact hun
    have hk := hok i o ho
    have hanc : ∀ j, ((ancT ops.toList []).getD i 0).testBit j = true → listed.getD j false = true ∧ j < i := by
     have hlt' : ∀ n, ∀ j, ((ancT ops.toList []).getD n 0).testBit j = true → n < ops.size → j < n := by
      intro n
      induction n using Nat.strongRecOn with
      | _ n ihn =>
       intro j hj hn
       have hnl : n < ops.toList.length := by rw [Array.length_toList]; omega
       have ho2 : ops.toList[n]? = some ops.toList[n] := List.getElem?_eq_getElem hnl
       have hk2 := hok n _ ho2
       rw [hk2.an] at hj
       obtain ⟨e, h1, h2, h3⟩ := ancL_bit hj
       have h4 := hk2.ed e h1 h2
       rcases h3 with h3 | h3
       ·omega
       ·have := ihn e.on h4 j h3 (by omega); omega
     intro j hj
     refine ⟨?_, hlt' i j hj hin⟩
     rw [hk.an] at hj
     obtain ⟨e, h1, h2, h3⟩ := ancL_bit hj
     have h4 := haft e (by simpa using h1) h2
     rcases h3 with h3 | h3
     ·rw [h3]; exact h4
     ·exact hcl' e.on h4 j h3
    have him : i < m := by
     apply Classical.byContradiction
     intro h
     have := hanc u (hk.hi (by omega) u hu1.1)
     rw [hu1.2] at this; cases this.1
    generalize hSdef : (fun i => listed.getD i false) = S at *
    have hSi : ∀ j, S j = listed.getD j false := fun j => by rw [← hSdef]
    have hget : ∀ d, d ∈ lookL (ops.toList.map (·.dst)) o → get d (tl (dstL ops.toList) X t0 S m) = get d (tl (dstL ops.toList) X t0 All i) := by
     intro d hdl
     by_cases hw : ∃ j, j < m ∧ dstL ops.toList j = some d
     ·obtain ⟨j, hj, hdj⟩ := hw
      have hdj' := hdj
      unfold dstL at hdj
      cases hoj : ops.toList[j]? with
      | none => rw [hoj] at hdj; cases hdj
      | some oj =>
       rw [hoj] at hdj
       simp only [Option.bind_some] at hdj
       have hp := hk.lo him j oj hj hoj
       unfold pairOk at hp
       rw [hdj] at hp
       simp only [Bool.and_eq_true, Bool.or_eq_true, Bool.not_eq_true'] at hp
       have hbit : ((ancT ops.toList []).getD i 0).testBit j = true := by
        rcases hp.1.2 with h | h
        ·rw [List.contains_iff_mem.2 hdl] at h; cases h
        ·exact h
       have hj2 := hanc j hbit
       rw [get_tl_hit (fun i j h1 h2 => huniq d i j h1 h2) hj (by rw [hSi]; exact hj2.1) hdj',
        get_tl_hit (fun i' j h1 h2 => huniq d i' j (by omega) (by omega)) hj2.2 rfl hdj']
     ·have hno : ∀ j, j < m → dstL ops.toList j ≠ some d := fun j hj h => hw ⟨j, hj, h⟩
      rw [get_tl_miss fun j hj _ => hno j hj, get_tl_miss fun j hj _ => hno j (by omega)]
    obtain ⟨b, hb1, hb2, hb3⟩ := (hout i o him ho).out
    have hwant : Region.wanted o (yielded ops a.tmps) = b := by
     unfold wantedBy at hb1
     unfold Region.wanted
     cases hg : o.guard with
     | none => rw [hg] at hb1; simp at hb1 ⊢; exact hb1
     | some gw =>
      obtain ⟨gj, want⟩ := gw
      rw [hg] at hb1
      simp only at hb1 ⊢
      split at hb1
      ·cases hb1
      ·rename_i g hgs
       split at hb1
       ·rename_i c hc
        have hmem : g ∈ lookL (ops.toList.map (·.dst)) o := by
         simp [lookL, hg, hgs]
        have hv := hr.tm g
        rw [hget g hmem, hc] at hv
        rw [bool_at hgs hv.val]
        simp only [Option.some.injEq] at hb1
        rw [← hb1]
        cases c <;> cases want <;> rfl
       ·rename_i vs hc
        have hmem : g ∈ lookL (ops.toList.map (·.dst)) o := by
         simp [lookL, hg, hgs]
        have hv := hr.tm g
        rw [hget g hmem, hc] at hv
        rw [show yielded ops a.tmps gj = none from tup_at hgs hv.val]
        simp only [Option.some.injEq] at hb1
        rw [← hb1]
        rfl
       ·cases hb1
    have hd1 : ∀ d, o.dst = some d → d < G.n := hd o (List.mem_of_getElem? ho)
    have hstep : ∀ κ' ρ' a' w', κ.le κ' → Rel G κ' ρ' (push o.dst (X i) (tl (dstL ops.toList) X t0 S m)) (B i ++ ll B l0 S m) a' w' → wpAny P .any ops Q k (listed.setIfInBounds i true) a' w' := by
     intro κ' ρ' a' w' hle hr'
     have hSS : (fun j => (listed.setIfInBounds i true).getD j false) = setS S i := by
      funext j
      rw [setS_eq, hSi]
      by_cases e : j = i
      ·subst e; simp [Array.getD, hsz, hin]
      ·rw [if_neg e, Array.getD_eq_getD_getElem?, Array.getD_eq_getD_getElem?, Array.getElem?_setIfInBounds_ne (fun h => e h.symm)]
     have hdi : dstL ops.toList i = o.dst := dstL_eq ho
     have hSi0 : S i = false := by rw [hSi]; exact hS
     refine ih _ κ' ρ' a' w' (by simpa using hsz) (fun j hj => ?_) (fun j oj hoj hj e he hbe => ?_) ?_ ?_ fun κ'' ρ'' t' l' a' w' h1 h2 h3 => hQ κ'' ρ'' t' l' a' w' (Know.le_trans hle h1) h2 h3
     ·have hj' : setS S i j = true := by rw [← hSS]; exact hj
      rw [setS_eq] at hj'
      split at hj'
      ·rename_i e; rw [e]; exact him
      ·exact hlt j (by rw [← hSi]; exact hj')
     ·have hj' : setS S i j = true := by rw [← hSS]; exact hj
      have goal' : setS S i e.on = true := by
       rw [setS_eq] at hj' ⊢
       split
       ·rfl
       ·split at hj'
        ·rename_i e1
         subst e1
         rw [ho] at hoj; cases hoj
         rw [hSi]; exact haft e (by simpa using he) hbe
        ·rw [hSi]; exact hcl j oj hoj (by rw [← hSi]; exact hj') e he hbe
      rw [← hSS] at goal'; exact goal'
     ·rw [hSS, cnt_set hSi0 hin]; omega
     ·rw [hSS]
      refine hr'.ext (fun d => ?_) (fun id => ?_)
      ·rw [get_push]
       by_cases e : o.dst = some d
       ·rw [if_pos e, get_tl_hit (fun i j h1 h2 => huniq d i j h1 h2) him (by rw [setS_eq, if_pos rfl]) (by rw [hdi, e])]
       ·rw [if_neg e]
        by_cases hw : ∃ j, j < m ∧ dstL ops.toList j = some d ∧ S j = true
        ·obtain ⟨j, hj, hdj, hsj⟩ := hw
         rw [get_tl_hit (fun i j h1 h2 => huniq d i j h1 h2) hj (by rw [setS_eq]; split; rfl; exact hsj) hdj, get_tl_hit (fun i j h1 h2 => huniq d i j h1 h2) hj hsj hdj]
        ·rw [get_tl_miss, get_tl_miss]
         ·exact fun j hj hsj hdj => hw ⟨j, hj, hdj, hsj⟩
         ·intro j hj hsj hdj
          rw [setS_eq] at hsj
          split at hsj
          ·rename_i e1; subst e1; rw [hdi] at hdj; exact e hdj
          ·exact hw ⟨j, hj, hdj, hsj⟩
      ·have hBi : ∀ l, lget id (B i ++ l) = if (∃ o', B i = [(id, o')]) then lget id (B i) else lget id l := by
        intro l
        rcases hB i with h | ⟨k', o', h1, h2⟩
        ·rw [h, if_neg (by rintro ⟨o', h'⟩; cases h')]; rfl
        ·rw [h2]
         show lget id ((k', o') :: l) = _
         rw [lget_cons]
         by_cases e : id = k'
         ·subst e; rw [if_pos rfl, if_pos ⟨o', rfl⟩, lget_cons, if_pos rfl]
         ·rw [if_neg e, if_neg (by rintro ⟨o'', h'⟩; simp at h'; exact e h'.1.symm)]
       rw [hBi]
       by_cases e : ∃ o', B i = [(id, o')]
       ·obtain ⟨o', he⟩ := e
        rw [if_pos ⟨o', he⟩, lget_ll_hit hB (fun i j h1 h2 => huniq id i j h1 h2) him (by rw [setS_eq, if_pos rfl]) he, he]
        simp [lget]
       ·rw [if_neg e]
        by_cases hw : ∃ j o', j < m ∧ B j = [(id, o')] ∧ S j = true
        ·obtain ⟨j, o', hj, hbj, hsj⟩ := hw
         rw [lget_ll_hit hB (fun i j h1 h2 => huniq id i j h1 h2) hj (by rw [setS_eq]; split; rfl; exact hsj) hbj, lget_ll_hit hB (fun i j h1 h2 => huniq id i j h1 h2) hj hsj hbj]
        ·rw [lget_ll_miss' hB, lget_ll_miss' hB]
         ·exact fun j hj hsj o' hbj => hw ⟨j, o', hj, hbj, hsj⟩
         ·intro j hj hsj o' hbj
          rw [setS_eq] at hsj
          split at hsj
          ·rename_i e1; subst e1; exact e ⟨o', hbj⟩
          ·exact hw ⟨j, o', hj, hbj, hsj⟩
    unfold wpOp
    simp only [ho']
    rw [hwant]
    cases b with
    | false =>
     obtain ⟨hx, hnb⟩ := hb2 rfl
     rw [if_neg (by simp)]
     refine hstep κ ρ _ w (Know.le_refl _) ?_
     rw [hx, hnb]
     exact hr.push (.d _ _ (.s _)) hd1
    | true =>
     rw [if_pos rfl]
     have hy := hb3 rfl
     left
     have hnotin : ∀ j, j < m → ∀ id ob, B j = [(id, ob)] → ((ancT ops.toList []).getD i 0).testBit j = false → j ≠ i → AV.ments id (evs (tl (dstL ops.toList) X t0 All i) o.op.operands.toList) = false := by
      intro j hj id ob hbj hbit hne
      refine hy.ops id ?_
      have hjl : j < ops.toList.length := by rw [Array.length_toList]; omega
      have hoj : ops.toList[j]? = some ops.toList[j] := List.getElem?_eq_getElem hjl
      obtain ⟨bj, _, h1, h2⟩ := (hout j _ hj hoj).out
      cases bj with
      | false => rw [(h1 rfl).2] at hbj; cases hbj
      | true =>
       rcases (h2 rfl).cb with h | ⟨hnew, k', ob', hdj, hbj', _⟩
       ·rw [h] at hbj; cases hbj
       ·rw [hbj'] at hbj; simp at hbj
        obtain ⟨rfl, rfl⟩ := hbj
        have hp := hk.lo him j _ hj hoj
        unfold pairOk at hp
        rw [hdj] at hp
        simp only [Bool.and_eq_true, Bool.or_eq_true, Bool.not_eq_true', hnew, hbit] at hp
        rcases hp.2 with ((h | h) | h) | h
        ·cases h
        ·exact absurd (Nat.eq_of_beq_eq_true h) hne
        ·cases h
        ·exact List.contains_iff_mem.1 h
     have hsame : SameAt o.op.operands.toList (tl (dstL ops.toList) X t0 All i) (tl (dstL ops.toList) X t0 S m) (ll B l0 All i) (ll B l0 S m) := by
      have h1 : ∀ x, x ∈ o.op.operands.toList → ev (tl (dstL ops.toList) X t0 S m) x = ev (tl (dstL ops.toList) X t0 All i) x := by
       intro x hx
       cases x with
       | tmp d => exact hget d (by simp only [lookL, List.mem_append]; exact .inr (slots_mem hx))
       | _ => rfl
      refine ⟨h1, fun x id hx hm => ?_⟩
      have hms : AV.ments id (evs (tl (dstL ops.toList) X t0 All i) o.op.operands.toList) = true := by
       have : ∀ xs : List Operand, x ∈ xs → AV.ments id (evs (tl (dstL ops.toList) X t0 All i) xs) = true := by
        intro xs
        induction xs with
        | nil => intro h; cases h
        | cons y r ihr =>
         intro h
         simp only [evs, AV.ments, Bool.or_eq_true]
         rcases List.mem_cons.1 h with h | h
         ·subst h; exact .inl hm
         ·exact .inr (ihr h)
       exact this _ hx
      by_cases hw : ∃ j ob, j < m ∧ B j = [(id, ob)]
      ·obtain ⟨j, ob, hj, hbj⟩ := hw
       by_cases hbit : ((ancT ops.toList []).getD i 0).testBit j = true
       ·have h2 := hanc j hbit
        rw [lget_ll_hit hB (fun i j h1 h2 => huniq id i j h1 h2) hj (by rw [hSi]; exact h2.1) hbj, lget_ll_hit hB (fun i' j h1 h2 => huniq id i' j (by omega) (by omega)) h2.2 rfl hbj]
       ·have hbit' : ((ancT ops.toList []).getD i 0).testBit j = false := by simpa using hbit
        exfalso
        by_cases hji : j = i
        ·subst hji
         rcases hy.cb with h | ⟨_, k', ob', _, h3, h4, _⟩
         ·rw [h] at hbj; cases hbj
         ·rw [h3] at hbj; simp at hbj
          obtain ⟨rfl, rfl⟩ := hbj
          have : tment k' (tl (dstL ops.toList) X t0 All j) = true := by
           cases x with
           | tmp d => exact tment_of_get hm
           | global g => rw [show ev (tl (dstL ops.toList) X t0 All j) (.global g) = gptr g (gget g globT) from rfl, ment_gptr] at hm; cases hm
           | _ => simp [ev, AV.ment] at hm
          rw [h4] at this; cases this
        ·rw [hnotin j hj id ob hbj hbit' hji] at hms; cases hms
      ·rw [lget_ll_miss' hB fun j hj _ ob hbj => hw ⟨j, ob, hj, hbj⟩, lget_ll_miss' hB fun j hj _ ob hbj => hw ⟨j, ob, by omega, hbj⟩]
     have hfresh : ∀ k' ob, B i = [(k', ob)] → tment k' (tl (dstL ops.toList) X t0 S m) = false ∧ lment k' (ll B l0 S m) = false := by
      intro k' ob hbi
      rcases hy.cb with h | ⟨hnew, k2, ob', hdi, h3, h4, h5, _⟩
      ·rw [h] at hbi; cases hbi
      ·rw [h3] at hbi; simp at hbi
       obtain ⟨rfl, rfl⟩ := hbi
       have hoth : ∀ j, j < m → S j = true → AV.ment k2 (X j) = false ∧ lment k2 (B j) = false := by
        intro j hj hsj
        have hji : j ≠ i := fun e => by rw [e, hSi, hS] at hsj; cases hsj
        have hjl : j < ops.toList.length := by rw [Array.length_toList]; omega
        have hoj : ops.toList[j]? = some ops.toList[j] := List.getElem?_eq_getElem hjl
        obtain ⟨bj, _, h1, h2⟩ := (hout j _ hj hoj).out
        cases bj with
        | false => rw [(h1 rfl).1, (h1 rfl).2]; exact ⟨rfl, rfl⟩
        | true =>
         have hyj := h2 rfl
         have hbit : ((ancT ops.toList []).getD j 0).testBit i = false := by
          apply Bool.eq_false_iff.2
          intro h
          have := hcl' j (by rw [← hSi]; exact hsj) i h
          rw [hS] at this; cases this
         have hin2 : k2 ∈ ns.getD j [] := by
          have hp := (hok j _ hoj).lo hj i o him ho
          unfold pairOk at hp
          rw [hdi] at hp
          simp only [Bool.and_eq_true, Bool.or_eq_true, Bool.not_eq_true', hnew, hbit] at hp
          rcases hp.2 with ((h | h) | h) | h
          ·cases h
          ·exact absurd (Nat.eq_of_beq_eq_true h).symm hji
          ·cases h
          ·exact List.contains_iff_mem.1 h
         refine ⟨hyj.cx k2 hin2, ?_⟩
         rcases hyj.cb with h | ⟨_, k4, ob4, h6, h7, _, _, h8⟩
         ·rw [h]; rfl
         ·rw [h7]
          refine h8 k2 hin2 fun e => hji ?_
          exact huniq k4 j i hj him (by rw [dstL_eq hoj, h6]) (by rw [dstL_eq ho, hdi, e])
       constructor
       ·apply Bool.eq_false_iff.2
        intro h
        rcases tment_tl h with h | ⟨j, hj, hsj, h⟩
        ·rw [tment_base h] at h4; cases h4
        ·rw [(hoth j hj hsj).1] at h; cases h
       ·apply Bool.eq_false_iff.2
        intro h
        rcases lment_ll h with h | ⟨j, hj, hsj, h⟩
        ·rw [lment_base h] at h5; cases h5
        ·rw [(hoth j hj hsj).2] at h; cases h
     exact Oper.wp_of_goes hd1 (vcOp_sound hty hr (hy.go _ _ hsame hfresh)) fun κ' ρ' x t' l' a' w' h1 h2 h3 => by
      obtain ⟨rfl, rfl, rfl⟩ := h3
      exact hstep κ' ρ' a' w' h1 h2
theorem VDraw.go (hmo : P.follows .mixedOrders = true) (hty : TyOk P ty) {ops : Array Oper} (m : Nat) (ns : List (List Nat)) {t : TL} {l : LL} {K : TL → LL → Prop} (hc : drawOk m ns ops = true)
  (h : vcQ P ty (ops.toList.map (·.dst)) (ops.toList.take m) ns t l fun t l => vcAny P ty (ops.toList.map (·.dst)) ops.toList (ops.size - m) (2 ^ m - 1) t l K) : VDraw P ty ops t l K where
 out := fun G κ ρ a w hr hd id Q hQ => by
  unfold drawOk at hc
  simp only [Bool.and_eq_true] at hc
  have hmn := Nat.le_of_ble_eq_true hc.1
  have hok : ∀ j o, ops.toList[j]? = some o → OkAt m ns (ops.toList.map (·.dst)) (ancT ops.toList []) ops.toList j o := fun j o ho => by
   have := opsOk_spec hc.2 j o ho
   rwa [Nat.zero_add] at this
  obtain ⟨X, B, hB0, hout, t', hte, hK⟩ := vcQ_outs _ _ _ _ _ h (TE.refl t)
  have hlen : (ops.toList.take m).length = m := by simp [hmn]
  rw [hlen] at hB0 hte hK
  have hdst : ∀ j, j < m → dstL (ops.toList.take m) j = dstL ops.toList j := fun j hj => by simp [dstL, List.getElem?_take_of_lt hj]
  have htl : ∀ n, n ≤ m → tl (dstL (ops.toList.take m)) X t All n = tl (dstL ops.toList) X t All n := by
   intro n
   induction n with
   | zero => intro _; rfl
   | succ n ih => intro hn; show push _ _ _ = push _ _ _; rw [ih (by omega), hdst n (by omega)]
  refine wp_region_any hmo (draw_sound hty hmn hok hB0 (fun j o hj ho => ?_) (by rw [← htl m (Nat.le_refl _)]; exact hte) hK hd ops.size _ κ ρ a _ (by simp) (fun i hi => ?_) (fun j o ho hj => ?_) ?_ ?_ hQ)
  ·have := hout j o (by rw [List.getElem?_take_of_lt hj]; exact ho)
   rwa [htl j (by omega)] at this
  ·exfalso
   rw [Array.getD_eq_getD_getElem?, Array.getElem?_replicate] at hi
   split at hi <;> simp at hi
  ·exfalso
   rw [Array.getD_eq_getD_getElem?, Array.getElem?_replicate] at hj
   split at hj <;> simp at hj
  ·have : cnt (fun i => (Array.replicate ops.size false).getD i false) ops.size = 0 := by
    have h' : ∀ n, cnt (fun i => (Array.replicate ops.size false).getD i false) n = 0 := by
     intro n
     induction n with
     | zero => rfl
     | succ n ih =>
      unfold cnt; rw [ih]
      have : (Array.replicate ops.size false).getD n false = false := by
       rw [Array.getD_eq_getD_getElem?, Array.getElem?_replicate]; split <;> rfl
      rw [this]; rfl
    exact h' _
   rw [this]; rfl
  ·have hS : (fun i => (Array.replicate ops.size false).getD i false) = fun _ => false := by
    funext i
    rw [Array.getD_eq_getD_getElem?, Array.getElem?_replicate]; split <;> rfl
   rw [hS]
   have h1 : ∀ n, tl (dstL ops.toList) X t (fun _ => false) n = t := by
    intro n; induction n with
    | zero => rfl
    | succ n ih => exact ih
   have h2 : ∀ n, ll B l (fun _ => false) n = l := by
    intro n; induction n with
    | zero => rfl
    | succ n ih => exact ih
   rw [h1, h2]
   exact hr.grown rfl rfl rfl (Nat.le_refl _) (fun _ _ => rfl)
end
end Go.V
namespace Go.V
theorem lend1_same {l l' : LL} {x y : AV} (hl : ∀ id, AV.ment id x = true → lget id l' = lget id l) (h1 : lend1 l x y) : lend1 l' x y := by
 unfold lend1 at h1 ⊢
 split at h1
 ·exact h1
 ·rename_i id lo n sz r
  rw [hl id (by simp [AV.ment])]
  exact h1
 ·rename_i id i lo n sz r
  rw [hl id (by simp [AV.ment])]
  exact h1
 ·exact h1.elim
theorem lends1_same {l l' : LL} : ∀ {xs ys : List AV}, (∀ id, AV.ments id xs = true → lget id l' = lget id l) → lends1 l xs ys → lends1 l' xs ys
 | [], [], _, _ => trivial
 | [], _ :: _, _, h => h.elim
 | _ :: _, [], _, h => h.elim
 | x :: xs, y :: ys, hl, h => ⟨lend1_same (fun id hid => hl id (by simp [AV.ments, hid])) h.1, lends1_same (fun id hid => hl id (by simp [AV.ments, hid])) h.2⟩
theorem lendR_same {l l' : LL} : ∀ {xs ys : List AV}, (∀ id, AV.ments id xs = true → lget id l' = lget id l) → lendR l xs ys → lendR l' xs ys
 | [], [], _, _ => trivial
 | [], _ :: _, _, h => h.elim
 | _ :: _, [], _, h => h.elim
 | x :: xs, y :: ys, hl, h => by
  refine ⟨?_, lendR_same (fun id hid => hl id (by simp [AV.ments, hid])) h.2⟩
  have h1 := h.1
  split at h1
  ·exact lends1_same (fun id hid => hl id (by simp [AV.ments, AV.ment, hid])) h1
  ·exact lend1_same (fun id hid => hl id (by simp [AV.ments, hid])) h1
section
variable {P : Program}
theorem QCall.of_data {f : FuncId} {xs : List AV} {x : AV} {l : LL} {K : AV → Prop} (h : Fn P f xs [] x []) (hn : namesIn [] x) (hK : K (AV.ren (renN 0) x)) : QCall P f xs l K :=
 ⟨_, hK, fun _ _ _ _ => VCall.of_data h hn ⟨rfl, rfl, rfl⟩⟩
theorem QCall.lend {f : FuncId} {xs xs0 : List AV} {x : AV} {l : LL} {K : AV → Prop} (h : Fn P f xs0 [] x []) (ha : lendR l xs xs0) (hx : flat1 x = true) (hK : K x) : QCall P f xs l K :=
 ⟨_, hK, fun _ _ _ hl => VCall.lend h (lendR_same hl ha) hx ⟨rfl, rfl, rfl⟩⟩
end
theorem Fn.freeze {P : Program} {f : FuncId} {xs : List AV} {lo n sz : Nat} {rows : List (List C)} (h : Fn P f xs [] (.ls 0 lo n sz) [(0, .row true sz rows)]) (hn : n + lo ≤ rows.length) : Fn P f xs [] (.d (.sl ((rows.drop lo).take n))) [] where
 en := h.en
 out := fun κ ρ w vs hm hs hv => (h.out κ ρ w vs hm hs hv).mono fun e w' ⟨v, κ', ρ', h1, h2, h3, h4⟩ => by
  have hob := h3.ob 0
  obtain ⟨L, _, _, _, hL, _⟩ := hob
  obtain ⟨κ'', g1, g2, _, g4⟩ := h3.freeze (id := 0) rfl hL
  exact ⟨v, κ'', _, h1, Know.le_trans h2 g1, g2, g4 v lo n h4 hn⟩
theorem Fn.freezeM {P : Program} {f : FuncId} {xs : List AV} {lo n sz : Nat} {ix : List MC} {rows : List (List (List C))} (h : Fn P f xs [] (.ls 0 lo n 1) [(0, .mat sz ix rows)]) (hn : n + lo ≤ ix.length) (hin : matIn rows ix) : Fn P f xs [] (.d (.sl (((matD rows ix).drop lo).take n))) [] where
 en := h.en
 out := fun κ ρ w vs hm hs hv => (h.out κ ρ w vs hm hs hv).mono fun e w' ⟨v, κ', ρ', h1, h2, h3, h4⟩ => by
  have hob := h3.ob 0
  obtain ⟨L, hL, _⟩ := hob
  obtain ⟨κ'', g1, g2, _, g4⟩ := h3.freezeM (id := 0) rfl hL hin
  exact ⟨v, κ'', _, h1, Know.le_trans h2 g1, g2, g4 v lo n h4 hn⟩
theorem nd (c : C) : namesIn [] (.d c) := fun _ h => by cases h
theorem keepRows : ∀ {l0 l1 : LL}, l0.map (·.1) = l1.map (·.1) → parsOnly l1 = true → ∀ p, lget p l0 ≠ .no → lget p l1 ≠ .no
 | [], l1, e, _, p, h => absurd rfl h
 | (k, o) :: r, [], e, _, p, h => by simp at e
 | (k, o) :: r, (k', .row true sz rows) :: r', e, h1, p, h | (k, o) :: r, (k', .mat sz rows _) :: r', e, h1, p, h => by
  simp only [List.map_cons, List.cons.injEq] at e
  obtain ⟨rfl, e⟩ := e
  simp only [parsOnly, Bool.and_eq_true] at h1
  rw [lget_cons] at h ⊢
  split
  ·intro e; cases e
  ·rename_i hne
   rw [if_neg hne] at h
   exact keepRows e h1.2 p h
 | (k, o) :: r, (k', .no) :: r', e, h1, p, h => by simp [parsOnly] at h1
 | (k, o) :: r, (k', .box _ _) :: r', e, h1, p, h => by simp [parsOnly] at h1
 | (k, o) :: r, (k', .row false _ _) :: r', e, h1, p, h => by simp [parsOnly] at h1
section
variable {P : Program} {t : TL} {l : LL}
theorem VCall.par1m {f : FuncId} {xs xs0 : List AV} {sz sz' : Nat} {ix ix' : List MC} {rows rows' : List (List (List C))} {c : C} {dst : Option Nat} {K : AV → TL → LL → Prop} (a : Nat)
  (h : Fn P f xs0 [(1000000, .mat sz ix rows)] (.d c) [(1000000, .mat sz' ix' rows')]) (ha : argR (pmap [(1000000, a)]) xs xs0) (hl : lget a l = .mat sz ix rows)
  (hK : K (.d c) t ((a, .mat sz' ix' rows') :: l)) : VCall P f xs dst t l K :=
 VCall.of_fnR (k := 0) (pmap [(1000000, a)]) h ha ⟨⟨hl, fun p h => absurd rfl h⟩, trivial⟩ rfl (keepRows rfl rfl) (fun _ h => by cases h) rfl hK
end
def fillL {α : Type} (L z : List α) (k : Nat) : List α := L.take k ++ z.drop k
theorem fill_zero {α : Type} (L z : List α) : fillL L z 0 = z := by simp [fillL]
theorem fill_len {α : Type} {L z : List α} (h : L.length = z.length) (k : Nat) : (fillL L z k).length = L.length := by
 simp [fillL]; omega
theorem fill_set {α : Type} {L z : List α} (h : L.length = z.length) {k : Nat} (hk : k < L.length) : (fillL L z k).set k L[k] = fillL L z (k + 1) := by
 unfold fillL
 rw [List.set_append]
 simp only [List.length_take, Nat.min_eq_left (Nat.le_of_lt hk), Nat.lt_irrefl, if_false, Nat.sub_self]
 rw [List.drop_eq_getElem_cons (by omega : k < z.length)]
 simp only [List.set_cons_zero]
 rw [List.take_succ_eq_append_getElem hk, List.append_assoc]
 rfl
end Go.V
namespace Go.V
inductive K where
 | i (k : IntKind)
 | b
 | s
 | sl (ks : List K)
inductive Fit : C → K → Prop
 | i (k : IntKind) (n : Int) (h : (Lit.int k n).wf = true) : Fit (.s (.int k n)) (.i k)
 | b (x : Bool) : Fit (.s (.bool x)) .b
 | s (x : ByteArray) (h : x.size ≤ reachBytes) : Fit (.s (.string x)) .s
 | sl (rows : List (List C)) (ks : List K) (h : rows.length ≤ reachBytes) (hl : ∀ r, r ∈ rows → r.length = ks.length)
   (hf : ∀ r, r ∈ rows → ∀ (i : Nat) c k, r[i]? = some c → ks[i]? = some k → Fit c k) : Fit (.sl rows) (.sl ks)
mutual
inductive KOf (P : Program) : TypeId → List K → Prop
 | b (t : TypeId) (h : P.underlying t = some .bool) : KOf P t [.b]
 | i (t : TypeId) (k : IntKind) (h : P.underlying t = some (.int k)) : KOf P t [.i k]
 | s (t : TypeId) (h : P.underlying t = some .string) : KOf P t [.s]
 | sl (t e : TypeId) (ks : List K) (h : P.underlying t = some (.slice e)) (he : KOf P e ks) (hc : P.cellsOf e = ks.length) (hp : 0 < ks.length) (hb : 0 < P.bytesOf e) : KOf P t [.sl ks]
 | st (t : TypeId) (fs : Array Field) (ks : List K) (h : P.underlying t = some (.struct fs)) (hc : P.cellsOf t = ks.length) (hf : KFs P fs.toList 0 ks) : KOf P t ks
inductive KFs (P : Program) : List Field → Nat → List K → Prop
 | nil (o : Nat) : KFs P [] o []
 | cons (f : Field) (r : List Field) (o : Nat) (ks kr : List K) (ho : f.offset = o) (hf : KOf P f.type ks) (hc : P.cellsOf f.type = ks.length) (hr : KFs P r (o + ks.length) kr) : KFs P (f :: r) o (ks ++ kr)
end
section
variable {H : Type} {enc : TypeId × Value → H} {P : Program} {w : World} {sp : Nat → Bool}
def Reads (w : World) (cs : List Value) (rs : List C) (ks : List K) : Prop :=
 rs.length = cs.length ∧ cs.length = ks.length ∧ (∀ (i : Nat) v c, cs[i]? = some v → rs[i]? = some c → Repr (Know.all w) v c ∧ oneV v = true) ∧ ∀ (i : Nat) c k, rs[i]? = some c → ks[i]? = some k → Fit c k
theorem Reads.one {v : Value} {c : C} {k : K} (h1 : Repr (Know.all w) v c) (h2 : oneV v = true) (h3 : Fit c k) : Reads w [v] [c] [k] := by
 refine ⟨rfl, rfl, fun i x y hx hy => ?_, fun i x y hx hy => ?_⟩
 ·cases i with
  | zero => simp at hx hy; subst hx; subst hy; exact ⟨h1, h2⟩
  | succ i => simp at hx
 ·cases i with
  | zero => simp at hx hy; subst hx; subst hy; exact h3
  | succ i => simp at hx
theorem Reads.append {cs cs' : List Value} {rs rs' : List C} {ks ks' : List K} (h : Reads w cs rs ks) (h' : Reads w cs' rs' ks') : Reads w (cs ++ cs') (rs ++ rs') (ks ++ ks') := by
 obtain ⟨a1, a2, a3, a4⟩ := h
 obtain ⟨b1, b2, b3, b4⟩ := h'
 refine ⟨by simp [a1, b1], by simp [a2, b2], fun i v c hv hc => ?_, fun i c k hc hk => ?_⟩
 ·rcases Nat.lt_or_ge i cs.length with h | h
  ·rw [List.getElem?_append_left h] at hv
   rw [List.getElem?_append_left (by omega)] at hc
   exact a3 i v c hv hc
  ·rw [List.getElem?_append_right h] at hv
   rw [List.getElem?_append_right (by omega), a1] at hc
   exact b3 _ v c hv hc
 ·rcases Nat.lt_or_ge i rs.length with h | h
  ·rw [List.getElem?_append_left h] at hc
   rw [List.getElem?_append_left (by omega)] at hk
   exact a4 i c k hc hk
  ·rw [List.getElem?_append_right h] at hc
   rw [List.getElem?_append_right (by omega), show i - ks.length = i - rs.length by omega] at hk
   exact b4 _ c k hc hk
end
end Go.V
namespace Go.V
open Go.RowKit
section
variable {P : Program} {W : World}
theorem Fn.calls_true {f : FuncId} {xs : List AV} {vs : Array Value} (hg : glob.le (Know.all W)) (h : Fn P f xs [] (.d (.s (.bool true))) []) (hs : vs.size = xs.length)
  (hv : ∀ (i : Nat) v x, vs[i]? = some v → xs[i]? = some x → AVR (Know.all W) (fun _ => none) v x) : Calls P f vs W fun e W' => e = .returned (.bool true) ∧ Below W.heap.size W W' := by
 have hm0 : Mem ⟨W, Mof (fun _ => none) [], Know.all W, 0, fun _ => none⟩ (Know.all W) (fun _ => none) [] W :=
  ⟨fun _ => rfl, fun i j Li Lj _ hi => (by cases hi), fun i L hi => (by cases hi), fun i L hi => (by cases hi), fun b o x h => h.1, ⟨fun b o x h => h.2, hg⟩, fun b o x h => .inl h, ⟨rfl, rfl, rfl, Nat.le_refl _, fun _ _ _ => rfl⟩, fun i L _ h => h⟩
 refine Calls.mono (h.out (Know.all W) (fun _ => none) W vs hm0 hs hv) ?_
 rintro e w' ⟨v, κ', ρ1, rfl, h1, h2, h3⟩
 have hM : ∀ b, ¬ Mof (fun _ => none) [] b := fun b ⟨id, L, h, _⟩ => by cases h
 exact ⟨by rw [h3.val], h2.fr.os, h2.fr.tape, h2.fr.output, h2.fr.size, fun b hb => h2.fr.block b hb (hM b)⟩
inductive ArgsR (W : World) : List Value → List AV → Prop
 | nil : ArgsR W [] []
 | cons {v : Value} {x : AV} {vs : List Value} {xs : List AV} (h : AVR (Know.all W) (fun _ => none) v x) (r : ArgsR W vs xs) : ArgsR W (v :: vs) (x :: xs)
theorem ArgsR.get : ∀ {vs : List Value} {xs : List AV}, ArgsR W vs xs → vs.length = xs.length ∧ ∀ (i : Nat) v x, vs[i]? = some v → xs[i]? = some x → AVR (Know.all W) (fun _ => none) v x
 | _, _, .nil => ⟨rfl, fun i v x h => by simp at h⟩
 | _, _, .cons h r => by
  obtain ⟨h1, h2⟩ := r.get
  refine ⟨by simp [h1], fun i v x hv hx => ?_⟩
  cases i with
  | zero => simp at hv hx; subst hv; subst hx; exact h
  | succ i => exact h2 i v x (by simpa using hv) (by simpa using hx)
theorem Fn.law {f : FuncId} {xs : List AV} {vs : List Value} (hg : glob.le (Know.all W)) (h : Fn P f xs [] (.d (.s (.bool true))) []) (hv : ArgsR W vs xs) : Calls P f vs.toArray W fun e W' => e = .returned (.bool true) ∧ Below W.heap.size W W' :=
 h.calls_true hg (by simp [hv.get.1]) fun i v x h1 h2 => hv.get.2 i v x (by simpa using h1) h2
variable {H : Type} {enc : TypeId × Value → H} {sp : Nat → Bool}
end
end Go.V
namespace Go.V
section
variable {P : Program} {t : TL} {l : LL}
end
end Go.V
namespace Go.V
section
variable {P : Program} {ty : TypeId → Ty} {G : Ctx} {κ : Know} {ρ : Place} {t : TL} {l : LL} {a : Act} {w : World}
end
end Go.V
namespace Go.V
section
variable {P : Program}
structure Grew (w w' : World) : Prop where
 os : w'.os = w.os
 tape : w'.tape = w.tape
 output : w'.output = w.output
 size : w.heap.size ≤ w'.heap.size
 block : ∀ b, b < w.heap.size → w'.heap[b]? = w.heap[b]?
theorem Grew.refl (w : World) : Grew w w := ⟨rfl, rfl, rfl, Nat.le_refl _, fun _ _ => rfl⟩
theorem Grew.trans {w w' w'' : World} (h : Grew w w') (h' : Grew w' w'') : Grew w w'' :=
 ⟨h'.os.trans h.os, h'.tape.trans h.tape, h'.output.trans h.output, Nat.le_trans h.size h'.size, fun b hb => (h'.block b (Nat.lt_of_lt_of_le hb h.size)).trans (h.block b hb)⟩
end
end Go.V
namespace Go.V
end Go.V
namespace Go.V
end Go.V
namespace Go.V
mutual
def AV.hasM (id : Nat) : AV → Bool
 | .ms k _ _ _ _ => Nat.beq k id
 | .me k _ _ _ _ => Nat.beq k id
 | .ag cs => AV.hasMs id cs
 | .tup cs => AV.hasMs id cs
 | _ => false
def AV.hasMs (id : Nat) : List AV → Bool
 | [] => false
 | x :: r => AV.hasM id x || AV.hasMs id r
end
section
variable {P : Program} {G : Ctx} {κ : Know} {ρ : Place} {t : TL} {l : LL} {a : Act} {w : World}
theorem VLoop.thaw {ty : TypeId → Ty} {ks : List Nat} {b : Code} {Q : Ex → TL → LL → Prop} (id : Nat) {cs : List C} (hl : lget id l = .box true (dIs cs)) (h : VLoop P ty ks b (thawT id cs t) (lrem id l) Q) : VLoop P ty ks b t l Q where
 out := fun G κ ρ a w hd hr => by
  obtain ⟨κ1, g1, g2, _⟩ := hr.thaw hl rfl
  refine Code.wp_mono ?_ (h.out G κ1 _ a w hd g2)
  rintro e a2 w2 ⟨x, κ2, ρ2, t2, l2, h1, h2, h3, h4⟩
  exact ⟨x, κ2, ρ2, t2, l2, h1, Know.le_trans g1 h2, h3, h4⟩
def thawAs (id : Nat) (cs : List C) : List AV → List AV
 | [] => []
 | x :: r => thawA id cs x :: thawAs id cs r
theorem thawAs_get {id : Nat} {cs : List C} : ∀ {xs : List AV} {i : Nat} {y : AV}, (thawAs id cs xs)[i]? = some y → ∃ x, xs[i]? = some x ∧ y = thawA id cs x
 | [], i, y, h => by simp [thawAs] at h
 | x :: r, 0, y, h => by simp [thawAs] at h; exact ⟨x, rfl, h.symm⟩
 | x :: r, i + 1, y, h => by
  simp only [thawAs, List.getElem?_cons_succ] at h ⊢
  exact thawAs_get h
theorem thawAs_len (id : Nat) (cs : List C) : ∀ xs : List AV, (thawAs id cs xs).length = xs.length
 | [] => rfl
 | x :: r => by simp [thawAs, thawAs_len id cs r]
theorem VCall.thaw {f : FuncId} {xs : List AV} {dst : Option Nat} {K : AV → TL → LL → Prop} (id : Nat) {cs : List C} (hl : lget id l = .box true (dIs cs)) (h : VCall P f (thawAs id cs xs) dst (thawT id cs t) (lrem id l) K) : VCall P f xs dst t l K where
 en := h.en
 out := fun G κ ρ a w vs hr hs hv => by
  obtain ⟨κ1, g1, g2, g3⟩ := hr.thaw hl rfl
  refine (h.out G κ1 _ a w vs g2 (by rw [thawAs_len]; exact hs) fun i v y h1 h2 => ?_).mono ?_
  ·obtain ⟨x, e1, rfl⟩ := thawAs_get h2
   have hx := hv i v x h1 e1
   unfold thawA
   split
   ·split
    ·rename_i e
     have e := Nat.eq_of_beq_eq_true e
     subst e
     exact (g3 v _ hx).1
    ·exact (hx.mono g1).gone
   ·exact (hx.mono g1).gone
  ·rintro e w' ⟨v, κ', ρ', x', t', l', he, h1, h2, h3, h4⟩
   exact ⟨v, κ', ρ', x', t', l', he, Know.le_trans g1 h1, h2, h3, h4⟩
def argM (id i : Nat) : List AV → List AV → Prop
 | [], [] => True
 | x :: xs, y :: ys => (match x, y with
  | .d c, .d c' => wkC c c'
  | .ms k j lo n sz, .ls p lo' n' sz' => k = id ∧ j = i ∧ p = 1000000 ∧ lo = lo' ∧ n = n' ∧ sz = sz'
  | _, _ => False) ∧ argM id i xs ys
 | _, _ => False
theorem argM_get {id i : Nat} {L : Loc} {M : Pl} {ρ0 : Place} (hL : ρ id = some L) (hM : L.ib[i]? = some M) (h0 : ∀ L', ρ0 1000000 = some L' → L'.pl = M) : ∀ {xs ys : List AV}, argM id i xs ys → xs.length = ys.length ∧ ∀ (k : Nat) v x y, xs[k]? = some x → ys[k]? = some y → AVR κ ρ v x → AVR κ ρ0 v y
 | [], [], _ => ⟨rfl, fun i v x y h => (by simp at h)⟩
 | [], _ :: _, h => h.elim
 | _ :: _, [], h => h.elim
 | x :: xs, y :: ys, h => by
  obtain ⟨h1, h2⟩ := argM_get hL hM h0 h.2
  refine ⟨by simp [h1], fun k v x' y' hx hy hv => ?_⟩
  cases k with
  | succ k => exact h2 k v x' y' (by simpa using hx) (by simpa using hy) hv
  | zero =>
   simp only [List.getElem?_cons_zero, Option.some.injEq] at hx hy
   subst hx; subst hy
   have h3 := h.1
   split at h3
   ·exact .d _ _ (wkC_sound h3 hv.repr)
   ·obtain ⟨rfl, rfl, rfl, rfl, rfl, rfl⟩ := h3
    refine .ls _ _ _ _ _ fun L' hL' => ?_
    obtain ⟨M', hM', hs⟩ := hv.ms_at hL
    rw [hM] at hM'; cases hM'
    have := h0 L' hL'
    subst this
    exact hs
   ·exact h3.elim
theorem VCall.parM {f : FuncId} {xs xs0 : List AV} {x : AV} {dst : Option Nat} {K : AV → TL → LL → Prop} (id i : Nat) {sz : Nat} {ix : List MC} {rows : List (List (List C))} {row row' : List (List C)} (h : Fn P f xs0 [(1000000, .row true sz row)] x [(1000000, .row true sz row')])
  (hl : lget id l = .mat sz ix rows) (hi : rows[i]? = some row) (ha : argM id i xs xs0) (hx : flat1 x = true) (hK : K x t (lset id (.mat sz ix (rows.set i row')) l)) : VCall P f xs dst t l K where
 en := h.en
 out := fun G κ ρ a w vs hr hs hv => by
  have hm := hr.m
  have hob := hm.ob id
  rw [hl] at hob
  obtain ⟨L, hL, hR⟩ := hob
  have hR' := hR
  obtain ⟨_, h5, h6, h7, h8⟩ := hR'
  have hil : i < L.ib.length := by rw [h5]; exact some_lt hi
  obtain ⟨M, hM⟩ : ∃ M, L.ib[i]? = some M := ⟨_, List.getElem?_eq_getElem hil⟩
  have hLM := Loc.has_i hM
  have hf := hm.fre id L hL (by rw [hl]; rfl)
  let LM : Loc := ⟨M.b, M.o, M.N, M.kn, []⟩
  let ρ0 : Place := fun p => if p = 1000000 then some LM else none
  have hρ0 : ∀ {p L'}, ρ0 p = some L' → p = 1000000 ∧ L' = LM := fun {p L'} h => by
   simp only [ρ0] at h; split at h
   ·rename_i e; cases h; exact ⟨e, rfl⟩
   ·cases h
  have hLMh : ∀ {b}, LM.has b → b = M.b := fun {b} h => h.elim (fun e => e) fun ⟨M, h, _⟩ => by cases h
  let l0 : LL := [(1000000, .row true sz row)]
  have hl0 : ∀ p, lget p l0 = if p = 1000000 then .row true sz row else .no := fun p => by simp only [l0]; rw [lget_cons]; rfl
  obtain ⟨arr, E, k1, k2, k3⟩ := h6 i M row hM hi
  have hm0 : Mem ⟨w, Mof ρ0 l0, κ, 0, ρ0⟩ κ ρ0 l0 w := by
   refine ⟨fun p => ?_, fun i j Li Lj hij hi hj => ?_, fun i L hi _ b hb => ?_, fun i L hi b hb => ?_, hm.kn, hm.one, fun b o x h => .inl h, ⟨rfl, rfl, rfl, Nat.le_refl _, fun _ _ _ => rfl⟩, fun i L _ h => h⟩
   ·rw [hl0]; split
    ·rename_i e; subst e
     exact ⟨LM, arr, E, (0, 0), if_pos rfl, k1, k2, fun _ => rfl, k3⟩
    ·rename_i e; exact if_neg e
   ·exact absurd ((hρ0 hi).1.trans (hρ0 hj).1.symm) hij
   ·obtain ⟨rfl, rfl⟩ := hρ0 hi
    rw [hLMh hb]
    exact ⟨(hf _ hLM).1, .inr ⟨1000000, LM, hi, by rw [hl0, if_pos rfl]; rfl, .inl rfl⟩⟩
   ·obtain ⟨rfl, rfl⟩ := hρ0 hi
    rw [hLMh hb]; exact hm.own id L hL _ hLM
  obtain ⟨e1, e2⟩ := argM_get (κ := κ) (ρ0 := ρ0) hL hM (fun L' hL' => by rw [(hρ0 hL').2]; rfl) ha
  refine Calls.mono (h.out κ ρ0 w vs hm0 (hs.trans e1) fun i v y h1 h2 => ?_) ?_
  ·have hi : i < xs.length := by rw [← hs]; exact (Array.getElem?_eq_some_iff.1 h1).1
   exact e2 i v _ y (List.getElem?_eq_getElem hi) h2 (hv i v _ h1 (List.getElem?_eq_getElem hi))
  ·rintro e w' ⟨v, κ', ρ1, he, hk, hm1, h3⟩
   have hMof : ∀ b, Mof ρ0 l0 b → b = M.b := fun b ⟨p, Lp, g1, _, g3⟩ => by
    obtain ⟨rfl, rfl⟩ := hρ0 g1; exact hLMh g3
   have hblk : ∀ b, b < w.heap.size → b ≠ M.b → w'.heap[b]? = w.heap[b]? := fun b hb hne => hm1.fr.block b hb fun h => hne (hMof b h)
   have hob1 := hm1.ob 1000000
   obtain ⟨L1, arr1, E1, fz1, q1, q2, q3, q4, q5⟩ : ObR κ' ρ1 w' 1000000 (.row true sz row') := hob1
   obtain ⟨_, rfl⟩ := hρ0 (show ρ0 1000000 = some L1 from hm1.par 1000000 L1 (Nat.le_refl _) q1)
   have := q4 rfl; subst this
   have hfre1 := hm1.fre 1000000 LM q1 rfl M.b (.inl rfl)
   have hne : lget id l ≠ .no := by rw [hl]; exact fun e => by cases e
   have hg := lget_lset (o := .mat sz ix (rows.set i row')) (l := l) (i := id) hne
   have hsepM : ∀ j Lj, j ≠ id → ρ j = some Lj → ∀ b, Lj.has b → b ≠ M.b := fun j Lj hj hLj b hb e => hm.sep id j L Lj (Ne.symm hj) hL hLj (by rw [hl]; rfl) M.b hLM (e ▸ hb)
   have hwr : ∀ j, (lget j (lset id (.mat sz ix (rows.set i row')) l)).wr = (lget j l).wr := fun j => by
    rw [hg]; split
    ·rename_i e; subst e; rw [hl]; rfl
    ·rfl
   have hm' : Mem G κ' ρ (lset id (.mat sz ix (rows.set i row')) l) w' := by
    refine ⟨fun j => ?_, fun p q Lp Lq hpq hp hq hw => hm.sep p q Lp Lq hpq hp hq (by rw [← hwr p]; exact hw), fun p Lp hp hw b hb => ?_, fun p Lp hp b hb => Nat.lt_of_lt_of_le (hm.own p Lp hp b hb) hm1.fr.size, hm1.kn, hm1.one, fun b o x h => ?_, ?_, hm.par⟩
    ·rw [hg]; split
     ·rename_i e; subst e
      obtain ⟨⟨arr0, E0, g1, g2, g3, g4⟩, _⟩ := hR
      refine ⟨L, hL, ⟨arr0, E0, by rw [hblk _ (hm.own _ L hL _ L.has_b) (Ne.symm (h7 i M hM))]; exact g1, g2, g3, fun k c hc => ?_⟩, by simpa using h5, fun r M' row0 hM' hr' => ?_, h7, h8⟩
      ·obtain ⟨x, f1, f2, f3⟩ := g4 k c hc; exact ⟨x, f1, f2.mono hk, f3⟩
      ·by_cases e : r = i
       ·subst e
        rw [hM] at hM'; cases hM'
        rw [List.getElem?_set_self (by rw [← h5]; exact hil)] at hr'; cases hr'
        exact ⟨arr1, E1, q2, q3, q5⟩
       ·rw [List.getElem?_set_ne (Ne.symm e)] at hr'
        obtain ⟨arr', E', f1, f2, f3⟩ := h6 r M' row0 hM' hr'
        exact ⟨arr', E', by rw [hblk _ (hm.own _ L hL _ (Loc.has_i hM')) (h8 r i M' M hM' hM e)]; exact f1, f2, f3.mono hk⟩
     ·rename_i e
      exact (hm.ob j).move hk rfl (fun Lj hLj b hb => hblk b (hm.own j Lj hLj b hb) (hsepM j Lj e hLj b hb)) (fun _ _ _ _ _ _ _ h => h.mono hk)
    ·obtain ⟨g1, g2⟩ := hm.fre p Lp hp (by rw [← hwr p]; exact hw) b hb
     refine ⟨fun o x hx => ?_, g2⟩
     rcases hm1.kn0 b o x hx with h | h | h
     ·exact g1 o x h
     ·have := hm.own p Lp hp b hb; simp only at h; omega
     ·have := hMof b h; subst this; exact hfre1.1 o x hx
    ·rcases hm1.kn0 b o x h with h | h | h
     ·exact hm.kn0 b o x h
     ·exact .inr (.inl (Nat.le_trans hm.fr.size h))
     ·have := hMof b h; subst this; exact .inr (hf _ hLM).2
    ·have f1 := hm.fr; have f2 := hm1.fr
     refine ⟨f2.os.trans f1.os, f2.tape.trans f1.tape, f2.output.trans f1.output, Nat.le_trans f1.size f2.size, fun b hb hMb => ?_⟩
     refine (hblk b (Nat.lt_of_lt_of_le hb f1.size) fun e => ?_).trans (f1.block b hb hMb)
     subst e
     rcases (hf _ hLM).2 with h | h
     ·omega
     ·exact hMb h
   exact ⟨v, κ', ρ, x, t, _, he, hk, ⟨hm', hr.df, hr.sz, fun i => (hr.tm i).mono hk⟩, flat1_sound hx h3, hK⟩
end
end Go.V
namespace Go.V
section
variable {P : Program} {G : Ctx} {κ : Know} {ρ : Place} {t : TL} {l : LL} {a : Act} {w : World}
def collB (r : Nat → Nat) (p : Nat) : LL → Bool
 | [] => true
 | (p', _) :: q => !Nat.beq (r p') (r p) && collB r p q
theorem coll_ok {r : Nat → Nat} {p : Nat} : ∀ {q : LL}, collB r p q = true → ∀ p', lget p' q ≠ .no → r p' ≠ r p
 | [], _, p', h => absurd rfl h
 | (k, o) :: q, h, p', hp => by
  simp only [collB, Bool.and_eq_true, Bool.not_eq_true'] at h
  rw [lget_cons] at hp
  by_cases e : p' = k
  ·subst e; intro e'; rw [e'] at h; simp at h
  ·rw [if_neg e] at hp; exact coll_ok h.2 p' hp
def parOk (r : Nat → Nat) (l : LL) : LL → Prop
 | [] => True
 | (p, o) :: q => (lget (r p) l = o ∧ collB r p q = true) ∧ parOk r l q
theorem parOk_R {r : Nat → Nat} {l : LL} : ∀ {l0 : LL}, parOk r l l0 → parR r l l0
 | [], _ => trivial
 | (p, o) :: q, h => ⟨⟨h.1.1, coll_ok h.1.2⟩, parOk_R h.2⟩
theorem VCall.parN {f : FuncId} {xs xs0 : List AV} {l0 l1 : LL} {c : C} {dst : Option Nat} {K : AV → TL → LL → Prop} (ps : List (Nat × Nat)) (h : Fn P f xs0 l0 (.d c) l1) (ha : argR (pmap ps) xs xs0) (hp : parOk (pmap ps) l l0) (h0 : parsOnly l0 = true)
  (h1 : l0.map (·.1) = l1.map (·.1)) (h2 : parsOnly l1 = true) (hf : freshR (pmap ps) 0 t l l0 l1 = true) (hK : K (.d c) t (retL (pmap ps) 0 l1 ++ l)) : VCall P f xs dst t l K :=
 VCall.of_fnR (k := 0) (pmap ps) h ha (parOk_R hp) h0 (keepRows h1 h2) (fun _ h => by cases h) hf hK
end
end Go.V
namespace Go.V
section
variable {P : Program} {G : Ctx}
end
end Go.V
namespace Go.V
section
variable {P : Program} {G : Ctx} {κ : Know} {ρ : Place} {t : TL} {l : LL} {a : Act} {w : World}
end
end Go.V
namespace Go.V
section
variable {P : Program} {G : Ctx} {κ : Know} {ρ : Place} {t : TL} {l : LL} {a : Act} {w : World}
end
end Go.V
namespace Go.V
mutual
def AV.okB (id : Nat) : AV → Bool
 | .ls k lo n _ => !Nat.beq k id || Nat.blt 0 (lo + n)
 | .ap k _ _ => !Nat.beq k id
 | .ms k _ _ _ _ => !Nat.beq k id
 | .me k _ _ _ _ => !Nat.beq k id
 | .ag cs => AV.okBs id cs
 | .tup cs => AV.okBs id cs
 | _ => true
def AV.okBs (id : Nat) : List AV → Bool
 | [] => true
 | x :: r => AV.okB id x && AV.okBs id r
end
theorem okBs_get {id : Nat} : ∀ {cs : List AV}, AV.okBs id cs = true → ∀ x, x ∈ cs → AV.okB id x = true
 | [], _, x, h => by cases h
 | y :: r, h, x, hx => by
  simp only [AV.okBs, Bool.and_eq_true] at h
  rcases List.mem_cons.1 hx with rfl | hx
  ·exact h.1
  ·exact okBs_get h.2 x hx
def okBL (id : Nat) : LL → Bool
 | [] => true
 | (k, .box _ cs) :: r => (Nat.beq k id || AV.okBs id cs) && okBL id r
 | _ :: r => okBL id r
theorem okBL_get {id : Nat} : ∀ {l : LL}, okBL id l = true → ∀ j m cs, j ≠ id → lget j l = .box m cs → AV.okBs id cs = true
 | [], _, j, m, cs, _, h => by simp [lget] at h
 | (k, .box w cs) :: r, h, j, m, cs', hj, hb => by
  simp only [okBL, Bool.and_eq_true, Bool.or_eq_true] at h
  rw [lget_cons] at hb; split at hb
  ·rename_i e
   cases hb
   exact h.1.resolve_left fun e2 => hj (e.trans (Nat.eq_of_beq_eq_true e2))
  ·exact okBL_get h.2 j m cs' hj hb
 | (k, .no) :: r, h, j, m, cs', hj, hb | (k, .row _ _ _) :: r, h, j, m, cs', hj, hb | (k, .mat _ _ _) :: r, h, j, m, cs', hj, hb => by
  rw [lget_cons] at hb; split at hb
  ·cases hb
  ·exact okBL_get (l := r) h j m cs' hj hb
theorem AVR.toB {κ : Know} {ρ : Place} {id : Nat} {L : Loc} {ib : List Pl} {v : Value} {x : AV} (hL : ρ id = some L) (h : AVR κ ρ v x) (hx : AV.okB id x = true) : AVR κ (ρ.put id (some ⟨L.b, L.o, L.N, 1, ib⟩)) v x := by
 have old : ∀ {i L'}, (ρ.put id (some ⟨L.b, L.o, L.N, 1, ib⟩)) i = some L' → ∃ L0, ρ i = some L0 ∧ L0.b = L'.b ∧ L0.o = L'.o := fun {i L'} h => by
  by_cases hi : i = id
  ·subst hi; rw [put_self] at h; cases h; exact ⟨L, hL, rfl, rfl⟩
  ·rw [put_ne hi] at h; exact ⟨L', h, rfl, rfl⟩
 have ne : ∀ {i}, (!Nat.beq i id) = true → i ≠ id := fun {i} h e => by subst e; simp at h
 induction h with
 | j x => exact .j x
 | d x c h => exact .d x c h
 | ag vs cs hn ho h ih => exact .ag vs cs hn ho fun k v c h1 h2 => ih k v c h1 h2 (okBs_get (by simpa [AV.okB] using hx) c (List.mem_of_getElem? h2))
 | tup vs cs hn h ih => exact .tup vs cs hn fun k v c h1 h2 => ih k v c h1 h2 (okBs_get (by simpa [AV.okB] using hx) c (List.mem_of_getElem? h2))
 | lp x i off h => exact .lp x i off fun L' hL' => by obtain ⟨L0, g1, g2, g3⟩ := old hL'; rw [← g2, ← g3]; exact h L0 g1
 | pe x i j f sz h => exact .pe x i j f sz fun L' hL' => by obtain ⟨L0, g1, g2, g3⟩ := old hL'; rw [← g2, ← g3]; exact h L0 g1
 | ap x i n sz h =>
  have hi := ne (by simpa [AV.okB] using hx)
  exact .ap x i n sz fun L' hL' => h L' (by rw [put_ne hi] at hL'; exact hL')
 | ls x i lo len sz h =>
  refine .ls x i lo len sz fun L' hL' => ?_
  by_cases hi : i = id
  ·subst hi
   rw [put_self] at hL'; cases hL'
   obtain ⟨cap, A, h1, h2, h3, h4, h5⟩ := h L hL
   have hp : 0 < lo + len := by
    have : (!Nat.beq i i || Nat.blt 0 (lo + len)) = true := hx
    rw [show Nat.beq i i = true from Nat.beq_refl i, Bool.not_true, Bool.false_or] at this
    exact Nat.le_of_ble_eq_true this
   exact ⟨cap, A, h1, h2, h3, h4, by show 1 ≤ lo + cap; omega⟩
  ·exact h L' (by rw [put_ne hi] at hL'; exact hL')
 | ep b off rows i f sz vs hz h1 h2 => exact .ep b off rows i f sz vs hz h1 h2
 | pp b off cs o vs h1 h2 => exact .pp b off cs o vs h1 h2
 | ms x i r lo len sz h =>
  have hi := ne (by simpa [AV.okB] using hx)
  exact .ms x i r lo len sz fun L' hL' => h L' (by rw [put_ne hi] at hL'; exact hL')
 | me x i r j f sz h =>
  have hi := ne (by simpa [AV.okB] using hx)
  exact .me x i r j f sz fun L' hL' => h L' (by rw [put_ne hi] at hL'; exact hL')
section
variable {P : Program} {G : Ctx} {κ : Know} {ρ : Place} {t : TL} {l : LL} {a : Act} {w : World}
theorem Mem.toB (hm : Mem G κ ρ l w) {id id2 lo n sz : Nat} {rows : List (List C)} (hl : lget id l = .box true [.ls id2 lo n sz]) (hl2 : lget id2 l = .row true sz rows) (hne : id ≠ id2) (hid : id < 1000000) (hok : okBL id l = true) :
  ∃ ρ', Mem G κ ρ' ((id, .mat sz [.r 0 lo n] [rows]) :: lrem id2 l) w ∧ ∀ v x, AV.okB id x = true → AVR κ ρ v x → AVR κ ρ' v x := by
 have hob := hm.ob id
 rw [hl] at hob
 obtain ⟨L, arr, E, fz, hL, hh, hN, hfz, hcs⟩ := hob
 have := hfz rfl; subst this
 have hob2 := hm.ob id2
 rw [hl2] at hob2
 obtain ⟨L2, arr2, E2, fz2, hL2, hh2, hN2, hfz2, hz2, hkn2, hcs2⟩ := hob2
 have := hfz2 rfl; subst this
 have w1 : (lget id l).wr = true := by rw [hl]; rfl
 have w2 : (lget id2 l).wr = true := by rw [hl2]; rfl
 have hd := hm.drop id2
 let L' : Loc := ⟨L.b, L.o, L.N, 1, [L2.pl]⟩
 have hL1 : (ρ.put id2 Option.none) id = some L := by rw [put_ne hne]; exact hL
 have hAV : ∀ v x, AV.okB id x = true → AVR κ ρ v x → AVR κ ((ρ.put id2 Option.none).put id (some L')) v x := fun v x hx hv => AVR.toB hL1 hv.gone hx
 have hhas : ∀ b, L'.has b → b = L.b ∨ b = L2.b := fun b h => h.imp (fun e => e) fun ⟨M, hM, e⟩ => by
  have : M = L2.pl := by simpa [L'] using hM
  subst this; exact e
 have hb12 : L2.b ≠ L.b := fun e => hm.sep id id2 L L2 hne hL hL2 w1 L.b L.has_b (e ▸ L2.has_b)
 have hg : ∀ i, lget i ((id, .mat sz [.r 0 lo n] [rows]) :: lrem id2 l) = if i = id then .mat sz [.r 0 lo n] [rows] else if i = id2 then .no else lget i l := fun i => by
  rw [lget_cons, lget_lrem]
 have hρ : ∀ {i Li}, i ≠ id → ((ρ.put id2 Option.none).put id (some L')) i = some Li → i ≠ id2 ∧ ρ i = some Li := fun {i Li} hi h => by
  rw [put_ne hi] at h; exact put_none_some h
 refine ⟨(ρ.put id2 Option.none).put id (some L'), ⟨fun i => ?_, fun i j Li Lj hij hi hj hw b hb => ?_, fun i Li hi hw b hb => ?_, fun i Li hi b hb => ?_, hm.kn, hm.one, hm.kn0, hm.fr, fun i Li h1 hi => ?_⟩, hAV⟩
 ·rw [hg]
  by_cases h1 : i = id
  ·subst h1
   rw [if_pos rfl]
   refine ⟨L', put_self _ _, ⟨arr, E, hh, hN, Nat.le_refl _, fun k c hc => ?_⟩, rfl, fun r M row hM hr => ?_, fun r M hM => ?_, fun p q M M' hp hq hpq => ?_⟩
   ·cases k with
    | zero =>
     have hc : MC.r 0 lo n = c := by simpa using hc
     subst hc
     obtain ⟨x, f1, f2, f3⟩ := hcs 0 (.ls id2 lo n sz) rfl
     exact ⟨x, f1, ⟨L2.pl, rfl, f2.ls_at hL2⟩, f3⟩
    | succ k => simp at hc
   ·cases r with
    | zero =>
     have hM : L2.pl = M := by simpa [L'] using hM
     have hr : rows = row := by simpa using hr
     subst hM; subst hr
     exact ⟨arr2, E2, hh2, hN2, hz2, hkn2, hcs2⟩
    | succ r => simp at hr
   ·cases r with
    | zero =>
     have hM : L2.pl = M := by simpa [L'] using hM
     subst hM; exact hb12
    | succ r => simp [L'] at hM
   ·have hp' := some_lt hp
    have hq' := some_lt hq
    simp [L'] at hp' hq'
    omega
  ·rw [if_neg h1]
   by_cases h2 : i = id2
   ·subst h2
    rw [if_pos rfl]
    show ((ρ.put i Option.none).put id (some L')) i = Option.none
    rw [put_ne h1, put_self]
   ·rw [if_neg h2]
    refine (hm.ob i).move (Know.le_refl _) (by rw [put_ne h1, put_ne h2]) (fun _ _ _ _ => rfl) fun m cs hb k c v hc hv => hAV v c (okBs_get (okBL_get hok i m cs h1 hb) c (List.mem_of_getElem? hc)) hv
 ·rw [hg] at hw
  by_cases h1 : i = id
  ·subst h1
   rw [put_self] at hi; cases hi
   obtain ⟨h2, h3⟩ := hρ (Ne.symm hij) hj
   rcases hhas b hb with e | e
   ·rw [e]; exact hm.sep i j L Lj hij hL h3 w1 _ L.has_b
   ·rw [e]; exact hm.sep id2 j L2 Lj (Ne.symm h2) hL2 h3 w2 _ L2.has_b
  ·obtain ⟨h2, h3⟩ := hρ h1 hi
   rw [if_neg h1, if_neg h2] at hw
   by_cases h4 : j = id
   ·subst h4
    rw [put_self] at hj; cases hj
    intro hb2
    rcases hhas b hb2 with e | e
    ·exact hm.sep i j Li L h1 h3 hL hw b hb (e ▸ L.has_b)
    ·exact hm.sep i id2 Li L2 h2 h3 hL2 hw b hb (e ▸ L2.has_b)
   ·obtain ⟨_, h6⟩ := hρ h4 hj
    exact hm.sep i j Li Lj hij h3 h6 hw b hb
 ·rw [hg] at hw
  by_cases h1 : i = id
  ·subst h1
   rw [put_self] at hi; cases hi
   rcases hhas b hb with e | e
   ·rw [e]; exact hm.fre i L hL w1 _ L.has_b
   ·rw [e]; exact hm.fre id2 L2 hL2 w2 _ L2.has_b
  ·obtain ⟨h2, h3⟩ := hρ h1 hi
   rw [if_neg h1, if_neg h2] at hw
   exact hm.fre i Li h3 hw b hb
 ·by_cases h1 : i = id
  ·subst h1
   rw [put_self] at hi; cases hi
   rcases hhas b hb with e | e
   ·rw [e]; exact hm.own i L hL _ L.has_b
   ·rw [e]; exact hm.own id2 L2 hL2 _ L2.has_b
  ·exact hm.own i Li (hρ h1 hi).2 b hb
 ·by_cases h2 : i = id
  ·omega
  ·exact hm.par i Li h1 (hρ h2 hi).2
def endM (ty : TypeId → Ty) (rs : List ResultVar) (id : Nat) (x1 : AV) (l1 : LL) (e : Ex) (t : TL) (l : LL) : Prop :=
 match e with
 | .x _ => False
 | _ => resK ty t l rs fun ys => ifB (AV.okBs id ys && okBL id l && Nat.blt id 1000000) (match lget id l with
  | .box true [.ls id2 lo n sz] => match lget id2 l with
   | .row true sz' rows => ifB (Nat.beq sz' sz && !Nat.beq id id2) (ifB (shapeA ys [x1]) (finK ((id, .mat sz [.r 0 lo n] [rows]) :: lrem id2 l) (flatA ys) (flatA [x1]) 0 l1))
   | _ => False
  | _ => False)
theorem Fn.introM {ty : TypeId → Ty} {ks : List Nat} {f : FuncId} {fn : Func} {c : Code} {xs : List AV} {l0 : LL} {x1 : AV} {l1 : LL} (id : Nat) (hty : TyOk P ty) (hf : P.funcs[f]? = some fn) (hb : fn.body = some c)
  (hname : (fn.name == "runtime.NumGoroutine") = false) (hx : Nat.ble xs.length fn.ntmps = true) (hd : dstCode fn.ntmps c = true)
  (h : vcCode P ty ks c (slots 0 xs) l0 (endM ty fn.results.toList id x1 l1)) : Fn P f xs l0 x1 l1 where
 en := ⟨fn, hf, by rw [hb]; rfl, hname⟩
 out := fun κ ρ w vs hm hvs hv => by
  have hxl := Nat.le_of_ble_eq_true hx
  refine calls_of_wp hf hb (Code.wp_mono ?_ (vcCode_sound (G := ⟨w, Mof ρ l0, κ, fn.ntmps, ρ⟩) hty c _ κ ρ _ _ _ w hd ?_ h))
  ·rintro e a' w' ⟨x, κ', ρ', t', l', h1, h2, h3, h4⟩
   have key : endM ty fn.results.toList id x1 l1 .n t' l' → a'.defers = [] ∧ ∃ v, (results fn a'.tmps).run P w' = .ok v w' ∧ ∃ v_1 κ' ρ', Ending.returned v = .returned v_1 ∧ κ.le κ' ∧ Mem ⟨w, Mof ρ l0, κ, 0, ρ⟩ κ' ρ' l1 w' ∧ AVR κ' ρ' v_1 x1 := by
    intro h4
    refine ⟨h3.df, ?_⟩
    unfold endM at h4
    obtain ⟨us, ys, g1, g2, g3, g4⟩ := resK_sound hty h3 h4
    refine ⟨_, results_run g1, (if h : us.toArray.size = 1 then us.toArray[0] else .tuple us.toArray), ?_⟩
    obtain ⟨q1, q2⟩ := ifB_iff.1 g4
    simp only [Bool.and_eq_true] at q1
    split at q2
    ·rename_i id2 lo n sz hl
     split at q2
     ·rename_i sz' rows hl2
      obtain ⟨q3, q4⟩ := ifB_iff.1 q2
      simp only [Bool.and_eq_true, Bool.not_eq_true'] at q3
      have e1 := Nat.eq_of_beq_eq_true q3.1
      subst e1
      have hm3 : Mem ⟨w, Mof ρ l0, κ, 0, ρ⟩ κ' ρ' l' w' := ⟨h3.m.ob, h3.m.sep, h3.m.fre, h3.m.own, h3.m.kn, h3.m.one, h3.m.kn0, ⟨h3.m.fr.os, h3.m.fr.tape, h3.m.fr.output, h3.m.fr.size, h3.m.fr.block⟩, h3.m.par⟩
      obtain ⟨ρ2, hm4, hAV⟩ := hm3.toB hl hl2 (fun e => by rw [e] at q3; simp at q3) (Nat.le_of_ble_eq_true q1.2) q1.1.2
      replace hfin := ifB_iff.1 q4
      obtain ⟨κ2, ρ3, k1, k2, _, _, _, k6, k7, _⟩ := finK_sound hm4 hfin.2
      replace ⟨k6, k7⟩ := flatA_get hfin.1 k7 k6
      have hl1 : us.length = 1 := by rw [g2, k6]; rfl
      refine ⟨κ2, ρ3, rfl, Know.le_trans h2 k1, k2, ?_⟩
      match us, ys, hl1, k6, g2 with
      | [u], [y'], _, _, _ => exact k7 0 u y' x1 rfl rfl (hAV u y' (okBs_get q1.1.1 y' (by simp)) (g3 0 u y' rfl rfl))
     ·exact q2.elim
    ·exact q2.elim
   cases e with
   | normal => have h1' : some Ex.n = some x := h1; cases h1'; exact key h4
   | ret => have h1' : some Ex.r = some x := h1; cases h1'; exact key h4
   | exit id => have h1' : some (Ex.x id) = some x := h1; cases h1'; exact (show False from h4).elim
   | _ => simp [exOf] at h1
  ·refine ⟨⟨hm.ob, hm.sep, hm.fre, hm.own, hm.kn, hm.one, hm.kn0, ⟨rfl, rfl, rfl, Nat.le_refl _, fun _ _ _ => rfl⟩, fun i L _ h => h⟩, rfl, (by show (vs ++ Array.replicate (fn.ntmps - vs.size) undef).size = fn.ntmps; rw [Array.size_append, Array.size_replicate]; omega), fun i => ?_⟩
   rw [get_slots, if_pos (Nat.zero_le _)]
   simp only [Nat.sub_zero]
   rcases Nat.lt_or_ge i vs.size with hlt | hge
   ·have h1 : (vs ++ Array.replicate (fn.ntmps - vs.size) undef).getD i undef = vs[i] := by
     rw [Array.getD_eq_getD_getElem?, Array.getElem?_append_left hlt, Array.getElem?_eq_getElem hlt]; rfl
    rw [h1]
    have hix : i < xs.length := by omega
    have h2 : xs.getD i .j = xs[i] := by simp [List.getD_eq_getElem?_getD, hix]
    rw [h2]
    exact hv i _ _ (by simp) (List.getElem?_eq_getElem hix)
   ·have : xs.getD i .j = .j := by rw [List.getD_eq_getElem?_getD, List.getElem?_eq_none (by omega)]; rfl
    rw [this]; exact .j _
end
end Go.V
namespace Go.V
open Go.Proofs
set_option maxRecDepth 10000
def tyTab : List (Nat × Ty) := [
 (2, ⟨1, false, [(.int .i64 0)], [], 0, 0, [], (some .i64), 2⟩),
 (3, ⟨1, false, [(.int .i64 0)], [], 0, 0, [], (some .i64), 2⟩),
 (4, ⟨1, false, [(.bool false)], [], 0, 0, [], none, 1⟩),
 (5, ⟨1, false, [(.int .u8 0)], [], 0, 0, [], (some .u8), 2⟩),
 (9, ⟨1, false, [(.string .empty)], [], 0, 0, [], none, 3⟩),
 (22, ⟨1, false, [(.slice none 0 0)], [], 1, 24, [(.slice none 0 0)], none, 4⟩),
 (24, ⟨1, true, [(.slice none 0 0)], [(0, 1, false)], 0, 0, [], none, 5⟩),
 (25, ⟨1, false, [(.slice none 0 0)], [], 3, 24, [(.int .i64 0), (.int .i64 0), (.int .i64 0)], none, 4⟩),
 (27, ⟨2, true, [(.slice none 0 0), (.slice none 0 0)], [(0, 1, true), (1, 1, false)], 0, 0, [], none, 5⟩),
 (32, ⟨1, false, [(.slice none 0 0)], [], 1, 16, [(.string .empty)], none, 4⟩),
 (40, ⟨3, true, [(.int .i64 0), (.int .i64 0), (.int .i64 0)], [(0, 1, false), (1, 1, false), (2, 1, false)], 0, 0, [], none, 5⟩),
 (45, ⟨1, false, [(.slice none 0 0)], [(8, 8, true)], 1, 1, [(.int .u8 0)], none, 4⟩)]
abbrev ty (i : TypeId) : Ty := tyGet i tyTab
theorem tabOk : TabOk Try.prog tyTab := ⟨by kernel_rfl, by kernel_rfl, by kernel_rfl, by kernel_rfl, by kernel_rfl, by kernel_rfl, by kernel_rfl, by kernel_rfl, by kernel_rfl, by kernel_rfl, by kernel_rfl, by kernel_rfl, trivial⟩
theorem hty : TyOk Try.prog ty := tyOk_tab tabOk
theorem hmo : Try.prog.follows .mixedOrders = true := by kernel_rfl
abbrev I (n : Int) : AV := .d (.s (.int .i64 n))
abbrev B (b : Bool) : AV := .d (.s (.bool b))
end Go.V
namespace Go.V
def vl (B : Nat) : List Nat → Nat
 | [] => 0
 | x :: r => x + B * vl B r
def dgF (B : Nat) : Nat → Nat → List Nat
 | 0, _ => []
 | f + 1, n => if n = 0 then [] else n % B :: dgF B f (n / B)
def dg (B n : Nat) : List Nat := dgF B n n
def Cn (B : Nat) (l : List Nat) : Prop := (∀ x, x ∈ l → x < B) ∧ l.getLast? ≠ some 0
section
variable {B : Nat}
theorem div_fuel (hB : 2 ≤ B) {n f : Nat} (h : n ≤ f + 1) (h0 : n ≠ 0) : n / B ≤ f := by
 have := Nat.div_lt_self (by omega : 0 < n) (by omega : 1 < B)
 omega
theorem vl_dgF (hB : 2 ≤ B) : ∀ f n, n ≤ f → vl B (dgF B f n) = n
  | 0, n, h => by have : n = 0 := by omega
                  subst this; rfl
  | f + 1, n, h => by
    unfold dgF
    split
    · rename_i h0; rw [h0]; rfl
    · rename_i h0
      rw [vl, vl_dgF hB f _ (div_fuel hB h h0)]
      exact Nat.mod_add_div n B
theorem dgF_lt (hB : 2 ≤ B) : ∀ f n x, x ∈ dgF B f n → x < B
 | 0, n, x, h => by simp [dgF] at h
 | f + 1, n, x, h => by
  unfold dgF at h
  split at h
  ·simp at h
  ·rcases List.mem_cons.1 h with rfl | h
   ·exact Nat.mod_lt _ (by omega)
   ·exact dgF_lt hB f _ x h
theorem getLast_cons {x : Nat} {r : List Nat} : (x :: r).getLast? = if r = [] then some x else r.getLast? := by
 cases r with
 | nil => rfl
 | cons y s => simp [List.getLast?_cons_cons]
theorem dgF_nz (hB : 2 ≤ B) : ∀ f n, n ≤ f → (dgF B f n).getLast? ≠ some 0
 | 0, n, h => by simp [dgF]
 | f + 1, n, h => by
  unfold dgF
  split
  ·simp
  ·rename_i h0
   rw [getLast_cons]
   have ih := vl_dgF hB f _ (div_fuel hB h h0)
   have ih2 := dgF_nz hB f _ (div_fuel hB h h0)
   split
   ·rename_i he
    rw [he] at ih
    have h1 : n / B = 0 := ih.symm
    have h2 := Nat.mod_add_div n B
    simp only [ne_eq, Option.some.injEq]
    intro h3
    rw [h1, h3] at h2
    exact h0 (by omega)
   ·exact ih2
theorem vl_dg (hB : 2 ≤ B) (n : Nat) : vl B (dg B n) = n := vl_dgF hB n n (Nat.le_refl _)
theorem dg_lt (hB : 2 ≤ B) {n x : Nat} (h : x ∈ dg B n) : x < B := dgF_lt hB n n x h
theorem cn_dg (hB : 2 ≤ B) (n : Nat) : Cn B (dg B n) := ⟨fun _ h => dg_lt hB h, dgF_nz hB n n (Nat.le_refl _)⟩
theorem Cn.nil : Cn B [] := ⟨by simp, by simp⟩
theorem Cn.tail {x : Nat} {r : List Nat} (h : Cn B (x :: r)) : Cn B r := ⟨fun y hy => h.1 y (by simp [hy]), by
 have := h.2
 rw [getLast_cons] at this
 split at this
 ·rename_i e; rw [e]; simp
 ·exact this⟩
theorem vl_pos (hB : 2 ≤ B) : ∀ {l : List Nat}, Cn B l → l ≠ [] → 0 < vl B l
 | [], _, h => absurd rfl h
 | x :: r, h, _ => by
  unfold vl
  cases r with
  | nil =>
   have := h.2
   simp [getLast_cons] at this
   omega
  | cons y s =>
   have := vl_pos hB h.tail (by simp)
   have := Nat.mul_pos (by omega : 0 < B) this
   omega
theorem vl_inj (hB : 2 ≤ B) : ∀ {l m : List Nat}, Cn B l → Cn B m → vl B l = vl B m → l = m
 | [], [], _, _, _ => rfl
 | [], y :: s, _, hm, e => by have := vl_pos hB hm (by simp); rw [← e] at this; simp [vl] at this
 | x :: r, [], hl, _, e => by have := vl_pos hB hl (by simp); rw [e] at this; simp [vl] at this
 | x :: r, y :: s, hl, hm, e => by
  unfold vl at e
  have hx := hl.1 x (by simp)
  have hy := hm.1 y (by simp)
  have e1 : x = y := by
   have := congrArg (· % B) e
   simpa [Nat.add_mul_mod_self_left, Nat.mod_eq_of_lt hx, Nat.mod_eq_of_lt hy] using this
  have e2 : vl B r = vl B s := by
   have : B * vl B r = B * vl B s := by omega
   exact Nat.eq_of_mul_eq_mul_left (by omega) this
  rw [e1, vl_inj hB hl.tail hm.tail e2]
theorem dg_vl (hB : 2 ≤ B) {l : List Nat} (h : Cn B l) : dg B (vl B l) = l := vl_inj hB (cn_dg hB _) h (vl_dg hB _)
theorem dg_of (hB : 2 ≤ B) {l : List Nat} {n : Nat} (h : Cn B l) (e : vl B l = n) : dg B n = l := by rw [← e]; exact dg_vl hB h
theorem vl_append : ∀ (l m : List Nat), vl B (l ++ m) = vl B l + B ^ l.length * vl B m
 | [], m => by simp [vl]
 | x :: r, m => by
  simp only [List.cons_append, vl, vl_append r m, List.length_cons, Nat.pow_succ]
  rw [Nat.mul_add, Nat.add_assoc, ← Nat.mul_assoc, Nat.mul_comm B (B ^ r.length)]
theorem vl_snoc (l : List Nat) (x : Nat) : vl B (l ++ [x]) = vl B l + B ^ l.length * x := by rw [vl_append]; simp [vl]
theorem vl_lt : ∀ {l : List Nat}, (∀ x, x ∈ l → x < B) → vl B l < B ^ l.length
 | [], _ => by simp [vl]
 | x :: r, h => by
  have ih := vl_lt (l := r) fun y hy => h y (by simp [hy])
  have hx := h x (by simp)
  simp only [vl, List.length_cons, Nat.pow_succ]
  have := Nat.mul_le_mul_left B ih
  rw [Nat.mul_comm (B ^ r.length) B]
  have e : B * (vl B r).succ = B * vl B r + B := Nat.mul_succ _ _
  omega
theorem vl_zeros : ∀ n, vl B (List.replicate n 0) = 0
 | 0 => rfl
 | n + 1 => by simp [List.replicate_succ, vl, vl_zeros n]
theorem vl_take_succ {l : List Nat} {k : Nat} (h : k < l.length) : vl B (l.take (k + 1)) = vl B (l.take k) + B ^ k * l[k] := by
 rw [List.take_succ_eq_append_getElem h, vl_snoc, List.length_take, Nat.min_eq_left (by omega)]
theorem vl_split (l : List Nat) (k : Nat) (h : k ≤ l.length) : vl B l = vl B (l.take k) + B ^ k * vl B (l.drop k) := by
 conv => lhs; rw [← List.take_append_drop k l]
 rw [vl_append, List.length_take, Nat.min_eq_left h]
theorem vl_drop {l : List Nat} {k : Nat} (h : k < l.length) : vl B (l.drop k) = l[k] + B * vl B (l.drop (k + 1)) := by
 rw [List.drop_eq_getElem_cons h]; rfl
theorem vl_set : ∀ {l : List Nat} {j d : Nat} (h : j < l.length), vl B (l.set j d) + B ^ j * l[j] = vl B l + B ^ j * d
 | x :: r, 0, d, _ => by simp [vl]; omega
 | x :: r, j + 1, d, h => by
  have ih := vl_set (l := r) (j := j) (d := d) (by simpa using h)
  simp only [List.set_cons_succ, vl, List.getElem_cons_succ, Nat.pow_succ]
  have := congrArg (B * ·) ih
  simp only [Nat.mul_add] at this
  have e : ∀ z, B ^ j * B * z = B * (B ^ j * z) := fun z => by rw [Nat.mul_comm (B ^ j) B, Nat.mul_assoc]
  rw [e, e]; omega
theorem Cn.of_take {l : List Nat} (hl : ∀ x, x ∈ l → x < B) {k : Nat} (hk : k ≤ l.length) (h : ∀ j (hj : j < l.length), k = j + 1 → l[j] ≠ 0) : Cn B (l.take k) := by
 refine ⟨fun x hx => hl x (List.mem_of_mem_take hx), ?_⟩
 cases k with
 | zero => simp
 | succ j =>
  rw [List.take_succ_eq_append_getElem (by omega), List.getLast?_append]
  simp only [List.getLast?_singleton, Option.some_or, ne_eq, Option.some.injEq]
  exact h j (by omega) rfl
theorem dg_len_le (hB : 2 ≤ B) {n k : Nat} (h : n < B ^ k) : (dg B n).length ≤ k := by
 apply Nat.le_of_not_lt
 intro hk
 have hc := cn_dg hB n
 have hv := vl_dg hB n
 have hlen : 0 < (dg B n).length := by omega
 have hs := vl_split (B := B) (dg B n) ((dg B n).length - 1) (by omega)
 rw [hv, vl_drop (by omega : (dg B n).length - 1 < (dg B n).length), show (dg B n).length - 1 + 1 = (dg B n).length by omega, List.drop_length] at hs
 have hlast : (dg B n)[(dg B n).length - 1] ≠ 0 := fun e => by
  apply hc.2
  rw [List.getLast?_eq_getElem?, List.getElem?_eq_getElem (by omega), e]
 have h1 : B ^ k ≤ B ^ ((dg B n).length - 1) := Nat.pow_le_pow_right (by omega) (by omega)
 have h2 : B ^ ((dg B n).length - 1) * 1 ≤ B ^ ((dg B n).length - 1) * ((dg B n)[(dg B n).length - 1] + B * vl B []) := Nat.mul_le_mul_left _ (by omega)
 omega
theorem lt_of_len (hB : 2 ≤ B) (n : Nat) : n < B ^ (dg B n).length := by
 have := vl_lt (B := B) (l := dg B n) fun x h => dg_lt hB h
 rwa [vl_dg hB] at this
end
def bl (n : Nat) : Nat := (dg 2 n).length
theorem lt_bl (n : Nat) : n < 2 ^ bl n := lt_of_len (by decide) n
theorem bl_le {n k : Nat} (h : n < 2 ^ k) : bl n ≤ k := dg_len_le (by decide) h
theorem bl_mono {a b : Nat} (h : a ≤ b) : bl a ≤ bl b := bl_le (Nat.lt_of_le_of_lt h (lt_bl b))
theorem bl_mul (a b : Nat) : bl (a * b) ≤ bl a + bl b := bl_le (by
 rw [Nat.pow_add]
 exact Nat.lt_of_lt_of_le (Nat.lt_of_le_of_lt (Nat.mul_le_mul_left a (Nat.le_of_lt (lt_bl b))) ((Nat.mul_lt_mul_right (Nat.pow_pos (by decide))).2 (lt_bl a))) (Nat.le_refl _))
end Go.V
namespace Go.V
theorem guess_hi {B m top next ul vl head r guess left : Nat} (hu : ul < m) (he : guess * top + left = head) (hUV : (head * B + r) * m + ul < B * ((top * B + next) * m + vl))
  (hc : B ≤ guess ∨ left * B + r < guess * next) : (head * B + r) * m + ul < guess * ((top * B + next) * m + vl) := by
 rcases hc with hc | hc
 ·exact Nat.lt_of_lt_of_le hUV (Nat.mul_le_mul_right _ hc)
 ·have h1 : head * B + r + 1 ≤ guess * (top * B + next) := by
   subst he
   have : guess * (top * B + next) = guess * top * B + guess * next := by grind
   have : (guess * top + left) * B = guess * top * B + left * B := by grind
   omega
  have h2 := Nat.mul_le_mul_right m h1
  have h3 : guess * ((top * B + next) * m + vl) = guess * (top * B + next) * m + guess * vl := by grind
  have h4 : (head * B + r + 1) * m = (head * B + r) * m + m := by grind
  omega
end Go.V
namespace Go.V
theorem pow_lt_absurd {B n x y : Nat} (hy : y ≠ 0) (h : x + B ^ n * y < B ^ n) : False := by
 have := Nat.mul_le_mul_left (B ^ n) (by omega : 1 ≤ y)
 omega
section
variable {B : Nat}
theorem div_step (hB : 2 ≤ B) {R : List Nat} {i n V : Nat} (hlen : i + n + 1 ≤ R.length) (hR : ∀ x, x ∈ R → x < B) (hV : V < B ^ n) (hlt : vl B (R.drop (i + 1)) < V) :
  vl B ((R.drop i).take (n + 1)) < B * V ∧ vl B (R.drop (i + n + 1)) = 0 ∧
  ∀ W', W'.length = n + 1 → vl B W' = vl B ((R.drop i).take (n + 1)) % V →
   (R.take i ++ (W' ++ R.drop (i + n + 1))).length = R.length ∧ vl B ((R.take i ++ (W' ++ R.drop (i + n + 1))).drop i) < V ∧
   vl B (R.take i ++ (W' ++ R.drop (i + n + 1))) + V * (B ^ i * (vl B ((R.drop i).take (n + 1)) / V)) = vl B R := by
 have z : vl B (R.drop (i + n + 1)) = 0 := by
  have := vl_split (B := B) (R.drop (i + 1)) n (by rw [List.length_drop]; omega)
  rw [List.drop_drop, show i + 1 + n = i + n + 1 by omega] at this
  apply Classical.byContradiction
  intro h0
  exact pow_lt_absurd h0 (by rw [← this]; omega : vl B ((R.drop (i + 1)).take n) + B ^ n * vl B (R.drop (i + n + 1)) < B ^ n)
 have e1 : vl B (R.drop i) = vl B ((R.drop i).take (n + 1)) := by
  have := vl_split (B := B) (R.drop i) (n + 1) (by rw [List.length_drop]; omega)
  rw [List.drop_drop, show i + (n + 1) = i + n + 1 by omega, z] at this
  simpa using this
 have hU : vl B ((R.drop i).take (n + 1)) < B * V := by
  rw [← e1, vl_drop (by omega : i < R.length)]
  have h1 := hR R[i] (by simp)
  have h2 := Nat.mul_le_mul_left B (Nat.succ_le_of_lt hlt)
  rw [Nat.mul_succ] at h2
  omega
 have hV0 : 0 < V := by omega
 refine ⟨hU, z, fun W' hw hv => ?_⟩
 have ht : (R.take i).length = i := by rw [List.length_take]; omega
 have hd : (R.take i ++ (W' ++ R.drop (i + n + 1))).drop i = W' ++ R.drop (i + n + 1) := by
  rw [List.drop_append, ht]; simp
 refine ⟨?_, ?_, ?_⟩
 ·simp only [List.length_append, List.length_take, List.length_drop, hw]; omega
 ·rw [hd, vl_append, z, hv]; simp; exact Nat.mod_lt _ hV0
 ·rw [vl_append, vl_append, z, ht, hv]
  have h1 := vl_split (B := B) R i (by omega)
  rw [h1, e1]
  have h2 := Nat.mod_add_div (vl B ((R.drop i).take (n + 1))) V
  generalize vl B ((R.drop i).take (n + 1)) = U at *
  generalize U % V = m at *
  generalize U / V = q at *
  have : B ^ i * U = B ^ i * m + B ^ i * (V * q) := by rw [← h2, Nat.mul_add]
  have : V * (B ^ i * q) = B ^ i * (V * q) := by grind
  simp only [Nat.mul_zero, Nat.add_zero]
  omega
theorem shift_step {w r s c : Nat} (hc : B = s * c) (hs : 0 < s) (hr : r < B) : (r + B * w) / s % B = r / s + c * (w % s) ∧ (r + B * w) / s = (r + B * w) / s % B + B * (w / s) := by
 have key : (r + B * w) / s = r / s + c * w := by
  rw [hc, Nat.mul_assoc, Nat.add_mul_div_left _ _ hs]
 have h1 := Nat.div_add_mod w s
 have h2 := Nat.mod_lt w hs
 have h3 : r / s < c := Nat.div_lt_of_lt_mul (by rw [← hc]; exact hr)
 have h4 : c * (w % s) + c ≤ B := by
  have := Nat.mul_le_mul_left c (Nat.succ_le_of_lt h2)
  rw [Nat.mul_succ, Nat.mul_comm c s, ← hc] at this
  exact this
 have h5 : c * w = B * (w / s) + c * (w % s) := by
  rw [hc, show s * c * (w / s) = c * (s * (w / s)) by grind, ← Nat.mul_add, h1]
 have h6 : (r + B * w) / s % B = r / s + c * (w % s) := by
  rw [key, h5, show r / s + (B * (w / s) + c * (w % s)) = r / s + c * (w % s) + B * (w / s) by omega, Nat.add_mul_mod_self_left, Nat.mod_eq_of_lt (by omega)]
 exact ⟨h6, by rw [h6, key, h5]; omega⟩
theorem shift_same {w w' r s c : Nat} (hc : B = s * c) (hs : 0 < s) (hr : r < B) (h : w % B = w' % B) : (r + B * w) / s % B = (r + B * w') / s % B := by
 rw [(shift_step hc hs hr).1, (shift_step hc hs hr).1]
 have : ∀ z, z % s = z % B % s := fun z => by rw [Nat.mod_mod_of_dvd z ⟨c, hc⟩]
 rw [this w, this w', h]
end
end Go.V
namespace Go.V
def sgn (s : Bool) (n : Nat) : Int := if s then -(n : Int) else n
theorem sgn_f (n : Nat) : sgn false n = n := rfl
theorem sgn_t (n : Nat) : sgn true n = -(n : Int) := rfl
def ng (q : Rat) : Bool := decide (q.num < 0)
def tp (q : Rat) : Nat := q.num.natAbs
theorem sgn_abs (s : Bool) (n : Nat) : (sgn s n).natAbs = n := by cases s <;> simp [sgn]
theorem mkRat_parts {s : Bool} {t b : Nat} (hb : b ≠ 0) : ng (mkRat (sgn s t) b) = (s && decide (t ≠ 0)) ∧ tp (mkRat (sgn s t) b) = t / t.gcd b ∧ (mkRat (sgn s t) b).den = b / t.gcd b := by
 have hn : (mkRat (sgn s t) b).num = sgn s t / (t.gcd b : Int) := by
  rw [← Rat.normalize_eq_mkRat hb, Rat.normalize_eq]
  show sgn s t / (((sgn s t).natAbs.gcd b : Nat) : Int) = _
  rw [sgn_abs]
 have hdn : (mkRat (sgn s t) b).den = b / t.gcd b := by
  rw [← Rat.normalize_eq_mkRat hb, Rat.normalize_eq]
  show b / (sgn s t).natAbs.gcd b = _
  rw [sgn_abs]
 have hg : 0 < t.gcd b := Nat.gcd_pos_of_pos_right t (by omega)
 have hd : t.gcd b ∣ t := Nat.gcd_dvd_left t b
 obtain ⟨c, hc⟩ := hd
 have hq : t / t.gcd b = c := Nat.div_eq_of_eq_mul_right hg hc
 have hz : (t.gcd b : Int) ≠ 0 := by omega
 have hs : sgn s t / (t.gcd b : Int) = sgn s c := by
  cases s with
  | false =>
   rw [sgn_f, sgn_f, show (t : Int) = (t.gcd b : Int) * (c : Int) by rw [← Int.natCast_mul, ← hc]]
   exact Int.mul_ediv_cancel_left _ hz
  | true =>
   rw [sgn_t, sgn_t, show -(t : Int) = (t.gcd b : Int) * -(c : Int) by rw [Int.mul_neg, ← Int.natCast_mul, ← hc]]
   exact Int.mul_ediv_cancel_left _ hz
 rw [hs] at hn
 have ht : (t = 0) ↔ (c = 0) := by
  constructor
  ·intro h
   rcases Nat.mul_eq_zero.1 (hc.symm.trans h) with h | h
   ·omega
   ·exact h
  ·intro h; rw [hc, h, Nat.mul_zero]
 refine ⟨?_, ?_, hdn⟩
 ·have e : ng (mkRat (sgn s t) b) = decide (sgn s c < 0) := by unfold ng; simp only [hn]
  rw [e]
  cases s with
  | false => rw [sgn_f]; simp
  | true =>
   rw [sgn_t, Bool.true_and]
   by_cases h0 : c = 0
   ·simp [h0, ht.2 h0]
   ·have : t ≠ 0 := fun h => h0 (ht.1 h)
    simp [this]; omega
 ·unfold tp
  rw [hn, hq, sgn_abs]
end Go.V
namespace Go.V
section
variable {B : Nat}
theorem getD_lt {l : List Nat} (h : ∀ x, x ∈ l → x < B) (hB : 0 < B) (k : Nat) : l.getD k 0 < B := by
 rw [List.getD_eq_getElem?_getD]
 by_cases hk : k < l.length
 ·rw [List.getElem?_eq_getElem hk]; exact h _ (by simp)
 ·rw [List.getElem?_eq_none (by omega)]; exact hB
theorem vl_take_getD (l : List Nat) (k : Nat) : vl B (l.take (k + 1)) = vl B (l.take k) + B ^ k * l.getD k 0 := by
 by_cases hk : k < l.length
 ·rw [vl_take_succ hk, List.getD_eq_getElem?_getD, List.getElem?_eq_getElem hk]; rfl
 ·rw [List.take_of_length_le (by omega), List.take_of_length_le (by omega), List.getD_eq_getElem?_getD, List.getElem?_eq_none (by omega)]; simp
theorem split_digit {P x : Nat} : P * x = P * (x % B) + P * B * (x / B) := by
 conv => lhs; rw [← Nat.mod_add_div x B, Nat.mul_add, ← Nat.mul_assoc]
theorem add_step {a b r : List Nat} {c : Nat} (h : vl B r + B ^ r.length * c = vl B (a.take r.length) + vl B (b.take r.length)) :
  vl B (r ++ [(c + a.getD r.length 0 + b.getD r.length 0) % B]) + B ^ (r.length + 1) * ((c + a.getD r.length 0 + b.getD r.length 0) / B) = vl B (a.take (r.length + 1)) + vl B (b.take (r.length + 1)) := by
 rw [vl_snoc, vl_take_getD, vl_take_getD, Nat.pow_succ]
 have := split_digit (B := B) (P := B ^ r.length) (x := c + a.getD r.length 0 + b.getD r.length 0)
 rw [Nat.mul_add, Nat.mul_add] at this
 omega
theorem mul_step {O b : List Nat} {i k x c M : Nat} (hk : i + k < O.length) (h : vl B O + B ^ (i + k) * c = M + B ^ i * (x * vl B (b.take k))) :
  vl B (O.set (i + k) ((c + (x * b.getD k 0 + O[i + k])) % B)) + B ^ (i + (k + 1)) * ((c + (x * b.getD k 0 + O[i + k])) / B) = M + B ^ i * (x * vl B (b.take (k + 1))) := by
 have h1 := vl_set (B := B) (d := (c + (x * b.getD k 0 + O[i + k])) % B) hk
 have h2 := split_digit (B := B) (P := B ^ (i + k)) (x := c + (x * b.getD k 0 + O[i + k]))
 rw [vl_take_getD, ← Nat.add_assoc i k 1, Nat.pow_succ]
 have h3 : B ^ i * (x * (vl B (b.take k) + B ^ k * b.getD k 0)) = B ^ i * (x * vl B (b.take k)) + B ^ (i + k) * (x * b.getD k 0) := by
  rw [Nat.pow_add]; grind
 rw [h3]
 rw [Nat.mul_add, Nat.mul_add] at h2
 omega
theorem mul_bound {x y o c : Nat} (hx : x < B) (hy : y < B) (ho : o < B) (hc : c < B) : c + (x * y + o) < B * B ∧ (c + (x * y + o)) / B < B := by
 have h1 : c + (x * y + o) < B * B := by
  have h2 : x * y ≤ (B - 1) * (B - 1) := Nat.mul_le_mul (by omega) (by omega)
  obtain ⟨n, rfl⟩ : ∃ n, B = n + 1 := ⟨B - 1, by omega⟩
  simp only [Nat.add_sub_cancel] at h2
  have : (n + 1) * (n + 1) = n * n + 2 * n + 1 := by grind
  omega
 exact ⟨h1, Nat.div_lt_of_lt_mul h1⟩
theorem mul_last {O : List Nat} {i n c M : Nat} (hk : i + n < O.length) (h0 : O[i + n] = 0) (h : vl B O + B ^ (i + n) * c = M) : vl B (O.set (i + n) c) = M := by
 have h1 := vl_set (B := B) (d := c) hk
 rw [h0] at h1
 omega
end
end Go.V
namespace Go.V
open Go.Proofs
set_option maxRecDepth 10000
abbrev B32 : Nat := 4294967296
abbrev B9 : Nat := 1000000000
theorem wrap_u8 {z : Int} : IntKind.u8.wrap z = z % 256 := by
 simp only [IntKind.wrap, IntKind.signed, IntKind.bits]; simp
theorem Wr.is {z y : Int} {k : IntKind} {K : Int → Prop} (h : k.wrap z = y) (hk : K y) : Wr z k K := ⟨by rw [h]; exact hk⟩
theorem Sub.full {rows : List (List C)} {n : Nat} {K : List (List C) → Prop} (h : rows.length = n) (hk : K rows) : Sub rows 0 n K :=
 ⟨rows, by rw [List.drop_zero, List.take_of_length_le (by omega)], by omega, hk⟩
theorem Sub.lo {rows : List (List C)} {lo n : Nat} {K : List (List C) → Prop} (h : lo + n ≤ rows.length) (hk : K ((rows.drop lo).take n)) : Sub rows lo n K := ⟨_, rfl, h, hk⟩
theorem Wr.i64 {z y : Int} {K : Int → Prop} (h : z = y) (h1 : -9223372036854775808 ≤ y) (h2 : y ≤ 9223372036854775807) (hk : K y) : Wr z .i64 K := .is (by rw [h, wrap_i64 h1 h2]) hk
end Go.V
namespace Go.V
open Lib (decDigits)
def pd : Nat → Nat → List UInt8
 | 0, _ => []
 | k + 1, r => pd k (r / 10) ++ [UInt8.ofNat (48 + r % 10)]
theorem dec_one {u : Nat} (h : u < 10) : decDigits u = [UInt8.ofNat (48 + u)] := by rw [decDigits, dif_pos h]
theorem dec_more {u : Nat} (h : ¬ u < 10) : decDigits u = decDigits (u / 10) ++ [UInt8.ofNat (48 + u % 10)] := by rw [decDigits, dif_neg h]
theorem pd_zero : ∀ k, pd k 0 = List.replicate k 48
 | 0 => rfl
 | k + 1 => by
  rw [pd, show 0 / 10 = 0 from rfl, pd_zero k, List.replicate_succ']
  rfl
theorem pd_dec : ∀ {k r : Nat}, r < 10 ^ (k + 1) → pd (k + 1) r = List.replicate (k + 1 - (decDigits r).length) 48 ++ decDigits r ∧ (decDigits r).length ≤ k + 1
 | 0, r, h => by
  have : r < 10 := by simpa using h
  rw [dec_one this]
  simp [pd, Nat.mod_eq_of_lt this]
 | k + 1, r, h => by
  by_cases h1 : r < 10
  ·rw [dec_one h1, pd, show r / 10 = 0 by omega, pd_zero, Nat.mod_eq_of_lt h1]
   simp
  ·obtain ⟨h2, h3⟩ := pd_dec (k := k) (r := r / 10) (by rw [Nat.pow_succ] at h; omega)
   rw [dec_more h1, pd, h2]
   simp only [List.length_append, List.length_singleton, List.append_assoc]
   refine ⟨?_, by omega⟩
   rw [show k + 1 - (decDigits (r / 10)).length = k + 1 + 1 - ((decDigits (r / 10)).length + 1) by omega]
end Go.V
namespace Go.V
open Go.Proofs
set_option maxRecDepth 10000
def cB (l : List UInt8) : List (List C) := l.map fun b => [.s (.int .u8 b.toNat)]
theorem dec_len {u : Nat} (h : u ≤ 9223372036854775808) : (Lib.decDigits u).length ≤ 19 := (pd_dec (k := 18) (by omega)).2
def DecI (n : Int) (s : Int × List UInt8) : Prop := s.1.natAbs ≤ n.natAbs ∧ (s.2 = [] → s.1 = n) ∧ (s.2 ≠ [] → Lib.decDigits n.natAbs = (if s.1 = 0 then [] else Lib.decDigits s.1.natAbs) ++ s.2)
theorem DecI.len {n : Int} {s : Int × List UInt8} (h : DecI n s) (hn : n.natAbs ≤ 9223372036854775808) : s.2.length ≤ 19 := by
 by_cases h0 : s.2 = []
 ·rw [h0]; simp
 ·have := h.2.2 h0
  have h1 := dec_len hn
  rw [this, List.length_append] at h1
  omega
theorem DecI.step {n : Int} {s : Int × List UInt8} (h : DecI n s) (hc : s.2 = [] ∨ s.1 ≠ 0) : DecI n (s.1.tdiv 10, UInt8.ofNat (48 + s.1.natAbs % 10) :: s.2) := by
 obtain ⟨r, out⟩ := s
 simp only at hc ⊢
 have hd : (r.tdiv 10).natAbs = r.natAbs / 10 := by rw [Int.natAbs_tdiv]; rfl
 have hz : r.tdiv 10 = 0 ↔ r.natAbs < 10 := by omega
 obtain ⟨h1, h2, h3⟩ := h
 simp only at h1 h2 h3
 refine ⟨by simp only [hd]; omega, by simp, fun _ => ?_⟩
 simp only [hd]
 have key : Lib.decDigits r.natAbs = (if r.tdiv 10 = 0 then [] else Lib.decDigits (r.natAbs / 10)) ++ [UInt8.ofNat (48 + r.natAbs % 10)] := by
  by_cases hs : r.natAbs < 10
  ·rw [dec_one hs, if_pos (hz.2 hs), Nat.mod_eq_of_lt hs]; rfl
  ·rw [dec_more hs, if_neg (fun e => hs (hz.1 e))]
 by_cases h0 : out = []
 ·rw [← h2 h0, key, h0]
 ·have hr : r ≠ 0 := hc.resolve_left h0
  rw [h3 h0, if_neg hr, key, List.append_assoc]; rfl
end Go.V
namespace Go.V
open Go.Proofs
set_option maxRecDepth 10000
def TrimI (B : Nat) (l : List Nat) (k : Nat) : Prop := k ≤ l.length ∧ vl B (l.take k) = vl B l
theorem TrimI.done {B : Nat} (hB : 2 ≤ B) {l : List Nat} (hl : ∀ x, x ∈ l → x < B) {k : Nat} (h : TrimI B l k) (h0 : ∀ j (hj : j < l.length), k = j + 1 → l[j] ≠ 0) : dg B (vl B l) = l.take k := by
 rw [← h.2]; exact dg_vl hB (Cn.of_take hl h.1 h0)
end Go.V
namespace Go.V
open Go.Proofs
set_option maxRecDepth 10000
end Go.V
namespace Go.V
open Go.Proofs
set_option maxRecDepth 10000
theorem snoc_lt {B d : Nat} {r : List Nat} (h : ∀ x, x ∈ r → x < B) (hd : d < B) : ∀ x, x ∈ r ++ [d] → x < B := fun x hx => by
 rcases List.mem_append.1 hx with hx | hx
 ·exact h x hx
 ·simp only [List.mem_singleton] at hx; subst hx; exact hd
theorem getD_set_ne {l : List Nat} {i j d : Nat} (h : i ≠ j) : (l.set i d).getD j 0 = l.getD j 0 := by
 simp only [List.getD_eq_getElem?_getD, List.getElem?_set_ne h]
theorem set_lt {l : List Nat} {i d B : Nat} (h : ∀ x, x ∈ l → x < B) (hd : d < B) : ∀ x, x ∈ l.set i d → x < B := fun x hx => by
 rcases List.mem_or_eq_of_mem_set hx with hx | hx
 ·exact h x hx
 ·subst hx; exact hd
theorem getD_get {l : List Nat} {i : Nat} (h : i < l.length) : l.getD i 0 = l[i] := by rw [List.getD_eq_getElem?_getD, List.getElem?_eq_getElem h]; rfl
def MulI (a b : List Nat) (s : List Nat × Nat) : Prop := s.1.length = a.length + b.length ∧ (∀ x, x ∈ s.1 → x < B32) ∧ s.2 ≤ a.length ∧ vl B32 s.1 = vl B32 (a.take s.2) * vl B32 b ∧ ∀ j, s.2 + b.length ≤ j → s.1.getD j 0 = 0
def MulJ (a b : List Nat) (i : Nat) (s : List Nat × Nat × Nat) : Prop := s.1.length = a.length + b.length ∧ (∀ x, x ∈ s.1 → x < B32) ∧ s.2.1 ≤ b.length ∧ s.2.2 < B32 ∧
 vl B32 s.1 + B32 ^ (i + s.2.1) * s.2.2 = vl B32 (a.take i) * vl B32 b + B32 ^ i * (a.getD i 0 * vl B32 (b.take s.2.1)) ∧ ∀ j, i + b.length ≤ j → s.1.getD j 0 = 0
theorem MulJ.step {a b : List Nat} {i : Nat} {s : List Nat × Nat × Nat} (h : MulJ a b i s) (ha : ∀ x, x ∈ a → x < B32) (hb : ∀ x, x ∈ b → x < B32) (hi : i < a.length) (hk : s.2.1 < b.length) :
  let t := s.2.2 + (a.getD i 0 * b.getD s.2.1 0 + s.1.getD (i + s.2.1) 0)
  t < B32 * B32 ∧ MulJ a b i (s.1.set (i + s.2.1) (t % B32), s.2.1 + 1, t / B32) := by
 obtain ⟨h1, h2, h3, h4, h5, h6⟩ := h
 have hlt : i + s.2.1 < s.1.length := by omega
 have hbd := mul_bound (getD_lt ha (by decide) i) (getD_lt hb (by decide) s.2.1) (getD_lt h2 (by decide) (i + s.2.1)) h4
 refine ⟨hbd.1, by rw [List.length_set]; exact h1, set_lt h2 (Nat.mod_lt _ (by decide)), hk, hbd.2, ?_, fun j hj => ?_⟩
 ·have := mul_step hlt h5
  rw [← getD_get hlt] at this
  exact this
 ·show (s.1.set _ _).getD j 0 = 0
  rw [getD_set_ne (by omega)]; exact h6 j hj
theorem MulJ.last {a b : List Nat} {i c : Nat} {O : List Nat} (h : MulJ a b i (O, b.length, c)) (hi : i < a.length) : MulI a b (O.set (i + b.length) c, i + 1) := by
 obtain ⟨h1, h2, h3, h4, h5, h6⟩ := h
 simp only at h1 h2 h4 h5 h6
 have hlt : i + b.length < O.length := by omega
 refine ⟨by rw [List.length_set]; exact h1, set_lt h2 h4, hi, ?_, fun j hj => ?_⟩
 ·show vl B32 (O.set _ _) = _
  rw [mul_last hlt (by rw [← getD_get hlt]; exact h6 _ (Nat.le_refl _)) h5, vl_take_getD, List.take_length, Nat.add_mul, Nat.mul_assoc]
 ·show (O.set _ _).getD j 0 = 0
  rw [getD_set_ne (by simp only at hj; omega)]; exact h6 j (by simp only at hj; omega)
end Go.V
namespace Go.V
open Go.Proofs
set_option maxRecDepth 10000
end Go.V
namespace Go.V
open Go.Proofs
set_option maxRecDepth 10000
end Go.V
namespace Go.V
open Go.Proofs
set_option maxRecDepth 10000
def pad (B m n : Nat) : List Nat := dg B n ++ List.replicate (m - (dg B n).length) 0
theorem vl_pad {B : Nat} (hB : 2 ≤ B) (m n : Nat) : vl B (pad B m n) = n := by rw [pad, vl_append, vl_dg hB, vl_zeros]; simp
theorem pad_lt {B : Nat} (hB : 2 ≤ B) (m n : Nat) : ∀ x, x ∈ pad B m n → x < B := fun x hx => by
 rcases List.mem_append.1 hx with hx | hx
 ·exact dg_lt hB hx
 ·rw [(List.mem_replicate.1 hx).2]; omega
theorem pad_len {B : Nat} (hB : 2 ≤ B) {m n : Nat} (h : n < B ^ m) : (pad B m n).length = m := by
 have := dg_len_le hB h
 rw [pad, List.length_append, List.length_replicate]; omega
theorem or_add {h y k : Nat} (hk : k ≤ 32) (hh : h < 2 ^ k) (hy : y < 4294967296) : h ||| (y * 2 ^ k) % 4294967296 = (y * 2 ^ k) % 4294967296 + h ∧ (y * 2 ^ k) % 4294967296 + h < 4294967296 := by
 have e : (4294967296 : Nat) = 2 ^ (32 - k) * 2 ^ k := by rw [← Nat.pow_add, show 32 - k + k = 32 by omega]
 have hm : (y * 2 ^ k) % 4294967296 = (y % 2 ^ (32 - k)) * 2 ^ k := by
  rw [e, Nat.mul_mod_mul_right]
 rw [hm]
 have hlt : y % 2 ^ (32 - k) < 2 ^ (32 - k) := Nat.mod_lt _ (Nat.pow_pos (by decide))
 constructor
 ·have := Nat.shiftLeft_add_eq_or_of_lt hh (y % 2 ^ (32 - k))
  rw [Nat.shiftLeft_eq] at this
  rw [this, Nat.or_comm]
 ·have := Nat.mul_le_mul_right (2 ^ k) (Nat.succ_le_of_lt hlt)
  rw [Nat.succ_mul, ← e] at this
  omega
def ShI (a : List Nat) (k : Nat) (s : List Nat × Nat) : Prop := s.1.length ≤ a.length ∧ (∀ x, x ∈ s.1 → x < B32) ∧ s.2 < 2 ^ k ∧ vl B32 s.1 + B32 ^ s.1.length * s.2 = vl B32 (a.take s.1.length) * 2 ^ k
theorem ShI.step {a : List Nat} {k : Nat} {s : List Nat × Nat} (h : ShI a k s) (hk : k ≤ 32) (ha : ∀ x, x ∈ a → x < B32) (hi : s.1.length < a.length) :
  ShI a k (s.1 ++ [(a.getD s.1.length 0 * 2 ^ k) % B32 + s.2], (a.getD s.1.length 0 * 2 ^ k) / B32) := by
 obtain ⟨h1, h2, h3, h4⟩ := h
 have hx : a.getD s.1.length 0 < B32 := getD_lt ha (by decide) _
 refine ⟨by simp; omega, snoc_lt h2 (or_add hk h3 hx).2, Nat.div_lt_of_lt_mul ((Nat.mul_lt_mul_right (Nat.pow_pos (by decide))).2 hx), ?_⟩
 rw [List.length_append]
 show vl B32 (s.1 ++ [_]) + B32 ^ (s.1.length + 1) * (a.getD s.1.length 0 * 2 ^ k / B32) = vl B32 (a.take (s.1.length + 1)) * 2 ^ k
 have hs := split_digit (B := B32) (P := B32 ^ s.1.length) (x := a.getD s.1.length 0 * 2 ^ k)
 rw [vl_snoc, vl_take_getD, Nat.add_mul, ← h4, Nat.mul_assoc, hs, Nat.mul_add, Nat.pow_succ]
 omega
end Go.V
namespace Go.V
open Go.Proofs
set_option maxRecDepth 10000
def win (R : List Nat) (lo : Nat) (r : List Nat) : List Nat := R.take lo ++ (r ++ R.drop (lo + r.length))
theorem win_lt {R : List Nat} {lo B : Nat} {r : List Nat} (hR : ∀ x, x ∈ R → x < B) (hr : ∀ x, x ∈ r → x < B) : ∀ x, x ∈ win R lo r → x < B := fun x hx => by
 simp only [win, List.mem_append] at hx
 rcases hx with hx | hx | hx
 ·exact hR x (List.mem_of_mem_take hx)
 ·exact hr x hx
 ·exact hR x (List.mem_of_mem_drop hx)
theorem part_getD {R : List Nat} {lo m i : Nat} (hi : i < m) : ((R.drop lo).take m).getD i 0 = R.getD (lo + i) 0 := by
 simp only [List.getD_eq_getElem?_getD, List.getElem?_take, List.getElem?_drop, if_pos hi]
end Go.V
namespace Go.V
section
variable {B : Nat}
theorem two_digits {u : List Nat} {n : Nat} (h : u.length = n + 2) : vl B u = (u.getD (n + 1) 0 * B + u.getD n 0) * B ^ n + vl B (u.take n) := by
 have h1 := vl_take_getD (B := B) u (n + 1)
 have h2 := vl_take_getD (B := B) u n
 rw [List.take_of_length_le (by omega)] at h1
 have e1 : B ^ (n + 1) = B ^ n * B := Nat.pow_succ ..
 rw [h1, h2, e1]
 clear h1 h2 e1
 generalize B ^ n = p
 generalize u.getD (n + 1) 0 = x
 generalize u.getD n 0 = y
 grind
theorem three_digits {u : List Nat} {n : Nat} (h : u.length = n + 3) : vl B u = ((u.getD (n + 2) 0 * B + u.getD (n + 1) 0) * B + u.getD n 0) * B ^ n + vl B (u.take n) := by
 have h0 := vl_take_getD (B := B) u (n + 2)
 have h1 := vl_take_getD (B := B) u (n + 1)
 have h2 := vl_take_getD (B := B) u n
 rw [List.take_of_length_le (by omega)] at h0
 have e1 : B ^ (n + 1) = B ^ n * B := Nat.pow_succ ..
 have e2 : B ^ (n + 2) = B ^ n * B * B := by rw [Nat.pow_succ, Nat.pow_succ]
 rw [h0, h1, h2, e1, e2]
 clear h0 h1 h2 e1 e2
 generalize B ^ n = p
 generalize u.getD (n + 2) 0 = z
 generalize u.getD (n + 1) 0 = x
 generalize u.getD n 0 = y
 grind
theorem top_le {V x y n t : Nat} (hV : V = t * B ^ n + y) (hy : y < B ^ n) (h : x * B ^ n < V) : x ≤ t := by
 apply Nat.le_of_not_lt
 intro hlt
 have h1 := Nat.mul_le_mul_right (B ^ n) (Nat.succ_le_of_lt hlt)
 rw [Nat.succ_mul] at h1
 omega
end
end Go.V
namespace Go.V
structure Dig (B m top next low head r ul U V : Nat) : Prop where
 hn : next < B
 hr : r < B
 hu : ul < m
 hl : low < m
 ht : 0 < top
 hh : head < top * B + B
 eU : U = (head * B + r) * m + ul
 eV : V = (top * B + next) * m + low
 lt : U < B * V
section
variable {B m top next low head r ul U V : Nat}
def GI (top head U V : Nat) (s : Nat × Nat) : Prop := s.1 * top + s.2 = head ∧ U < (s.1 + 1) * V
theorem Dig.step (h : Dig B m top next low head r ul U V) {s : Nat × Nat} (hs : GI top head U V s) (hc : B ≤ s.1 ∨ s.2 * B + r < s.1 * next) : 1 ≤ s.1 ∧ GI top head U V (s.1 - 1, s.2 + top) := by
 have hB : 0 < B := by have := h.hn; omega
 have h1 : 1 ≤ s.1 := by
  rcases hc with hc | hc
  ·omega
  ·apply Nat.pos_of_ne_zero; intro e; rw [e] at hc; simp at hc
 have h2 := guess_hi (vl := low) h.hu hs.1 (by rw [← h.eU, ← h.eV]; exact h.lt) hc
 rw [← h.eU, ← h.eV] at h2
 refine ⟨h1, ?_, ?_⟩
 ·show (s.1 - 1) * top + (s.2 + top) = head
  obtain ⟨g, hg⟩ : ∃ g, s.1 = g + 1 := ⟨s.1 - 1, by omega⟩
  have h3 := hs.1
  rw [hg, Nat.succ_mul] at h3
  rw [hg, Nat.add_sub_cancel]; omega
 ·show U < (s.1 - 1 + 1) * V
  rw [show s.1 - 1 + 1 = s.1 by omega]; exact h2
theorem Dig.of {W u : List Nat} {n : Nat} (hW : W.length = n + 3) (hu : u.length = n + 2) (hWl : ∀ x, x ∈ W → x < B) (hul : ∀ x, x ∈ u → x < B) (hB : 2 ≤ B) (ht : u.getD (n + 1) 0 ≠ 0)
  (hlt : vl B (W.drop 1) < vl B u) : Dig B (B ^ n) (u.getD (n + 1) 0) (u.getD n 0) (vl B (u.take n)) (W.getD (n + 2) 0 * B + W.getD (n + 1) 0) (W.getD n 0) (vl B (W.take n)) (vl B W) (vl B u) := by
 have g : ∀ {l : List Nat}, (∀ x, x ∈ l → x < B) → ∀ k, l.getD k 0 < B := fun {l} h k => by
  rw [List.getD_eq_getElem?_getD]
  by_cases hk : k < l.length
  ·rw [List.getElem?_eq_getElem hk]; exact h _ (by simp)
  ·rw [List.getElem?_eq_none (by omega)]; show 0 < B; omega
 have tk : ∀ {l : List Nat}, (∀ x, x ∈ l → x < B) → n ≤ l.length → vl B (l.take n) < B ^ n := fun {l} h hn => by
  have := vl_lt (B := B) (l := l.take n) fun x hx => h x (List.mem_of_mem_take hx)
  rwa [List.length_take, Nat.min_eq_left hn] at this
 have e2 := two_digits (B := B) hu
 have e3 := three_digits (B := B) hW
 have hx : W.getD (n + 2) 0 ≤ u.getD (n + 1) 0 := by
  have h1 := vl_take_getD (B := B) u (n + 1)
  rw [List.take_of_length_le (by omega)] at h1
  have h2 := vl_take_getD (B := B) (W.drop 1) (n + 1)
  rw [List.take_of_length_le (by rw [List.length_drop]; omega)] at h2
  have h3 : (W.drop 1).getD (n + 1) 0 = W.getD (n + 2) 0 := by
   simp only [List.getD_eq_getElem?_getD, List.getElem?_drop]
   rw [show 1 + (n + 1) = n + 2 by omega]
  rw [h3] at h2
  have h4 := vl_lt (B := B) (l := u.take (n + 1)) fun x hx => hul x (List.mem_of_mem_take hx)
  rw [List.length_take, Nat.min_eq_left (by omega)] at h4
  refine top_le (B := B) (n := n + 1) (V := vl B u) (by rw [Nat.mul_comm]; omega) h4 ?_
  rw [Nat.mul_comm]; omega
 refine ⟨g hul n, g hWl n, tk hWl (by omega), tk hul (by omega), Nat.pos_of_ne_zero ht, ?_, e3, e2, ?_⟩
 ·have h1 := Nat.mul_le_mul_right B hx
  have h2 := g hWl (n + 1)
  omega
 ·have h1 := vl_drop (B := B) (l := W) (k := 0) (by omega)
  rw [List.drop_zero] at h1
  have h2 := hWl W[0] (by simp)
  have h3 := Nat.mul_le_mul_left B (Nat.succ_le_of_lt hlt)
  rw [Nat.mul_succ] at h3
  rw [h1]; simp only [Nat.zero_add]; omega
end
end Go.V
namespace Go.V
open Go.Proofs
set_option maxRecDepth 10000
def DivI (B A V N n : Nat) (s : Nat × List Nat × List Nat) : Prop := s.2.1.length = N ∧ (∀ x, x ∈ s.2.1 → x < B) ∧ s.1 + s.2.2.length + n = N ∧ (∀ x, x ∈ s.2.2 → x < B) ∧ vl B (s.2.1.drop s.1) < V ∧ vl B s.2.1 + V * (B ^ s.1 * vl B s.2.2) = A
structure Up (B b s n : Nat) (u : List Nat) : Prop where
 len : u.length = n + 2
 top : u.getD (n + 1) 0 ≠ 0
 lt : ∀ x, x ∈ u → x < B
 eq : vl B u = b * s
 dgs : dg B (b * s) = u
theorem Up.of {B : Nat} (hB : 2 ≤ B) {b t s : Nat} (hn : 2 ≤ (dg B b).length) (hs : 0 < s) (ht : t ≠ 0) (hts : (t + 1) * s ≤ B) (hlo : B ^ ((dg B b).length - 1) * t ≤ b) (hhi : b < B ^ ((dg B b).length - 1) * (t + 1)) :
  Up B b s ((dg B b).length - 2) (dg B (b * s)) := by
 generalize (dg B b).length = n at *
 have hpw : B ^ n = B ^ (n - 1) * B := by rw [← Nat.pow_succ, show (n - 1).succ = n by omega]
 have hup1 : b * s < B ^ n := by
  have h4 := (Nat.mul_lt_mul_right hs).2 hhi
  rw [Nat.mul_assoc] at h4
  have h5 := Nat.mul_le_mul_left (B ^ (n - 1)) hts
  omega
 have hlo1 : B ^ (n - 1) ≤ b * s := by
  have h3 : B ^ (n - 1) * 1 ≤ B ^ (n - 1) * t := Nat.mul_le_mul_left _ (by omega)
  have h4 := Nat.mul_le_mul_left b hs
  rw [Nat.mul_one] at h4
  omega
 have hlen : (dg B (b * s)).length = n := by
  apply Nat.le_antisymm (dg_len_le hB hup1)
  apply Nat.le_of_not_lt
  intro hlt
  have h3 := lt_of_len hB (b * s)
  have h4 := Nat.pow_le_pow_right (by omega : 0 < B) (by omega : (dg B (b * s)).length ≤ n - 1)
  omega
 have hc2 := cn_dg hB (b * s)
 refine ⟨by omega, fun e => ?_, hc2.1, vl_dg hB _, rfl⟩
 apply hc2.2
 rw [List.getLast?_eq_getElem?, hlen]
 rw [show n - 2 + 1 = n - 1 by omega, List.getD_eq_getElem?_getD] at e
 rw [List.getElem?_eq_getElem (by omega)] at e ⊢
 exact congrArg some e
theorem DivI.dig {B : Nat} (hB : 2 ≤ B) {A b k n N : Nat} {u : List Nat} {s : Nat × List Nat × List Nat} (hu : Up B b k n u) (h : DivI B A (vl B u) N (n + 2) s) (h0 : 0 < s.1) :
  Dig B (B ^ n) (u.getD (n + 1) 0) (u.getD n 0) (vl B (u.take n)) (s.2.1.getD (s.1 - 1 + (n + 2)) 0 * B + s.2.1.getD (s.1 - 1 + (n + 1)) 0) (s.2.1.getD (s.1 - 1 + n) 0)
   (vl B (((s.2.1.drop (s.1 - 1)).take (n + 3)).take n)) (vl B ((s.2.1.drop (s.1 - 1)).take (n + 3))) (vl B u) := by
 obtain ⟨g1, g2, g3, g4, g5, g6⟩ := h
 have hW : ((s.2.1.drop (s.1 - 1)).take (n + 3)).length = n + 3 := by rw [List.length_take, List.length_drop]; omega
 have := Dig.of (B := B) (W := (s.2.1.drop (s.1 - 1)).take (n + 3)) (u := u) hW hu.len (fun x hx => g2 x (List.mem_of_mem_drop (List.mem_of_mem_take hx))) hu.lt hB hu.top (by
  rw [List.drop_take, List.drop_drop, show s.1 - 1 + 1 = s.1 by omega, show n + 3 - 1 = n + 2 by omega]
  have := vl_split (B := B) (s.2.1.drop s.1) (n + 2) (by rw [List.length_drop]; omega)
  omega)
 rw [part_getD (by omega), part_getD (by omega), part_getD (by omega)] at this
 exact this
theorem DivI.step {B : Nat} (hB : 2 ≤ B) {A V N n j : Nat} {R Q : List Nat} (h : DivI B A V N (n + 2) (j + 1, R, Q)) (hV : V < B ^ (n + 2)) :
  DivI B A V N (n + 2) (j, win R j (pad B (n + 3) (vl B ((R.drop j).take (n + 3)) % V)), vl B ((R.drop j).take (n + 3)) / V :: Q) := by
 obtain ⟨g1, g2, g3, g4, g5, g6⟩ := h
 simp only at g1 g2 g3 g4 g5 g6
 obtain ⟨d1, d2, d3⟩ := div_step (B := B) hB (R := R) (i := j) (n := n + 2) (V := V) (by omega) g2 hV g5
 have hV0 : 0 < V := by omega
 have hmod : vl B ((R.drop j).take (n + 3)) % V < B ^ (n + 3) := Nat.lt_trans (Nat.mod_lt _ hV0) (Nat.lt_of_lt_of_le hV (Nat.pow_le_pow_right (by omega) (by omega)))
 have hpl := pad_len hB hmod
 obtain ⟨e1, e2, e3⟩ := d3 (pad B (n + 3) (vl B ((R.drop j).take (n + 3)) % V)) hpl (vl_pad hB _ _)
 have ew : R.take j ++ (pad B (n + 3) (vl B ((R.drop j).take (n + 3)) % V) ++ R.drop (j + (n + 2) + 1)) = win R j (pad B (n + 3) (vl B ((R.drop j).take (n + 3)) % V)) := by
  unfold win; rw [hpl]; rfl
 rw [ew] at e1 e2 e3
 refine ⟨e1.trans g1, win_lt g2 (pad_lt hB _ _), by simp only [List.length_cons]; omega, fun x hx => ?_, e2, ?_⟩
 ·rcases List.mem_cons.1 hx with rfl | hx
  ·exact Nat.div_lt_of_lt_mul (by rw [Nat.mul_comm]; exact d1)
  ·exact g4 x hx
 ·simp only [vl]
  rw [← g6, ← e3, Nat.pow_succ]
  generalize vl B ((R.drop j).take (n + 3)) / V = d
  generalize vl B Q = q
  generalize B ^ j = p
  have : V * (p * (d + B * q)) = V * (p * d) + V * (p * B * q) := by grind
  omega
end Go.V
namespace Go.V
open Go.Proofs
set_option maxRecDepth 10000
set_option maxHeartbeats 4000000
def ShrI (B : Nat) (D : List Nat) (X s : Nat) (w : List Nat) : Prop := w.length ≤ D.length ∧ (∀ x, x ∈ w → x < B) ∧ X / s = vl B w + B ^ w.length * (vl B (D.drop w.length) / s)
theorem ShrI.step {B : Nat} {D w : List Nat} {X s c : Nat} (hc : B = s * c) (hs : 0 < s) (hB : 0 < B) (hD : ∀ x, x ∈ D → x < B) (h : ShrI B D X s w) (hi : w.length < D.length) :
  ShrI B D X s (w ++ [(D.getD (w.length + 1) 0 * B + D.getD w.length 0) / s % B]) := by
 obtain ⟨h1, h2, h3⟩ := h
 have hx : D.getD w.length 0 = D[w.length] := by rw [List.getD_eq_getElem?_getD, List.getElem?_eq_getElem hi]; rfl
 have hxB := getD_lt hD hB w.length
 have h4 := vl_drop (B := B) hi
 rw [← hx] at h4
 have h5 : vl B (D.drop (w.length + 1)) % B = D.getD (w.length + 1) 0 % B := by
  by_cases hn : w.length + 1 < D.length
  ·rw [vl_drop hn, Nat.add_mul_mod_self_left, List.getD_eq_getElem?_getD, List.getElem?_eq_getElem hn]; rfl
  ·rw [List.drop_of_length_le (by omega), List.getD_eq_getElem?_getD, List.getElem?_eq_none (by omega)]; rfl
 obtain ⟨e1, e2⟩ := shift_step (w := vl B (D.drop (w.length + 1))) hc hs hxB
 have e3 := shift_same (r := D.getD w.length 0) hc hs hxB h5
 rw [Nat.mul_comm B (D.getD (w.length + 1) 0), Nat.add_comm (D.getD w.length 0) (D.getD (w.length + 1) 0 * B)] at e3
 refine ⟨by simp only [List.length_append, List.length_singleton]; omega, fun x hx => ?_, ?_⟩
 ·rcases List.mem_append.1 hx with hx | hx
  ·exact h2 x hx
  ·rw [List.mem_singleton] at hx; rw [hx]; exact Nat.mod_lt _ hB
 ·rw [vl_snoc, List.length_append, List.length_singleton, Nat.pow_succ, h3, h4, e2, e3, Nat.mul_add]
  have : B ^ w.length * (B * (vl B (D.drop (w.length + 1)) / s)) = B ^ w.length * B * (vl B (D.drop (w.length + 1)) / s) := (Nat.mul_assoc ..).symm
  omega
theorem ShrI.done {B : Nat} {D w : List Nat} {X s : Nat} (h : ShrI B D X s w) (hl : w.length = D.length) : vl B w = X / s := by
 have := h.2.2
 rw [hl, List.drop_length] at this
 simp [vl] at this; exact this.symm
end Go.V
namespace Go.V
open Go.Proofs
set_option maxRecDepth 10000
end Go.V
namespace Go.V
def sz (q : Rat) : Nat := max (bl (tp q)) (bl q.den)
theorem bl_den (q : Rat) : bl q.den ≤ sz q := Nat.le_max_right _ _
theorem sz_mkRat {s : Bool} {t b : Nat} (hb : b ≠ 0) : sz (mkRat (sgn s t) b) ≤ max (bl t) (bl b) := by
 obtain ⟨_, h2, h3⟩ := mkRat_parts (s := s) (t := t) hb
 unfold sz
 rw [h2, h3]
 have h4 := bl_mono (Nat.div_le_self t (t.gcd b))
 have h5 := bl_mono (Nat.div_le_self b (t.gcd b))
 omega
theorem bl_one : bl 1 = 1 := by decide
end Go.V
namespace Go.V
open Go.Proofs
set_option maxRecDepth 10000
def sgI (q : Rat) : Int := if tp q = 0 then 0 else if ng q then -1 else 1
end Go.V
namespace Go.V
open Go.Proofs
set_option maxRecDepth 10000
end Go.V
namespace Go.V
open Go.Proofs
set_option maxRecDepth 10000
end Go.V
namespace Go.V
open Go.Proofs
set_option maxRecDepth 10000
end Go.V
namespace Go.V
section
variable {B : Nat}
theorem dg_fit (hB : 2 ≤ B) {l : List Nat} {n : Nat} (hl : ∀ x, x ∈ l → x < B) (hv : vl B l = n) (h : l = [] ∨ B ^ (l.length - 1) ≤ n) : dg B n = l := by
 apply dg_of hB ⟨hl, fun e => ?_⟩ hv
 have hne : l ≠ [] := by rintro rfl; simp at e
 have hpos : 0 < l.length := List.length_pos_iff.2 hne
 rw [List.getLast?_eq_getElem?, List.getElem?_eq_getElem (by omega)] at e
 have e0 : l[l.length - 1] = 0 := Option.some.inj e
 have h1 := vl_take_succ (B := B) (l := l) (k := l.length - 1) (by omega)
 rw [e0, show l.length - 1 + 1 = l.length by omega, List.take_length, Nat.mul_zero, Nat.add_zero, hv] at h1
 have h2 := vl_lt (B := B) (l := l.take (l.length - 1)) fun x hx => hl x (List.mem_of_mem_take hx)
 rw [List.length_take, Nat.min_eq_left (by omega)] at h2
 rcases h with h | h
 ·exact hne h
 ·omega
theorem len_lo (hB : 2 ≤ B) {n : Nat} (h : dg B n ≠ []) : B ^ ((dg B n).length - 1) ≤ n := by
 apply Nat.le_of_not_lt
 intro h1
 have h2 := dg_len_le hB h1
 have : 0 < (dg B n).length := List.length_pos_iff.2 h
 omega
theorem snoc_lt' {l : List Nat} {d : Nat} (h : ∀ x, x ∈ l → x < B) (hd : d < B) : ∀ x, x ∈ l ++ [d] → x < B := fun x hx => by
 rcases List.mem_append.1 hx with hx | hx
 ·exact h x hx
 ·rw [List.mem_singleton] at hx; omega
def SumI (B : Nat) (a b : List Nat) (s : List Nat × Nat) : Prop :=
 (∀ x, x ∈ s.1 → x < B) ∧ s.2 ≤ 1 ∧ vl B s.1 + B ^ s.1.length * s.2 = vl B (a.take s.1.length) + vl B (b.take s.1.length) ∧
 (s.1.length ≤ max a.length b.length ∨ s.2 = 0 ∧ s.1.length = max a.length b.length + 1 ∧ B ^ (s.1.length - 1) ≤ vl B a + vl B b)
theorem SumI.step (hB : 2 ≤ B) {a b : List Nat} {s : List Nat × Nat} (ha : ∀ x, x ∈ a → x < B) (hb : ∀ x, x ∈ b → x < B) (h : SumI B a b s) (hc : s.1.length < a.length ∨ s.1.length < b.length ∨ 0 < s.2) :
  s.1.length ≤ max a.length b.length ∧ SumI B a b (s.1 ++ [(s.2 + a.getD s.1.length 0 + b.getD s.1.length 0) % B], (s.2 + a.getD s.1.length 0 + b.getD s.1.length 0) / B) := by
 obtain ⟨h1, h2, h3, h4⟩ := h
 have hle : s.1.length ≤ max a.length b.length := by omega
 have hx := getD_lt ha (by omega) s.1.length
 have hy := getD_lt hb (by omega) s.1.length
 have hst := add_step h3
 refine ⟨hle, snoc_lt' h1 (Nat.mod_lt _ (by omega)), ?_, by rw [List.length_append]; exact hst, ?_⟩
 ·show _ / B ≤ 1
  have : s.2 + a.getD s.1.length 0 + b.getD s.1.length 0 < B * 2 := by omega
  have := Nat.div_lt_of_lt_mul this
  omega
 ·rcases Nat.lt_or_ge s.1.length (max a.length b.length) with hlt | hge
  ·left; simp only [List.length_append, List.length_singleton]; omega
  ·right
   have hxa : a.getD s.1.length 0 = 0 := by rw [List.getD_eq_getElem?_getD, List.getElem?_eq_none (by omega)]; rfl
   have hxb : b.getD s.1.length 0 = 0 := by rw [List.getD_eq_getElem?_getD, List.getElem?_eq_none (by omega)]; rfl
   rw [hxa, hxb]
   have hs2 : s.2 = 1 := by omega
   rw [List.take_of_length_le (by omega), List.take_of_length_le (by omega), hs2, Nat.mul_one] at h3
   refine ⟨?_, by simp only [List.length_append, List.length_singleton]; omega, ?_⟩
   ·show _ / B = 0
    rw [hs2]; exact Nat.div_eq_of_lt (by omega)
   ·show B ^ ((s.1 ++ [_]).length - 1) ≤ _
    rw [List.length_append, List.length_singleton, Nat.add_sub_cancel]; omega
theorem SumI.done (hB : 2 ≤ B) {m n : Nat} {s : List Nat × Nat} (h : SumI B (dg B m) (dg B n) s) (hc : ¬ (s.1.length < (dg B m).length ∨ s.1.length < (dg B n).length ∨ 0 < s.2)) : s.1 = dg B (m + n) := by
 obtain ⟨h1, h2, h3, h4⟩ := h
 have hs0 : s.2 = 0 := by omega
 rw [List.take_of_length_le (by omega), List.take_of_length_le (by omega), hs0, Nat.mul_zero, Nat.add_zero, vl_dg hB, vl_dg hB] at h3
 rw [vl_dg hB, vl_dg hB] at h4
 refine (dg_fit hB h1 h3 ?_).symm
 rcases h4 with h4 | ⟨_, _, h4⟩
 ·by_cases he : s.1 = []
  ·exact .inl he
  right
  have : 0 < s.1.length := List.length_pos_iff.2 he
  rcases Nat.lt_or_ge (dg B m).length s.1.length with hm | hm
  ·have e : s.1.length = (dg B n).length := by omega
   have := len_lo hB (n := n) (by intro e2; rw [e2, List.length_nil] at e; omega)
   rw [e]; omega
  ·have e : s.1.length = (dg B m).length := by omega
   have := len_lo hB (n := m) (by intro e2; rw [e2, List.length_nil] at e; omega)
   rw [e]; omega
 ·exact .inr h4
def NatI (B N : Nat) (s : List Nat × Nat) : Prop := (∀ x, x ∈ s.1 → x < B) ∧ vl B s.1 + B ^ s.1.length * s.2 = N ∧ (s.2 = 0 → s.1 = [] ∨ B ^ (s.1.length - 1) ≤ N)
theorem NatI.step (hB : 2 ≤ B) {N : Nat} {s : List Nat × Nat} (h : NatI B N s) (h0 : 0 < s.2) : NatI B N (s.1 ++ [s.2 % B], s.2 / B) ∧ s.2 / B < s.2 := by
 obtain ⟨h1, h2, h3⟩ := h
 refine ⟨⟨snoc_lt' h1 (Nat.mod_lt _ (by omega)), ?_, fun _ => .inr ?_⟩, Nat.div_lt_self h0 (by omega)⟩
 ·show vl B (s.1 ++ [s.2 % B]) + B ^ (s.1 ++ [s.2 % B]).length * (s.2 / B) = N
  rw [vl_snoc, List.length_append, List.length_singleton, Nat.pow_succ]
  have := split_digit (B := B) (P := B ^ s.1.length) (x := s.2)
  omega
 ·show B ^ ((s.1 ++ [s.2 % B]).length - 1) ≤ N
  rw [List.length_append, List.length_singleton, Nat.add_sub_cancel]
  have := Nat.mul_le_mul_left (B ^ s.1.length) h0
  omega
theorem NatI.done (hB : 2 ≤ B) {N : Nat} {s : List Nat × Nat} (h : NatI B N s) (h0 : s.2 = 0) : s.1 = dg B N := by
 obtain ⟨h1, h2, h3⟩ := h
 rw [h0, Nat.mul_zero, Nat.add_zero] at h2
 exact (dg_fit hB h1 h2 (h3 h0)).symm
def ShmI (B : Nat) (a : List Nat) (d : Nat) (s : List Nat × Nat) : Prop := s.1.length ≤ a.length ∧ (∀ x, x ∈ s.1 → x < B) ∧ s.2 < B ∧ vl B s.1 + B ^ s.1.length * s.2 = d * vl B (a.take s.1.length)
theorem ShmI.step {a : List Nat} {d : Nat} {s : List Nat × Nat} (ha : ∀ x, x ∈ a → x < B) (hd : d < B) (h : ShmI B a d s) (hi : s.1.length < a.length) :
  a.getD s.1.length 0 * d + s.2 < B * B ∧ ShmI B a d (s.1 ++ [(a.getD s.1.length 0 * d + s.2) % B], (a.getD s.1.length 0 * d + s.2) / B) := by
 obtain ⟨h1, h2, h3, h4⟩ := h
 have hx := getD_lt ha (by omega) s.1.length
 have hb := mul_bound hx hd (show 0 < B by omega) h3
 rw [Nat.add_zero, Nat.add_comm] at hb
 refine ⟨hb.1, by simp only [List.length_append, List.length_singleton]; omega, snoc_lt' h2 (Nat.mod_lt _ (by omega)), hb.2, ?_⟩
 show vl B (s.1 ++ [_]) + B ^ (s.1 ++ [_]).length * (_ / B) = d * vl B (a.take (s.1 ++ [_]).length)
 rw [vl_snoc, List.length_append, List.length_singleton, vl_take_getD, Nat.pow_succ]
 have h5 := split_digit (B := B) (P := B ^ s.1.length) (x := a.getD s.1.length 0 * d + s.2)
 rw [Nat.mul_add (B ^ s.1.length)] at h5
 have h6 : d * (vl B (a.take s.1.length) + B ^ s.1.length * a.getD s.1.length 0) = d * vl B (a.take s.1.length) + B ^ s.1.length * (a.getD s.1.length 0 * d) := by grind
 rw [h6]; omega
theorem ShmI.done (hB : 2 ≤ B) {n d : Nat} (hd : 0 < d) {s : List Nat × Nat} (h : ShmI B (dg B n) d s) (hl : s.1.length = (dg B n).length) :
  (0 < s.2 → s.1 ++ [s.2] = dg B (n * d)) ∧ (s.2 = 0 → s.1 = dg B (n * d)) := by
 obtain ⟨h1, h2, h3, h4⟩ := h
 rw [List.take_of_length_le (by omega), vl_dg hB, Nat.mul_comm d n] at h4
 refine ⟨fun h0 => (dg_fit hB (snoc_lt' h2 h3) (by rw [vl_snoc]; exact h4) (.inr ?_)).symm, fun h0 => (dg_fit hB h2 (by rw [h0] at h4; simpa using h4) ?_).symm⟩
 ·rw [List.length_append, List.length_singleton, Nat.add_sub_cancel]
  have := Nat.mul_le_mul_left (B ^ s.1.length) h0
  omega
 ·by_cases he : s.1 = []
  ·exact .inl he
  right
  have h5 := len_lo hB (n := n) (by intro e; apply he; rw [e] at hl; exact List.eq_nil_of_length_eq_zero hl)
  rw [hl]
  have h6 : n * 1 ≤ n * d := Nat.mul_le_mul_left _ hd
  omega
def OffI (B : Nat) (W v : List Nat) (g : Nat) (s : List Nat × Nat) : Prop := s.1.length ≤ v.length ∧ (∀ x, x ∈ s.1 → x < B) ∧ s.2 < B ∧ vl B s.1 + g * vl B (v.take s.1.length) = vl B (W.take s.1.length) + B ^ s.1.length * s.2
theorem OffI.step (hB : 2 ≤ B) {W v : List Nat} {g d l : Nat} {s : List Nat × Nat} (hv : ∀ x, x ∈ v → x < B) (hg : g < B) (h : OffI B W v g s) (hi : s.1.length < v.length) (hd : d < B)
  (he : d + v.getD s.1.length 0 * g % B + s.2 = W.getD s.1.length 0 + B * l) :
  OffI B W v g (s.1 ++ [d], v.getD s.1.length 0 * g / B + l) := by
 obtain ⟨h1, h2, h3, h4⟩ := h
 have key : vl B (s.1 ++ [d]) + g * vl B (v.take (s.1.length + 1)) = vl B (W.take (s.1.length + 1)) + B ^ (s.1.length + 1) * (v.getD s.1.length 0 * g / B + l) := by
  rw [vl_snoc, vl_take_getD, vl_take_getD, Nat.pow_succ]
  have h5 := congrArg (B ^ s.1.length * ·) he
  have h6 := split_digit (B := B) (P := B ^ s.1.length) (x := v.getD s.1.length 0 * g)
  simp only [Nat.mul_add, ← Nat.mul_assoc] at h5 h6 h4 ⊢
  rw [show g * B ^ s.1.length * v.getD s.1.length 0 = B ^ s.1.length * v.getD s.1.length 0 * g by grind]
  omega
 have hr := snoc_lt' h2 hd
 refine ⟨by simp only [List.length_append, List.length_singleton]; omega, hr, ?_, by rw [List.length_append]; exact key⟩
 have h5 := vl_lt hr
 rw [List.length_append, List.length_singleton] at h5
 have h6 := vl_lt (B := B) (l := v.take (s.1.length + 1)) fun x hx => hv x (List.mem_of_mem_take hx)
 rw [List.length_take, Nat.min_eq_left (by omega)] at h6
 show v.getD s.1.length 0 * g / B + l < B
 generalize v.getD s.1.length 0 * g / B + l = c at *
 apply Nat.lt_of_not_le
 intro hc
 have h7 := Nat.mul_le_mul_left (B ^ (s.1.length + 1)) hc
 have h8 : g * vl B (v.take (s.1.length + 1)) ≤ (B - 1) * B ^ (s.1.length + 1) := Nat.mul_le_mul (by omega) (by omega)
 have h9 : (B - 1) * B ^ (s.1.length + 1) + B ^ (s.1.length + 1) = B ^ (s.1.length + 1) * B := by
  obtain ⟨n, rfl⟩ : ∃ n, B = n + 1 := ⟨B - 1, by omega⟩
  rw [Nat.add_sub_cancel]; grind
 omega
theorem OffI.done {W v : List Nat} {g n : Nat} {s : List Nat × Nat} (hv : ∀ x, x ∈ v → x < B) (h : OffI B W v g s) (hl : s.1.length = n) (hn : v.length = n) (hW : W.length = n + 1) (hg : g * vl B v ≤ vl B W + vl B v) :
  (s.2 ≤ W.getD n 0 → g * vl B v ≤ vl B W ∧ vl B (s.1 ++ [W.getD n 0 - s.2]) = vl B W - g * vl B v) ∧
  (W.getD n 0 < s.2 → vl B W < g * vl B v ∧ s.2 = W.getD n 0 + 1 ∧ vl B s.1 + vl B v = B ^ n + (vl B W + vl B v - g * vl B v) ∧ vl B W + vl B v - g * vl B v < B ^ n) := by
 obtain ⟨h1, h2, h3, h4⟩ := h
 have h5 := vl_take_getD (B := B) W n
 rw [List.take_of_length_le (by omega)] at h5
 rw [hl] at h4
 have h6 := vl_lt h2
 rw [hl] at h6
 have hVn := vl_lt hv
 rw [hn] at hVn
 rw [List.take_of_length_le (by omega)] at h4
 generalize vl B v = V at *
 generalize W.getD n 0 = w at *
 generalize g * V = gV at *
 constructor
 ·intro hle
  have e : B ^ n * w = B ^ n * s.2 + B ^ n * (w - s.2) := by rw [← Nat.mul_add, show s.2 + (w - s.2) = w by omega]
  refine ⟨by omega, ?_⟩
  rw [vl_snoc, hl]
  omega
 ·intro hlt
  have hk : s.2 = w + 1 := by
   apply Classical.byContradiction
   intro hne
   have h7 := Nat.mul_le_mul_left (B ^ n) (by omega : w + 2 ≤ s.2)
   rw [Nat.mul_add] at h7
   omega
  rw [hk, Nat.mul_add, Nat.mul_one] at h4
  refine ⟨by omega, hk, by omega, by omega⟩
end
end Go.V
namespace Go.V
open Lib (decDigits)
def IsD (b : UInt8) : Prop := 48 ≤ b.toNat ∧ b.toNat ≤ 57
def dvA : List UInt8 → Nat → Nat
 | [], n => n
 | b :: r, n => dvA r (10 * n + (b.toNat - 48))
def dv (s : List UInt8) : Nat := dvA s 0
theorem dvA_eq : ∀ (s : List UInt8) (n : Nat), dvA s n = n * 10 ^ s.length + dv s
 | [], n => by simp [dvA, dv]
 | b :: r, n => by
  simp only [dv, dvA, List.length_cons]
  rw [dvA_eq r, dvA_eq r (10 * 0 + (b.toNat - 48)), Nat.pow_succ]
  have : (10 * n + (b.toNat - 48)) * 10 ^ r.length = n * (10 ^ r.length * 10) + (b.toNat - 48) * 10 ^ r.length := by grind
  rw [this, Nat.mul_zero, Nat.zero_add]
  omega
theorem dvA_append : ∀ (s t : List UInt8) (n : Nat), dvA (s ++ t) n = dvA t (dvA s n)
 | [], t, n => rfl
 | b :: r, t, n => by simp only [List.cons_append, dvA]; exact dvA_append r t _
theorem dv_append (s t : List UInt8) : dv (s ++ t) = dv s * 10 ^ t.length + dv t := by
 unfold dv; rw [dvA_append, dvA_eq]; rfl
theorem dv_lt : ∀ {s : List UInt8}, (∀ b, b ∈ s → IsD b) → dv s < 10 ^ s.length
 | [], _ => by simp [dv, dvA]
 | b :: r, h => by
  have h1 := dv_lt (s := r) fun x hx => h x (by simp [hx])
  have h2 := h b (by simp)
  have e := dv_append [b] r
  rw [show [b] ++ r = b :: r from rfl] at e
  rw [e, show dv [b] = b.toNat - 48 by simp [dv, dvA], List.length_cons, Nat.pow_succ]
  have h3 : b.toNat - 48 ≤ 9 := by have := h2.2; omega
  have := Nat.mul_le_mul_right (10 ^ r.length) h3
  omega
theorem dv_part {s : List UInt8} {lo hi : Nat} (h : lo ≤ hi) (hh : hi ≤ s.length) : dv (s.take hi) = dv (s.take lo) * 10 ^ (hi - lo) + dv ((s.drop lo).take (hi - lo)) := by
 have e : s.take hi = s.take lo ++ (s.drop lo).take (hi - lo) := by
  conv => lhs; rw [show hi = lo + (hi - lo) by omega, List.take_add]
 rw [e, dv_append, List.length_take, List.length_drop, Nat.min_eq_left (by omega)]
end Go.V
namespace Go.V
open Go.Proofs
set_option maxRecDepth 10000
end Go.V
namespace Go.V
open Go.Proofs
set_option maxRecDepth 10000
set_option maxHeartbeats 2000000
def SMulI (a b : List Nat) (s : List Nat × Nat) : Prop := s.1.length = a.length + b.length ∧ (∀ x, x ∈ s.1 → x < B9) ∧ s.2 ≤ a.length ∧ vl B9 s.1 = vl B9 (a.take s.2) * vl B9 b ∧ ∀ j, s.2 + b.length ≤ j → s.1.getD j 0 = 0
def SMulJ (a b : List Nat) (i : Nat) (s : List Nat × Nat × Nat) : Prop := s.1.length = a.length + b.length ∧ (∀ x, x ∈ s.1 → x < B9) ∧ s.2.1 ≤ b.length ∧ s.2.2 < B9 ∧
 vl B9 s.1 + B9 ^ (i + s.2.1) * s.2.2 = vl B9 (a.take i) * vl B9 b + B9 ^ i * (a.getD i 0 * vl B9 (b.take s.2.1)) ∧ ∀ j, i + b.length ≤ j → s.1.getD j 0 = 0
theorem SMulJ.step {a b : List Nat} {i : Nat} {s : List Nat × Nat × Nat} (h : SMulJ a b i s) (ha : ∀ x, x ∈ a → x < B9) (hb : ∀ x, x ∈ b → x < B9) (hi : i < a.length) (hk : s.2.1 < b.length) :
  let t := s.2.2 + (a.getD i 0 * b.getD s.2.1 0 + s.1.getD (i + s.2.1) 0)
  t < B9 * B9 ∧ SMulJ a b i (s.1.set (i + s.2.1) (t % B9), s.2.1 + 1, t / B9) := by
 obtain ⟨h1, h2, h3, h4, h5, h6⟩ := h
 have hlt : i + s.2.1 < s.1.length := by omega
 have hbd := mul_bound (getD_lt ha (by decide) i) (getD_lt hb (by decide) s.2.1) (getD_lt h2 (by decide) (i + s.2.1)) h4
 refine ⟨hbd.1, by rw [List.length_set]; exact h1, set_lt h2 (Nat.mod_lt _ (by decide)), hk, hbd.2, ?_, fun j hj => ?_⟩
 ·have := mul_step hlt h5
  rw [← getD_get hlt] at this
  exact this
 ·show (s.1.set _ _).getD j 0 = 0
  rw [getD_set_ne (by omega)]; exact h6 j hj
theorem SMulJ.last {a b : List Nat} {i c : Nat} {O : List Nat} (h : SMulJ a b i (O, b.length, c)) (hi : i < a.length) : SMulI a b (O.set (i + b.length) c, i + 1) := by
 obtain ⟨h1, h2, h3, h4, h5, h6⟩ := h
 simp only at h1 h2 h4 h5 h6
 have hlt : i + b.length < O.length := by omega
 refine ⟨by rw [List.length_set]; exact h1, set_lt h2 h4, hi, ?_, fun j hj => ?_⟩
 ·show vl B9 (O.set _ _) = _
  rw [mul_last hlt (by rw [← getD_get hlt]; exact h6 _ (Nat.le_refl _)) h5, vl_take_getD, List.take_length, Nat.add_mul, Nat.mul_assoc]
 ·show (O.set _ _).getD j 0 = 0
  rw [getD_set_ne (by simp only at hj; omega)]; exact h6 j (by simp only at hj; omega)
end Go.V
namespace Go.V
open Go.Proofs
set_option maxRecDepth 10000
set_option maxHeartbeats 2000000
end Go.V
namespace Go.V
open Go.Proofs
set_option maxRecDepth 10000
set_option maxHeartbeats 2000000
end Go.V
namespace Go.V
open Go.Proofs
set_option maxRecDepth 10000
set_option maxHeartbeats 4000000
end Go.V
namespace Go.V
open Go.Proofs
set_option maxRecDepth 10000
set_option maxHeartbeats 1000000
end Go.V
namespace Go.V
open Go.Proofs
set_option maxRecDepth 10000
set_option maxHeartbeats 1000000
end Go.V
namespace Go.V
def okN (s : List UInt8) : Prop := s ≠ [] ∧ s.length ≤ 200 ∧ (∀ b, b ∈ s → IsD b) ∧ (s.length = 1 ∨ s.head? ≠ some 48)
instance (s : List UInt8) : Decidable (okN s) := by unfold okN IsD; exact inferInstance
end Go.V
namespace Go.V
open Go.Proofs Go.RowKit
set_option maxRecDepth 10000
set_option maxHeartbeats 1000000
theorem Grew.bytes (w : World) (e : TypeId) (s : ByteArray) : Grew w (Lib.bytesWorld w e s) :=
 ⟨rfl, rfl, rfl, by rw [Lib.bytesWorld_size]; omega, fun j hj => Lib.bytesWorld_at_old w e s j hj⟩
end Go.V
namespace Go.V
open Go.Proofs Go.RowKit
set_option maxRecDepth 10000
set_option maxHeartbeats 1000000
theorem dv_bl {s : List UInt8} (h : ∀ b, b ∈ s → IsD b) : bl (dv s) ≤ 4 * s.length := by
 refine bl_le (Nat.lt_of_lt_of_le (dv_lt h) ?_)
 rw [Nat.pow_mul]; exact Nat.pow_le_pow_left (by decide) _
theorem okN.dig {s : List UInt8} (h : okN s) : ∀ b, b ∈ s → IsD b := h.2.2.1
theorem okN.bl {s : List UInt8} (h : okN s) : bl (dv s) ≤ 800 := by
 have h1 := dv_bl h.dig
 have := h.2.1
 omega
end Go.V
namespace Go.V
end Go.V
namespace Go.V
open Go.Proofs Go.RowKit
set_option maxRecDepth 10000
set_option maxHeartbeats 1000000
def cT (xs : List (List UInt8)) : List (List C) := xs.map fun s => [.s (.string ⟨s.toArray⟩)]
theorem cT_len (xs : List (List UInt8)) : (cT xs).length = xs.length := by simp [cT]
theorem cT_sz (xs : List (List UInt8)) : ∀ r, r ∈ cT xs → r.length = 1 := by
 intro r hr; simp only [cT, List.mem_map] at hr; obtain ⟨n, _, rfl⟩ := hr; rfl
end Go.V
namespace Go.V
open Go.Proofs Go.RowKit
set_option maxRecDepth 10000
set_option maxHeartbeats 1000000
def okLoads (x : List Rat) : Prop := 1 ≤ x.length ∧ x.length ≤ 48 ∧ x.any (fun q => decide (sgI q < 0)) = false
instance (x : List Rat) : Decidable (okLoads x) := by unfold okLoads; exact inferInstance
end Go.V
namespace Go.V
open Go.Proofs Go.RowKit
set_option maxRecDepth 10000
set_option maxHeartbeats 1000000
def RdI (s : List UInt8) (out : List Nat) : Prop := (∀ x, x ∈ out → x < B9) ∧ dv s = vl B9 out + B9 ^ out.length * dv (s.take (s.length - 9 * out.length)) ∧ 9 * out.length ≤ s.length + 8
theorem RdI.step {s : List UInt8} {out : List Nat} (hd : ∀ b, b ∈ s → IsD b) (h : RdI s out) {f tx : Nat} (ht : tx = s.length - 9 * out.length) (h0 : 0 < tx) (hf : f = tx - 9) :
  RdI s (out ++ [dv ((s.drop f).take (tx - f))]) ∧ dv ((s.drop f).take (tx - f)) < B9 := by
 obtain ⟨h1, h2, h3⟩ := h
 have hlt : dv ((s.drop f).take (tx - f)) < B9 := by
  have h4 := dv_lt (s := (s.drop f).take (tx - f)) fun b hb => hd b (List.mem_of_mem_drop (List.mem_of_mem_take hb))
  have h5 : ((s.drop f).take (tx - f)).length ≤ 9 := by rw [List.length_take]; omega
  have h6 : (10 : Nat) ^ ((s.drop f).take (tx - f)).length ≤ 10 ^ 9 := Nat.pow_le_pow_right (by decide) h5
  exact Nat.lt_of_lt_of_le h4 h6
 refine ⟨⟨snoc_lt h1 hlt, ?_, by rw [List.length_append, List.length_singleton]; omega⟩, hlt⟩
 rw [List.length_append, List.length_singleton, vl_snoc, Nat.pow_succ, h2, ← ht]
 have h4 := dv_part (s := s) (lo := f) (hi := tx) (by omega) (by omega)
 have h5 : s.length - 9 * (out.length + 1) = f := by omega
 rw [h5, h4]
 generalize dv ((s.drop f).take (tx - f)) = d
 generalize vl B9 out = vv
 generalize B9 ^ out.length = P
 rcases Nat.lt_or_ge tx 9 with h6 | h6
 ·have : dv (s.take f) = 0 := by rw [show f = 0 by omega]; rfl
  rw [this, Nat.zero_mul, Nat.zero_add, Nat.mul_zero, Nat.add_zero]
 ·have h7 : (10 : Nat) ^ (tx - f) = B9 := by rw [show tx - f = 9 by omega]
  rw [h7]
  generalize B9 = B
  have : P * (dv (s.take f) * B) = P * B * dv (s.take f) := by rw [Nat.mul_comm (dv _) B, Nat.mul_assoc]
  rw [Nat.mul_add, this]
  omega
end Go.V
namespace Go.V
open Go.Proofs Go.RowKit
set_option maxRecDepth 10000
set_option maxHeartbeats 1000000
end Go.V
namespace Go.V
open Go.Proofs Go.RowKit
set_option maxRecDepth 10000
set_option maxHeartbeats 1000000
end Go.V
namespace Go.V
open Go.Proofs Go.RowKit
set_option maxRecDepth 10000
set_option maxHeartbeats 1000000
end Go.V
namespace Go.V
open Go.Proofs Go.RowKit
set_option maxRecDepth 10000
set_option maxHeartbeats 1000000
def marks (k n : Nat) : List Int := (List.range n).map fun i => ((k + i : Nat) : Int)
end Go.V
namespace Go.V
open Go.Proofs Go.RowKit
set_option maxRecDepth 10000
set_option maxHeartbeats 1000000
theorem cT_set (xs : List (List UInt8)) (k : Nat) (x : List UInt8) : (cT xs).set k [.s (.string ⟨x.toArray⟩)] = cT (xs.set k x) := by
 unfold cT; rw [List.map_set]
theorem fn_eqS (xs ys : List (List UInt8)) (hl : xs.length ≤ 3000000) (hl' : ys.length ≤ 3000000) :
  Fn Try.prog 19 [.d (.sl (cT xs)), .d (.sl (cT ys))] [] (B (decide (xs = ys))) [] := by
 refine Fn.intro (ks := [0,1,4,5,10,14,25]) hty rfl rfl rfl rfl rfl ?_
 conv => whnf
 rw [cT_len, cT_len]
 refine Br.mk (fun h => ?_) (fun h => ?_)
 ·have h : ¬ xs.length = ys.length := by simp at h; omega
  conv => whnf
  refine ⟨?_, trivial, rfl⟩
  rw [decide_eq_false fun e => h (by rw [e])]
 ·have hxy : xs.length = ys.length := by simp at h; omega
  conv => whnf
  refine VLoop.inv hty (S := Nat) (fun k => [(5, I k), (1, .d (.sl (cT ys))), (0, .d (.sl (cT xs)))]) (fun _ => []) (fun k => k ≤ xs.length ∧ xs.take k = ys.take k) (fun k => xs.length - k) 0 ⟨Nat.zero_le _, rfl⟩
   ⟨rfl, rfl, rfl, trivial⟩ trivial ?_
  rintro k ⟨hk, hp⟩
  conv => whnf
  rw [cT_len]
  refine Br.mk (fun h => ?_) (fun h => ?_)
  ·have hk' : k < xs.length := by simp at h; omega
   conv => whnf
   refine VDraw.go hmo hty 9 [] rfl ?_
   conv => whnf
   refine ⟨⟨⟨by omega, by rw [cT_len]; omega⟩, cT_sz xs⟩, ?_⟩
   conv => whnf
   refine ⟨[.s (.string ⟨(xs[k]).toArray⟩)], by simp [cT, hk'], ?_⟩
   conv => whnf
   refine ⟨⟨⟨by omega, by rw [cT_len]; omega⟩, cT_sz ys⟩, ?_⟩
   conv => whnf
   refine ⟨[.s (.string ⟨(ys[k]).toArray⟩)], by simp [cT, ← hxy, hk'], ?_⟩
   conv => whnf
   refine Br.mk (fun h2 => ?_) (fun h2 => ?_)
   ·have h2 : ¬ xs[k] = ys[k] := by simpa using h2
    conv => whnf
    refine ⟨?_, trivial, rfl⟩
    rw [decide_eq_false fun e => h2 (by subst e; rfl)]
   ·have h2 : xs[k] = ys[k] := by simpa using h2
    conv => whnf
    refine Wr.fit (wrap_i64 (by omega) (by omega)) ?_
    conv => whnf
    refine ⟨k + 1, ⟨hk', ?_⟩, by omega, ⟨rfl, rfl, rfl, trivial⟩, trivial⟩
    rw [List.take_succ_eq_append_getElem hk', List.take_succ_eq_append_getElem (by omega), hp, h2]
  ·have hk' : k = xs.length := by simp at h; omega
   conv => whnf
   refine ⟨?_, trivial, rfl⟩
   subst hk'
   rw [List.take_length, List.take_of_length_le (by omega)] at hp
   rw [decide_eq_true hp]
def markF (r : Nat) (acc : List UInt8) : List UInt8 := if h : r = 0 then acc else markF (r / 10) (UInt8.ofNat (48 + r % 10) :: acc)
theorem fn_markText (k : Nat) (hk : k ≤ 3000000000) : ∃ m : List UInt8, Fn Try.prog 22 [I k] [] (.d (.s (.string ⟨m.toArray⟩))) [] := by
 by_cases h0 : k = 0
 ·subst h0
  refine ⟨[109, 48], ?_⟩
  refine Fn.intro (ks := [0,2,3,5,7]) hty rfl rfl rfl rfl rfl ?_
  conv => whnf
  refine ⟨?_, trivial, rfl⟩
  rfl
 ·refine ⟨109 :: markF k [], ?_⟩
  refine Fn.intro (ks := [0,2,3,5,7]) hty rfl rfl rfl rfl rfl ?_
  conv => whnf
  rw [decide_eq_false (by omega)]
  conv => whnf
  refine VLoop.inv hty (S := Nat × List UInt8) (fun s => [(3, .d (.s (.string ⟨s.2.toArray⟩))), (0, I s.1)]) (fun _ => []) (fun s => s.1 + s.2.length ≤ k ∧ markF s.1 s.2 = markF k []) (fun s => s.1) (k, []) ⟨Nat.le_refl _, rfl⟩
   ⟨rfl, rfl, trivial⟩ trivial ?_
  rintro s ⟨hk1, hp⟩
  conv => whnf
  refine Br.mk (fun h => ?_) (fun h => ?_)
  ·have h : 0 < s.1 := by simpa using h
   rw [markF, dif_neg (by omega)] at hp
   conv => whnf
   refine ⟨by omega, ?_⟩
   conv => whnf
   obtain ⟨d, ed⟩ : ∃ d : Nat, s.1 % 10 = d := ⟨_, rfl⟩
   rw [show (s.1 : Int).tmod 10 = d by rw [Int.tmod_eq_emod_of_nonneg (by omega)]; omega]
   rw [ed] at hp
   refine Wr.fit (wrap_i64 (by omega) (by omega)) ?_
   conv => whnf
   refine Wr.is (y := ((UInt8.ofNat (48 + d)).toNat : Int)) (by rw [wrap_u8, UInt8.toNat_ofNat']; omega) ?_
   generalize UInt8.ofNat (48 + d) = c at hp ⊢
   conv => whnf
   refine Sub.full rfl ?_
   conv => whnf
   refine ⟨⟨[c].toArray⟩, by simp [cB], ?_⟩
   conv => whnf
   refine ⟨by simp [ByteArray.size]; omega, ?_⟩
   conv => whnf
   refine ⟨by omega, ?_⟩
   conv => whnf
   obtain ⟨r, er⟩ : ∃ r : Nat, s.1 / 10 = r := ⟨_, rfl⟩
   rw [show (s.1 : Int).tdiv 10 = r by rw [Int.tdiv_eq_ediv_of_nonneg (by omega)]; omega]
   rw [er] at hp
   refine Wr.fit (wrap_i64 (by omega) (by omega)) ?_
   conv => whnf
   refine ⟨(r, c :: s.2), ⟨by simp; omega, hp⟩, by simp; omega, ⟨?_, rfl, trivial⟩, trivial⟩
   show AV.d (C.s (Value.string (_ ++ _))) = _
   congr 3
  ·have h : s.1 = 0 := by simpa using h
   rw [markF, dif_pos h] at hp
   conv => whnf
   refine ⟨?_, ?_, trivial, rfl⟩
   ·simp [ByteArray.size]; omega
   ·rw [← hp]; congr 2
noncomputable def markQ (k : Nat) : List UInt8 := if h : k ≤ 3000000000 then (fn_markText k h).choose else []
theorem fn_markQ (k : Nat) (h : k ≤ 3000000000) : Fn Try.prog 22 [I k] [] (.d (.s (.string ⟨(markQ k).toArray⟩))) [] := by
 unfold markQ; rw [dif_pos h]; exact (fn_markText k h).choose_spec
noncomputable def marksT (k n : Nat) : List (List UInt8) := (List.range n).map fun i => markQ (k + i)
theorem marksT_len (k n : Nat) : (marksT k n).length = n := by simp [marksT]
theorem fn_markT (zs : List (List UInt8)) (n k0 : Nat) (hn : n ≤ zs.length) (hl : n ≤ 1000000) (hk0 : k0 ≤ 2000000000) :
  Fn Try.prog 20 [.ls 1000000 0 n 1, I k0] [(1000000, .row true 1 (cT zs))] (I ((k0 + n : Nat) : Int)) [(1000000, .row true 1 (cT (marksT k0 n ++ zs.drop n)))] := by
 have k1 : (marksT k0 n ++ zs.drop n).length = zs.length := by simp [marksT_len]; omega
 refine Fn.intro (ks := [0,1,4,5,9]) hty rfl rfl rfl rfl rfl ?_
 conv => whnf
 refine VLoop.inv hty (S := Nat) (fun k => [(5, I k), (1, I ((k0 + k : Nat) : Int)), (0, .ls 1000000 0 n 1)]) (fun k => [(1000000, .row true 1 (cT (fillL (marksT k0 n ++ zs.drop n) zs k)))]) (fun k => k ≤ n) (fun k => n - k) 0 (Nat.zero_le _)
  ⟨rfl, rfl, rfl, trivial⟩ ⟨by rw [fill_zero]; rfl, trivial⟩ ?_
 intro k hk
 conv => whnf
 refine Br.mk (fun h => ?_) (fun h => ?_)
 ·have hk' : k < n := by simp at h; omega
  conv => whnf
  refine VCall.of_data (fn_markQ (k0 + k) (by omega)) (nd _) ?_
  conv => whnf
  refine ⟨by omega, ?_⟩
  conv => whnf
  refine ⟨[.s (.string ⟨((fillL (marksT k0 n ++ zs.drop n) zs k)[k]!).toArray⟩)], by
   have : k < (fillL (marksT k0 n ++ zs.drop n) zs k).length := by rw [fill_len k1]; omega
   simp [cT, this], ?_⟩
  conv => whnf
  refine Wr.fit (wrap_i64 (by omega) (by omega)) ?_
  conv => whnf
  refine Wr.fit (wrap_i64 (by omega) (by omega)) ?_
  conv => whnf
  refine ⟨k + 1, hk', by omega, ⟨rfl, by congr 1, rfl, trivial⟩, ?_, trivial⟩
  show Ob.row true 1 ((cT _).set k [.s (.string ⟨(markQ (k0 + k)).toArray⟩)]) = _
  rw [cT_set, ← fill_set k1 (by omega)]
  congr 3
  rw [List.getElem_append_left (by rw [marksT_len]; exact hk')]; simp [marksT]
 ·have hk' : k = n := by simp at h; omega
  subst hk'
  conv => whnf
  refine ⟨rfl, ⟨?_, trivial⟩, rfl⟩
  have : fillL (marksT k0 k ++ zs.drop k) zs k = marksT k0 k ++ zs.drop k := by
   unfold fillL; rw [List.take_append_of_le_length (by simp [marksT_len]), List.take_of_length_le (by simp [marksT_len])]
  rw [this]; rfl
end Go.V
namespace Go.V
open Go.Proofs Go.RowKit
set_option maxRecDepth 10000
set_option maxHeartbeats 1000000
end Go.V
namespace Go.Proofs
open Go.Shelf Go.RowKit Go.Sort Go.Lib
end Go.Proofs
namespace Go.V
open Go.Proofs Go.RowKit
set_option maxRecDepth 10000
end Go.V
namespace Go.V
open Go.Proofs Go.RowKit
set_option maxRecDepth 10000
set_option maxHeartbeats 1000000
end Go.V
namespace Go.V
open Go.Proofs Go.RowKit
set_option maxRecDepth 10000
set_option maxHeartbeats 1000000
end Go.V
namespace Go.V
open Go.Proofs Go.RowKit
set_option maxRecDepth 10000
set_option maxHeartbeats 1000000
end Go.V
namespace Go.V
open Go.Proofs Go.RowKit
set_option maxRecDepth 10000
set_option maxHeartbeats 1000000
end Go.V
namespace Go.V
open Go.Proofs Go.RowKit
set_option maxRecDepth 10000
set_option maxHeartbeats 1000000
end Go.V
namespace Go.V
open Go.Proofs Go.RowKit
set_option maxRecDepth 10000
set_option maxHeartbeats 1000000
def tab (n : Nat) (f : Nat → Rat) : List Rat := (List.range n).map f
end Go.V
namespace Go.V
open Go.Proofs Go.RowKit
set_option maxRecDepth 10000
set_option maxHeartbeats 1000000
end Go.V
namespace Go.V
open Go.Proofs Go.RowKit
set_option maxRecDepth 10000
set_option maxHeartbeats 1000000
end Go.V
namespace Go.V
open Go.Proofs Go.RowKit
set_option maxRecDepth 10000
set_option maxHeartbeats 1000000
abbrev sp : Int := -7000000000000000101
end Go.V
namespace Go.V
open Go.Proofs Go.RowKit
set_option maxRecDepth 10000
set_option maxHeartbeats 1000000
end Go.V
namespace Go.V
open Go.Proofs Go.RowKit
set_option maxRecDepth 10000
set_option maxHeartbeats 1000000
end Go.V
namespace Go.V
open Go.Proofs Go.RowKit
set_option maxRecDepth 10000
set_option maxHeartbeats 1000000
end Go.V
namespace Go.V
open Go.Proofs Go.RowKit
set_option maxRecDepth 10000
set_option maxHeartbeats 1000000
end Go.V
namespace Go.V
open Go.Proofs Go.RowKit
set_option maxRecDepth 10000
set_option maxHeartbeats 1000000
end Go.V
namespace Go.V
open Go.Proofs Go.RowKit
set_option maxRecDepth 10000
set_option maxHeartbeats 1000000
end Go.V
namespace Go.V
open Go.Proofs Go.RowKit
set_option maxRecDepth 10000
set_option maxHeartbeats 1000000
end Go.V
namespace Go.V
open Go.Proofs Go.RowKit
set_option maxRecDepth 10000
set_option maxHeartbeats 1000000
end Go.V
namespace Go.V
open Go.Proofs Go.RowKit
set_option maxRecDepth 10000
set_option maxHeartbeats 1000000
theorem fn_heldT (n k0 : Nat) (hl : n ≤ 1000000) (hk0 : k0 ≤ 2000000000) :
  Fn Try.prog 21 [.d (.sl (cT (marksT k0 n))), I k0] [] (I ((k0 + n : Nat) : Int)) [] := by
 refine Fn.intro (ks := [0,1,4,5,9,18]) hty rfl rfl rfl rfl rfl ?_
 conv => whnf
 refine VLoop.inv hty (S := Nat) (fun k => [(5, I k), (1, I ((k0 + k : Nat) : Int)), (0, .d (.sl (cT (marksT k0 n))))]) (fun _ => []) (fun k => k ≤ n) (fun k => n - k) 0 (Nat.zero_le _)
  ⟨rfl, rfl, rfl, trivial⟩ trivial ?_
 intro k hk
 conv => whnf
 rw [cT_len, marksT_len]
 refine Br.mk (fun h => ?_) (fun h => ?_)
 ·have hk' : k < n := by simp at h; omega
  conv => whnf
  refine VDraw.go hmo hty 7 [] rfl ?_
  conv => whnf
  refine ⟨⟨⟨by omega, by rw [cT_len, marksT_len]; omega⟩, cT_sz _⟩, ?_⟩
  conv => whnf
  refine ⟨[.s (.string ⟨(markQ (k0 + k)).toArray⟩)], by simp [cT, marksT, hk'], ?_⟩
  conv => whnf
  refine QCall.of_data (fn_markQ (k0 + k) (by omega)) (nd _) ?_
  conv => whnf
  rw [show ((⟨(markQ (k0 + k)).toArray⟩ : ByteArray).toList == (⟨(markQ (k0 + k)).toArray⟩ : ByteArray).toList) = true by simp]
  conv => whnf
  refine Wr.fit (wrap_i64 (by omega) (by omega)) ?_
  conv => whnf
  refine Wr.fit (wrap_i64 (by omega) (by omega)) ?_
  conv => whnf
  exact ⟨k + 1, hk', by omega, ⟨rfl, by congr 1, rfl, trivial⟩, trivial⟩
 ·have hk' : k = n := by simp at h; omega
  subst hk'
  conv => whnf
  exact ⟨rfl, trivial, rfl⟩
end Go.V
namespace Go.V
def Iz (E : Nat) (q : Rat) : Prop := ∃ z : Int, q * ((E : Int) : Rat) = (z : Rat)
theorem Iz.zero (E : Nat) : Iz E 0 := ⟨0, by simp [Rat.zero_mul]⟩
theorem Iz.one (E : Nat) : Iz E 1 := ⟨(E : Int), by rw [Rat.one_mul]⟩
theorem Iz.add {E : Nat} {a b : Rat} (h1 : Iz E a) (h2 : Iz E b) : Iz E (a + b) := by
 obtain ⟨x, hx⟩ := h1; obtain ⟨y, hy⟩ := h2
 exact ⟨x + y, by rw [Rat.add_mul, hx, hy, Rat.intCast_add]⟩
theorem Iz.neg {E : Nat} {a : Rat} (h : Iz E a) : Iz E (-a) := by
 obtain ⟨x, hx⟩ := h
 exact ⟨-x, by rw [Rat.neg_mul, hx, Rat.intCast_neg]⟩
theorem Iz.mul {E F : Nat} {a b : Rat} (h1 : Iz E a) (h2 : Iz F b) : Iz (E * F) (a * b) := by
 obtain ⟨x, hx⟩ := h1; obtain ⟨y, hy⟩ := h2
 refine ⟨x * y, ?_⟩
 rw [Rat.intCast_mul, ← hx, ← hy, Int.natCast_mul, Rat.intCast_mul]
 grind
theorem Iz.more {E : Nat} {a : Rat} (h : Iz E a) (F : Nat) : Iz (E * F) a := by
 have := h.mul (Iz.one F)
 rwa [Rat.mul_one] at this
theorem natc (n : Nat) : ((n : Nat) : Rat) = ((n : Int) : Rat) := (Rat.intCast_natCast n).symm
theorem Iz.den (a : Rat) : Iz a.den a := ⟨a.num, by
 have h : mkRat a.num a.den = a := Rat.mkRat_self a
 have hp : ((a.den : Int) : Rat) ≠ 0 := by have := a.den_nz; exact_mod_cast this
 rw [Rat.mkRat_eq_div, natc] at h
 have h3 := Rat.div_mul_cancel (a := ((a.num : Int) : Rat)) hp
 rw [h] at h3
 exact h3⟩
theorem Iz.of_dvd {E F : Nat} {a : Rat} (h : Iz E a) (d : E ∣ F) : Iz F a := by obtain ⟨k, rfl⟩ := d; exact h.more k
theorem Iz.sz {E : Nat} {a : Rat} (h : Iz E a) (hE : E ≠ 0) (h0 : 0 ≤ a) (M : Nat) (h1 : a ≤ ((M : Int) : Rat)) : sz a ≤ max (bl (M * E)) (bl E) := by
 obtain ⟨z, hz⟩ := h
 have hp : (0 : Rat) < ((E : Int) : Rat) := by
  have : (0 : Int) < (E : Int) := by omega
  exact_mod_cast this
 have hz0 : 0 ≤ z := by
  have : (0 : Rat) ≤ (z : Rat) := by rw [← hz]; exact Rat.mul_nonneg h0 (Rat.le_of_lt hp)
  exact_mod_cast this
 have hz1 : z ≤ ((M * E : Nat) : Int) := by
  have : (z : Rat) ≤ (((M * E : Nat) : Int) : Rat) := by
   rw [← hz, Int.natCast_mul, Rat.intCast_mul]
   exact Rat.mul_le_mul_of_nonneg_right h1 (Rat.le_of_lt hp)
  exact_mod_cast this
 obtain ⟨t, rfl⟩ : ∃ t : Nat, z = (t : Int) := ⟨z.toNat, by omega⟩
 have ea : a = mkRat (sgn false t) E := by
  have h2 := natc E
  rw [sgn_f, Rat.mkRat_eq_div, ← hz, h2, Rat.div_def, Rat.mul_assoc, Rat.mul_inv_cancel _ (Rat.ne_of_gt hp), Rat.mul_one]
 rw [ea]
 refine Nat.le_trans (sz_mkRat hE) ?_
 have := bl_mono (a := t) (b := M * E) (by omega)
 omega
def dens : List Rat → Nat
 | [] => 1
 | q :: r => q.den * dens r
theorem dens_pos : ∀ xs, dens xs ≠ 0
 | [] => by decide
 | q :: r => Nat.mul_ne_zero q.den_nz (dens_pos r)
theorem dens_dvd {q : Rat} : ∀ {xs : List Rat}, q ∈ xs → q.den ∣ dens xs
 | x :: r, h => by
  rcases List.mem_cons.1 h with rfl | h
  ·exact ⟨dens r, rfl⟩
  ·exact Nat.dvd_trans (dens_dvd h) ⟨x.den, Nat.mul_comm _ _⟩
theorem dens_bl {m : Nat} : ∀ {xs : List Rat}, (∀ q, q ∈ xs → Go.V.sz q ≤ m) → bl (dens xs) ≤ xs.length * m + 1
 | [], _ => by show bl 1 ≤ _; rw [bl_one]; omega
 | x :: r, h => by
  show bl (x.den * dens r) ≤ (r.length + 1) * m + 1
  have h1 := bl_mul x.den (dens r)
  have h2 := dens_bl (xs := r) fun q hq => h q (List.mem_cons_of_mem _ hq)
  have h3 := h x (by simp)
  have h4 := bl_den x
  have : (r.length + 1) * m = r.length * m + m := Nat.succ_mul _ _
  omega
end Go.V
namespace Go.V
def sN : Nat → (Nat → Rat) → Rat
 | 0, _ => 0
 | n + 1, f => sN n f + f n
theorem sN_nonneg {n : Nat} {f : Nat → Rat} (h : ∀ i, i < n → 0 ≤ f i) : 0 ≤ sN n f := by
 induction n with
 | zero => exact Rat.le_refl
 | succ n ih =>
  have h1 := ih fun i hi => h i (by omega)
  have h2 := h n (by omega)
  show 0 ≤ sN n f + f n
  grind
theorem sN_mono {n m : Nat} {f : Nat → Rat} (hm : m ≤ n) (h : ∀ i, i < n → 0 ≤ f i) : sN m f ≤ sN n f := by
 induction n with
 | zero => rw [show m = 0 by omega]; exact Rat.le_refl
 | succ n ih =>
  by_cases e : m = n + 1
  ·subst e; exact Rat.le_refl
  ·have h1 := ih (by omega) fun i hi => h i (by omega)
   have h2 := h n (by omega)
   show sN m f ≤ sN n f + f n
   grind
theorem sN_one_le {n k : Nat} {f : Nat → Rat} (hk : k < n) (h : ∀ i, i < n → 0 ≤ f i) : f k ≤ sN n f := by
 have h1 := sN_mono (m := k + 1) (by omega) h
 have h2 : 0 ≤ sN k f := sN_nonneg fun i hi => h i (by omega)
 have h3 : sN (k + 1) f = sN k f + f k := rfl
 grind
theorem sN_const_le {n : Nat} {f : Nat → Rat} {M : Nat} (h : ∀ i, i < n → f i ≤ ((M : Int) : Rat)) : sN n f ≤ (((n * M : Nat) : Int) : Rat) := by
 induction n with
 | zero => simp [sN]
 | succ n ih =>
  have h1 := ih fun i hi => h i (by omega)
  have h2 := h n (by omega)
  show sN n f + f n ≤ _
  rw [Nat.succ_mul, Int.natCast_add, Rat.intCast_add]
  grind
theorem sN_iz {E n : Nat} {f : Nat → Rat} (h : ∀ i, i < n → Iz E (f i)) : Iz E (sN n f) := by
 induction n with
 | zero => exact Iz.zero E
 | succ n ih => exact (ih fun i hi => h i (by omega)).add (h n (by omega))
end Go.V
namespace Go.V
abbrev Mt := List (List Rat)
def ent (p : Mt) (i j : Nat) : Rat := (p.getD i []).getD j 0
def stepAt (p : Mt) (w : List Rat) (j k : Nat) : Rat := sN k fun i => w.getD i 0 * ent p i j
def stepQ (p : Mt) (w : List Rat) : List Rat := (List.range w.length).map fun j => stepAt p w j w.length
theorem stepQ_len (p : Mt) (w : List Rat) : (stepQ p w).length = w.length := by simp [stepQ]
def afterQ (p : Mt) : Nat → List Rat → List Rat
 | 0, w => w
 | k + 1, w => stepQ p (afterQ p k w)
theorem getD_mem {α : Type} {xs : List α} {i : Nat} {d : α} (h : i < xs.length) : xs.getD i d ∈ xs := by
 rw [List.getD_eq_getElem?_getD, List.getElem?_eq_getElem h]; exact List.getElem_mem h
structure MtOk (p : Mt) : Prop where
 n1 : 1 ≤ p.length
 n2 : p.length ≤ 12
 sq : ∀ r, r ∈ p → r.length = p.length
 pos : ∀ r, r ∈ p → ∀ q, q ∈ r → 0 ≤ q
 sz : ∀ r, r ∈ p → ∀ q, q ∈ r → Go.V.sz q ≤ 800
 one : ∀ r, r ∈ p → sN r.length (r.getD · 0) = 1
theorem MtOk.ent_mem {p : Mt} (h : MtOk p) {i j : Nat} (hi : i < p.length) (hj : j < p.length) : p.getD i [] ∈ p ∧ ent p i j ∈ p.getD i [] := by
 have h1 : p.getD i [] ∈ p := getD_mem hi
 exact ⟨h1, getD_mem (by rw [h.sq _ h1]; exact hj)⟩
theorem MtOk.ent_pos {p : Mt} (h : MtOk p) {i j : Nat} (hi : i < p.length) (hj : j < p.length) : 0 ≤ ent p i j := h.pos _ (h.ent_mem hi hj).1 _ (h.ent_mem hi hj).2
theorem MtOk.row_one {p : Mt} (h : MtOk p) {i : Nat} (hi : i < p.length) : sN p.length (ent p i) = 1 := by
 have h1 : p.getD i [] ∈ p := getD_mem hi
 have h2 := h.one _ h1
 rw [h.sq _ h1] at h2
 exact h2
theorem MtOk.ent_le {p : Mt} (h : MtOk p) {i j : Nat} (hi : i < p.length) (hj : j < p.length) : ent p i j ≤ 1 := by
 rw [← h.row_one hi]
 exact sN_one_le (f := ent p i) hj fun k hk => h.ent_pos hi hk
def dM (p : Mt) : Nat := dens p.flatten
theorem dM_pos (p : Mt) : dM p ≠ 0 := dens_pos _
theorem flat_len {m : Nat} : ∀ {p : Mt}, (∀ r, r ∈ p → r.length = m) → p.flatten.length = p.length * m
 | [], _ => by simp
 | r :: p, h => by
  have h1 := flat_len (p := p) fun r hr => h r (List.mem_cons_of_mem _ hr)
  rw [List.flatten_cons, List.length_append, h1, h r (by simp), List.length_cons, Nat.succ_mul, Nat.add_comm]
theorem MtOk.dM_bl {p : Mt} (h : MtOk p) : bl (dM p) ≤ 115201 := by
 have h1 := dens_bl (xs := p.flatten) (m := 800) fun q hq => by
  obtain ⟨r, hr, hq⟩ := List.mem_flatten.1 hq
  exact h.sz r hr q hq
 rw [flat_len h.sq] at h1
 have h2 : p.length * p.length ≤ 12 * 12 := Nat.mul_le_mul h.n2 h.n2
 have h3 : p.length * p.length * 800 ≤ 144 * 800 := Nat.mul_le_mul_right _ h2
 unfold dM
 omega
theorem MtOk.ent_iz {p : Mt} (h : MtOk p) {i j : Nat} (hi : i < p.length) (hj : j < p.length) : Iz (dM p) (ent p i j) :=
 (Iz.den _).of_dvd (dens_dvd (List.mem_flatten.2 ⟨_, (h.ent_mem hi hj).1, (h.ent_mem hi hj).2⟩))
def Wk (n s : Nat) (w : List Rat) : Prop := w.length = n ∧ ∃ E M : Nat, E ≠ 0 ∧ bl M + bl E ≤ s ∧ ∀ q, q ∈ w → 0 ≤ q ∧ q ≤ ((M : Int) : Rat) ∧ Iz E q
theorem Iz.sz2 {E M : Nat} {a : Rat} (h : Iz E a) (hE : E ≠ 0) (h0 : 0 ≤ a) (h1 : a ≤ ((M : Int) : Rat)) : Go.V.sz a ≤ bl M + bl E := by
 have h2 := h.sz hE h0 M h1
 have h3 := bl_mul M E
 omega
theorem Wk.sz {n s : Nat} {w : List Rat} (h : Wk n s w) {q : Rat} (hq : q ∈ w) : Go.V.sz q ≤ s := by
 obtain ⟨_, E, M, h1, h2, h3⟩ := h
 obtain ⟨h4, h5, h6⟩ := h3 q hq
 have := h6.sz2 h1 h4 h5
 omega
theorem Wk.pos {n s : Nat} {w : List Rat} (h : Wk n s w) {q : Rat} (hq : q ∈ w) : 0 ≤ q := by
 obtain ⟨_, E, M, h1, h2, h3⟩ := h
 exact (h3 q hq).1
theorem step_part {p : Mt} (hp : MtOk p) {s : Nat} {w : List Rat} (h : Wk p.length s w) :
  ∃ E M : Nat, E ≠ 0 ∧ bl M + bl E ≤ s + 115210 ∧ ∀ j k, j < p.length → k ≤ p.length → 0 ≤ stepAt p w j k ∧ stepAt p w j k ≤ ((M : Int) : Rat) ∧ Iz E (stepAt p w j k) := by
 obtain ⟨hl, E, M, h1, h2, h3⟩ := h
 have hb := hp.dM_bl
 have h12 : bl (p.length * M) ≤ 4 + bl M := by
  have h4 := bl_mul p.length M
  have h5 : bl p.length ≤ 4 := bl_le (by have := hp.n2; omega)
  omega
 have h6 := bl_mul E (dM p)
 refine ⟨E * dM p, p.length * M, Nat.mul_ne_zero h1 (dM_pos p), by omega, fun j k hj hk => ?_⟩
 have hm : ∀ i, i < p.length → 0 ≤ w.getD i 0 ∧ w.getD i 0 ≤ ((M : Int) : Rat) ∧ Iz E (w.getD i 0) := fun i hi => h3 _ (getD_mem (by omega))
 have t0 : ∀ i, i < p.length → 0 ≤ w.getD i 0 * ent p i j := fun i hi => Rat.mul_nonneg (hm i hi).1 (hp.ent_pos hi hj)
 refine ⟨sN_nonneg fun i hi => t0 i (by omega), ?_, sN_iz fun i hi => (hm i (by omega)).2.2.mul (hp.ent_iz (by omega) hj)⟩
 refine Rat.le_trans (sN_mono hk t0) (sN_const_le fun i hi => ?_)
 have h7 := Rat.mul_le_mul_of_nonneg_left (hp.ent_le hi hj) (hm i hi).1
 rw [Rat.mul_one] at h7
 exact Rat.le_trans h7 (hm i hi).2.1
theorem Wk.step {p : Mt} (hp : MtOk p) {s : Nat} {w : List Rat} (h : Wk p.length s w) : Wk p.length (s + 115210) (stepQ p w) := by
 obtain ⟨E, M, h1, h2, h3⟩ := step_part hp h
 refine ⟨by rw [stepQ_len, h.1], E, M, h1, h2, fun q hq => ?_⟩
 obtain ⟨j, hj, rfl⟩ := List.mem_map.1 hq
 rw [h.1] at hj ⊢
 exact h3 j p.length (by simpa using hj) (Nat.le_refl _)
theorem Wk.after {p : Mt} (hp : MtOk p) {s : Nat} {w : List Rat} (h : Wk p.length s w) : ∀ k, Wk p.length (s + k * 115210) (afterQ p k w)
 | 0 => by rw [Nat.zero_mul]; exact h
 | k + 1 => by
  have := (Wk.after hp h k).step hp
  rwa [Nat.add_assoc, ← Nat.succ_mul] at this
end Go.V
namespace Go.V
open Go.Proofs Go.RowKit
set_option maxRecDepth 10000
set_option maxHeartbeats 1000000
end Go.V
namespace Go.V
open Go.Proofs Go.RowKit
set_option maxRecDepth 10000
set_option maxHeartbeats 1000000
def cTT (rows : List (List (List UInt8))) : List (List C) := rows.map fun r => [.sl (cT r)]
theorem cTT_len (p : List (List (List UInt8))) : (cTT p).length = p.length := by simp [cTT]
theorem cTT_sz (p : List (List (List UInt8))) : ∀ r, r ∈ cTT p → r.length = 1 := by intro r hr; obtain ⟨n, _, rfl⟩ := List.mem_map.1 hr; rfl
theorem cTT_as {p : List (List (List UInt8))} {i : Nat} {x : List (List UInt8)} (h : i < p.length) (e : p.getD i [] = x) : (cTT p)[i]? = some [.sl (cT x)] := by
 subst e; rw [List.getD_eq_getElem?_getD, List.getElem?_eq_getElem h]; simp [cTT, h]
abbrev chI (rows : List (List (List UInt8))) : AV := .ag [.d (.sl (cTT rows))]
end Go.V
namespace Go.V
open Go.Proofs Go.RowKit
set_option maxRecDepth 10000
set_option maxHeartbeats 1000000
end Go.V
namespace Go.V
open Go.Proofs Go.RowKit
set_option maxRecDepth 10000
set_option maxHeartbeats 1000000
structure MtSz (p : Mt) (m : Nat) : Prop where
 n1 : 1 ≤ p.length
 n2 : p.length ≤ 12
 sq : ∀ r, r ∈ p → r.length = p.length
 sz : ∀ r, r ∈ p → ∀ q, q ∈ r → Go.V.sz q ≤ m
theorem MtSz.len {p : Mt} {m : Nat} (h : MtSz p m) {i : Nat} (hi : i < p.length) : (p.getD i []).length = p.length := h.sq _ (getD_mem hi)
end Go.V
namespace Go.V
open Go.Proofs Go.RowKit
set_option maxRecDepth 10000
set_option maxHeartbeats 1000000
end Go.V
namespace Go.V
open Go.Proofs Go.RowKit
set_option maxRecDepth 10000
set_option maxHeartbeats 1000000
end Go.V
namespace Go.V
open Go.Proofs Go.RowKit
set_option maxRecDepth 10000
set_option maxHeartbeats 1000000
abbrev Tss := List (List (List UInt8))
def ixF : Nat → List Nat → List MC
 | _, [] => []
 | k, n :: ns => .r k 0 n :: ixF (k + 1) ns
theorem ixF_len : ∀ (k : Nat) (ns : List Nat), (ixF k ns).length = ns.length
 | _, [] => rfl
 | k, n :: ns => by simp [ixF, ixF_len (k + 1) ns]
theorem ixF_get : ∀ {k : Nat} {ns : List Nat} {i n : Nat}, i < ns.length → ns.getD i 0 = n → (ixF k ns)[i]? = some (.r (k + i) 0 n)
 | k, a :: ns, 0, n, _, e => by simp at e; subst e; rfl
 | k, a :: ns, i + 1, n, h, e => by
  show (ixF (k + 1) ns)[i]? = _
  rw [ixF_get (by simpa using h) (by simpa using e), show k + 1 + i = k + (i + 1) by omega]
end Go.V
namespace Go.V
open Go.Proofs Go.RowKit
set_option maxRecDepth 10000
set_option maxHeartbeats 1000000
theorem fn_eqSS (xs ys : Tss) (hl : xs.length ≤ 3000000) (hl' : ys.length ≤ 3000000) (hr : ∀ r, r ∈ xs → r.length ≤ 3000000) (hr' : ∀ r, r ∈ ys → r.length ≤ 3000000) :
  Fn Try.prog 15 [.d (.sl (cTT xs)), .d (.sl (cTT ys))] [] (B (decide (xs = ys))) [] := by
 refine Fn.intro (ks := [0,1,4,5,10,14,26]) hty rfl rfl rfl rfl rfl ?_
 conv => whnf
 rw [cTT_len, cTT_len]
 refine Br.mk (fun h => ?_) (fun h => ?_)
 ·have h : ¬ xs.length = ys.length := by simp at h; omega
  conv => whnf
  refine ⟨?_, trivial, rfl⟩
  rw [decide_eq_false fun e => h (by rw [e])]
 ·have hxy : xs.length = ys.length := by simp at h; omega
  conv => whnf
  refine VLoop.inv hty (S := Nat) (fun k => [(5, I k), (1, .d (.sl (cTT ys))), (0, .d (.sl (cTT xs)))]) (fun _ => []) (fun k => k ≤ xs.length ∧ xs.take k = ys.take k) (fun k => xs.length - k) 0 ⟨Nat.zero_le _, rfl⟩
   ⟨rfl, rfl, rfl, trivial⟩ trivial ?_
  rintro k ⟨hk, hp⟩
  conv => whnf
  rw [cTT_len]
  refine Br.mk (fun h => ?_) (fun h => ?_)
  ·have hk' : k < xs.length := by simp at h; omega
   obtain ⟨x, ex⟩ : ∃ x, xs.getD k [] = x := ⟨_, rfl⟩
   obtain ⟨y, ey⟩ : ∃ y, ys.getD k [] = y := ⟨_, rfl⟩
   have ex' : xs[k] = x := by rw [← ex, List.getD_eq_getElem?_getD, List.getElem?_eq_getElem hk']; rfl
   have ey' : ys[k]'(by omega) = y := by rw [← ey, List.getD_eq_getElem?_getD, List.getElem?_eq_getElem (by omega)]; rfl
   have c := fn_eqS x y (hr x (by rw [← ex]; exact getD_mem hk')) (hr' y (by rw [← ey]; exact getD_mem (by omega)))
   conv => whnf
   refine VDraw.go hmo hty 10 [] rfl ?_
   conv => whnf
   refine ⟨⟨⟨by omega, by rw [cTT_len]; omega⟩, cTT_sz _⟩, ?_⟩
   conv => whnf
   refine ⟨_, cTT_as hk' ex, ?_⟩
   conv => whnf
   refine ⟨⟨⟨by omega, by rw [cTT_len]; omega⟩, cTT_sz _⟩, ?_⟩
   conv => whnf
   refine ⟨_, cTT_as (by omega) ey, ?_⟩
   conv => whnf
   refine QCall.of_data c (nd _) ?_
   conv => whnf
   by_cases h2 : x = y
   ·rw [decide_eq_true h2]
    conv => whnf
    refine Wr.fit (wrap_i64 (by omega) (by omega)) ?_
    conv => whnf
    refine ⟨k + 1, ⟨hk', ?_⟩, by omega, ⟨rfl, rfl, rfl, trivial⟩, trivial⟩
    rw [List.take_succ_eq_append_getElem hk', List.take_succ_eq_append_getElem (by omega), hp, ex', ey', h2]
   ·rw [decide_eq_false h2]
    conv => whnf
    refine ⟨?_, trivial, rfl⟩
    rw [decide_eq_false fun e => h2 (by subst e; exact ex.symm.trans ey)]
  ·have hk' : k = xs.length := by simp at h; omega
   conv => whnf
   refine ⟨?_, trivial, rfl⟩
   subst hk'
   rw [List.take_length, List.take_of_length_le (by omega)] at hp
   rw [decide_eq_true hp]
theorem matD_ixF (R : List (List (List C))) : ∀ (k : Nat) (ns : List Nat) (vis : Tss), ns.length = vis.length → (∀ i, i < ns.length → ((R.getD (k + i) []).drop 0).take (ns.getD i 0) = cT (vis.getD i [])) → matD R (ixF k ns) = cTT vis
 | k, [], [], _, _ => rfl
 | k, [], _ :: _, h, _ => by simp at h
 | k, _ :: _, [], h, _ => by simp at h
 | k, n :: ns, v :: vis, h, hi => by
  have h0 := hi 0 (by simp)
  have ih := matD_ixF R (k + 1) ns vis (by simpa using h) fun i hh => by
   have := hi (i + 1) (by simp; omega)
   rw [show k + 1 + i = k + (i + 1) by omega]
   simpa using this
  show [C.sl (((R.getD k []).drop 0).take n)] :: matD R (ixF (k + 1) ns) = [C.sl (cT v)] :: cTT vis
  rw [ih]
  have h0' : ((R.getD k []).drop 0).take n = cT v := h0
  rw [h0']
theorem ixF_mem : ∀ {k : Nat} {ns : List Nat} {i lo n : Nat}, MC.r i lo n ∈ ixF k ns → lo = 0 ∧ k ≤ i ∧ i - k < ns.length ∧ n = ns.getD (i - k) 0
 | k, [], i, lo, n, h => by cases h
 | k, a :: ns, i, lo, n, h => by
  rcases List.mem_cons.1 h with h | h
  ·cases h; exact ⟨rfl, Nat.le_refl _, by simp, by simp⟩
  ·obtain ⟨h1, h2, h3, h4⟩ := ixF_mem (k := k + 1) h
   refine ⟨h1, by omega, by simp; omega, ?_⟩
   rw [h4, show i - k = (i - (k + 1)) + 1 by omega]; simp
theorem matIn_ixF {R : List (List (List C))} {ns : List Nat} (h : ∀ i, i < ns.length → ns.getD i 0 ≤ (R.getD i []).length) : matIn R (ixF 0 ns) := fun i lo n hm => by
 obtain ⟨rfl, _, h3, rfl⟩ := ixF_mem hm
 have := h i (by simpa using h3)
 simpa using this
theorem getD_map_cT (R : Tss) (i : Nat) : (R.map cT).getD i [] = cT (R.getD i []) := by
 rw [List.getD_eq_getElem?_getD, List.getD_eq_getElem?_getD, List.getElem?_map]
 cases R[i]? <;> rfl
theorem lend1_mat {l : LL} {id lo n sz : Nat} {ix : List MC} {rows : List (List (List C))} {r : List (List C)} (h : lget id l = .mat sz ix rows) (h1 : n + lo ≤ ix.length) (h2 : matIn rows ix) (h3 : ((matD rows ix).drop lo).take n = r) : lend1 l (.ls id lo n 1) (.d (.sl r)) := by
 show (match lget id l with
  | .row _ sz' rows => 1 = sz' ∧ n + lo ≤ rows.length ∧ (rows.drop lo).take n = r
  | .mat _ ix rows => 1 = 1 ∧ n + lo ≤ ix.length ∧ matIn rows ix ∧ ((matD rows ix).drop lo).take n = r
  | _ => False)
 rw [h]
 exact ⟨rfl, h1, h2, h3⟩
end Go.V
namespace Go.V
open Go.Proofs Go.RowKit
set_option maxRecDepth 10000
set_option maxHeartbeats 1000000
end Go.V
namespace Go.V
open Go.Proofs Go.RowKit
end Go.V
namespace Go.V
open Go.Proofs Go.RowKit
set_option maxRecDepth 10000
set_option maxHeartbeats 1000000
end Go.V
namespace Go.V
open Go.Proofs Go.RowKit
set_option maxRecDepth 10000
set_option maxHeartbeats 1000000
end Go.V
namespace Go.V
open Go.Proofs Go.RowKit
set_option maxRecDepth 10000
set_option maxHeartbeats 1000000
end Go.V
namespace Go.V
open Go.Proofs Go.RowKit
set_option maxRecDepth 10000
set_option maxHeartbeats 1000000
end Go.V
namespace Go.V
open Go.Proofs Go.RowKit
set_option maxRecDepth 10000
set_option maxHeartbeats 1000000
end Go.V
namespace Go.V
open Go.Proofs Go.RowKit
set_option maxRecDepth 10000
set_option maxHeartbeats 1000000
end Go.V
namespace Go.V
open Go.Proofs Go.RowKit
set_option maxRecDepth 10000
set_option maxHeartbeats 1000000
end Go.V
namespace Go.V
open Go.Proofs Go.RowKit
set_option maxRecDepth 10000
set_option maxHeartbeats 1000000
theorem map_set {α : Type} {n i : Nat} (f g : Nat → α) (he : ∀ k, k ≠ i → f k = g k) : ((List.range n).map f).set i (g i) = (List.range n).map g := by
 apply List.ext_getElem (by simp)
 intro k h1 h2
 rw [List.getElem_set]
 simp only [List.getElem_map, List.getElem_range]
 by_cases e : i = k
 ·rw [if_pos e, e]
 ·rw [if_neg e, he k (Ne.symm e)]
end Go.V
namespace Go.V
open Go.Proofs Go.RowKit
set_option maxRecDepth 10000
set_option maxHeartbeats 1000000
end Go.V
