/- Part 9: the abstract machine, its soundness, contracts of functions. -/
import Derived.Test.YtnohbinebhhlpaaGreatDoorK8
set_option linter.unusedVariables false
set_option linter.unusedSimpArgs false
namespace Go.V
open Go.Proofs Go.RowKit
set_option maxRecDepth 10000
set_option maxHeartbeats 1000000
def spareB (n m : Nat) : List Bool := (List.range m).map fun j => decide (((n + j : Nat) : Int).tmod 2 = 0)
theorem spareB_len (n m : Nat) : (spareB n m).length = m := by simp [spareB]
def withRoomB (xs : List Bool) : List Bool := xs ++ spareB xs.length (room xs.length)
theorem fn_toBo (xs : List Bool) (b : Bool) (hb : b = false ∨ xs ≠ []) (hl : xs.length ≤ 1000000) :
  Fn Tryz.prog 22 [lBo xs, B b] [] (.ls 0 0 xs.length 1) [(0, .row true 1 (cBo (withRoomB xs)))] := by
 have hr := room_le xs.length
 generalize hm : room xs.length = m at hr
 have hwl : withRoomB xs = xs ++ spareB xs.length m := by rw [withRoomB, hm]
 have k1 : (xs ++ List.replicate m false).length = (List.replicate (xs.length + m) false).length := by simp
 have k2 : (xs ++ spareB xs.length m).length = (xs ++ List.replicate m false).length := by simp [spareB_len]
 have k3 : (xs ++ spareB xs.length m).length = xs.length + m := by simp [spareB_len]
 have c1 := fn_room xs.length hl
 rw [hm] at c1
 refine Fn.intro (ks := [0,1,4,5,6,7,13,24,39]) hty rfl rfl rfl rfl rfl ?_
 cases b
 case' true =>
  conv => whnf
  refine Br.mk (fun h => absurd h ?_) (fun _ => ?_)
  ·have hne : xs ≠ [] := by rcases hb with hb | hb; cases hb; exact hb
   have := List.length_pos_iff.2 hne
   rw [cBo_len]; simp; exact hne
 all_goals
  clear hb
  conv => whnf
  rw [cBo_len]
  refine VCall.of_data c1 (nd _) ?_
  conv => whnf
  refine Wr.fit (wrap_i64 (by omega) (by omega)) ?_
  conv => whnf
  refine ⟨⟨by omega, by omega, by show ((xs.length : Int) + m) * ((1 : Nat) : Int) ≤ _; omega, by omega⟩, ?_⟩
  conv => whnf
  refine VLoop.inv hty (S := Nat) (fun k => [(6, I k), (5, .ls 20 0 (xs.length + m) 1), (0, lBo xs)])
   (fun k => [(20, .row true 1 (cBo (fillL (xs ++ List.replicate m false) (List.replicate (xs.length + m) false) k)))]) (fun k => k ≤ xs.length) (fun k => xs.length - k) 0 (Nat.zero_le _)
   ⟨rfl, by show AV.ls _ _ _ _ = _; congr 1, rfl, trivial⟩ ⟨by show Ob.row true 1 (List.replicate ((xs.length : Int) + m).toNat [.s (.bool false)]) = _; rw [fill_zero, show ((xs.length : Int) + m).toNat = xs.length + m by omega]; simp only [cBo, List.map_replicate], trivial⟩ ?_
  intro k hk
  conv => whnf
  rw [cBo_len]
  refine Br.mk (fun h => ?_) (fun h => ?_)
  ·have hk' : k < xs.length := by simp at h; omega
   conv => whnf
   refine ⟨⟨⟨by omega, by rw [cBo_len]; omega⟩, cBo_sz xs⟩, ?_⟩
   conv => whnf
   refine ⟨[.s (.bool xs[k])], by simp [cBo, hk'], ?_⟩
   conv => whnf
   refine ⟨by omega, ?_⟩
   conv => whnf
   refine ⟨[.s (.bool (fillL (xs ++ List.replicate m false) (List.replicate (xs.length + m) false) k)[k]!)], by
    have : k < (fillL (xs ++ List.replicate m false) (List.replicate (xs.length + m) false) k).length := by rw [fill_len k1]; simp; omega
    simp [cBo, this], ?_⟩
   conv => whnf
   refine Wr.fit (wrap_i64 (by omega) (by omega)) ?_
   conv => whnf
   refine ⟨k + 1, hk', by omega, ⟨rfl, rfl, rfl, trivial⟩, ?_, trivial⟩
   show Ob.row true 1 ((cBo _).set k [.s (.bool xs[k])]) = _
   rw [cBo_set, ← fill_set k1 (by simp; omega)]
   congr 3
   rw [List.getElem_append_left hk']
  ·have hk' : k = xs.length := by simp at h; omega
   subst hk'
   conv => whnf
   rw [cBo_len]
   have e0 : fillL (xs ++ List.replicate m false) (List.replicate (xs.length + m) false) xs.length = fillL (xs ++ spareB xs.length m) (xs ++ List.replicate m false) xs.length := by
    simp [fillL]
   rw [e0]
   refine VLoop.inv hty (S := Nat) (fun k => [(7, I k), (5, .ls 20 0 (xs.length + m) 1), (0, lBo xs)])
    (fun k => [(20, .row true 1 (cBo (fillL (xs ++ spareB xs.length m) (xs ++ List.replicate m false) k)))]) (fun k => xs.length ≤ k ∧ k ≤ xs.length + m) (fun k => xs.length + m - k) xs.length ⟨Nat.le_refl _, by omega⟩
    ⟨rfl, rfl, rfl, trivial⟩ ⟨rfl, trivial⟩ ?_
   rintro k ⟨hk1, hk2⟩
   conv => whnf
   refine Br.mk (fun h => ?_) (fun h => ?_)
   ·have hk' : k < xs.length + m := by simp at h; omega
    conv => whnf
    refine ⟨by omega, ?_⟩
    conv => whnf
    refine ⟨by omega, ?_⟩
    conv => whnf
    refine ⟨[.s (.bool (fillL (xs ++ spareB xs.length m) (xs ++ List.replicate m false) k)[k]!)], by
     have : k < (fillL (xs ++ spareB xs.length m) (xs ++ List.replicate m false) k).length := by rw [fill_len k2, k3]; exact hk'
     simp [cBo, this], ?_⟩
    conv => whnf
    refine Wr.fit (wrap_i64 (by omega) (by omega)) ?_
    conv => whnf
    refine ⟨k + 1, ⟨by omega, by omega⟩, by omega, ⟨rfl, rfl, rfl, trivial⟩, ?_, trivial⟩
    show Ob.row true 1 ((cBo _).set k [.s (.bool (decide ((k : Int).tmod 2 = 0)))]) = _
    rw [cBo_set, ← fill_set k2 (by rw [k3]; omega)]
    congr 3
    rw [List.getElem_append_right (by omega)]
    simp only [spareB, List.getElem_map, List.getElem_range]
    rw [show xs.length + (k - xs.length) = k by omega]
   ·have hk' : k = xs.length + m := by simp at h; omega
    subst hk'
    conv => whnf
    rw [cBo_len, fill_end k2 (by rw [k3]; exact Nat.le_refl _), ← hwl]
    refine ⟨⟨by omega, by omega, by rw [cBo_len, hwl, k3]; omega⟩, ?_⟩
    conv => whnf
    exact ⟨⟨rfl, rfl, rfl, rfl, by omega, rfl⟩, [], rfl, trivial, rfl⟩
theorem fn_toBo0 : Fn Tryz.prog 22 [lBo [], B true] [] (.d (.sl [])) [] := by
 refine Fn.intro (ks := [0,1,4,5,6,7,13,24,39]) hty rfl rfl rfl rfl rfl ?_
 conv => whnf
 exact ⟨trivial, rfl⟩
theorem fn_toBod (xs : List Bool) (b : Bool) (hl : xs.length ≤ 1000000) : Fn Tryz.prog 22 [lBo xs, B b] [] (lBo xs) [] := by
 by_cases h : b = false ∨ xs ≠ []
 ·have := (fn_toBo xs b h hl).freeze (by rw [cBo_len]; simp [withRoomB])
  have e : (List.drop 0 (cBo (withRoomB xs))).take xs.length = cBo xs := by simp [cBo, withRoomB]
  rwa [e] at this
 ·have hb : b = true := by cases b; exact absurd (.inl rfl) h; rfl
  have hx : xs = [] := Classical.byContradiction fun e => h (.inr e)
  subst hb; subst hx
  exact fn_toBo0
theorem fn_eqBo (xs : List Bool) (hl : xs.length ≤ 3000000) : Fn Tryz.prog 70 [lBo xs, lBo xs] [] (B true) [] := by
 have hz : ((cBo xs).length : Int) = xs.length := by rw [cBo_len]
 refine Fn.intro (ks := [0,1,4,5,10,14,25]) hty rfl rfl rfl rfl rfl ?_
 conv => whnf
 rw [hz, decide_eq_true (rfl : (xs.length : Int) = xs.length)]
 conv => whnf
 refine VLoop.inv hty (S := Nat) (fun k => [(5, I k), (1, lBo xs), (0, lBo xs)]) (fun _ => []) (fun k => k ≤ xs.length) (fun k => xs.length - k) 0 (Nat.zero_le _) ⟨rfl, rfl, rfl, trivial⟩ trivial ?_
 intro k hk
 conv => whnf
 rw [hz]
 refine Br.mk (fun h => ?_) (fun h => ?_)
 ·have h : k < xs.length := by simp only [decide_eq_true_eq] at h; omega
  obtain ⟨x, ex⟩ : ∃ x, xs.getD k false = x := ⟨_, rfl⟩
  conv => whnf
  refine VDraw.go hmo hty 9 [] rfl ?_
  conv => whnf
  refine ⟨⟨⟨by omega, by rw [cBo_len]; omega⟩, cBo_sz xs⟩, ?_⟩
  conv => whnf
  refine ⟨_, cBo_as h ex, ?_⟩
  conv => whnf
  refine ⟨⟨⟨by omega, by rw [cBo_len]; omega⟩, cBo_sz xs⟩, ?_⟩
  conv => whnf
  refine ⟨_, cBo_as h ex, ?_⟩
  conv => whnf
  rw [show (x == x) = true by cases x <;> rfl]
  conv => whnf
  refine Wr.i64 (y := ((k + 1 : Nat) : Int)) rfl (by omega) (by omega) ?_
  conv => whnf
  exact ⟨k + 1, h, by show xs.length - (k + 1) < xs.length - k; omega, ⟨rfl, rfl, rfl, trivial⟩, trivial⟩
 ·conv => whnf
  exact ⟨rfl, trivial, rfl⟩
theorem fn_intactBo (xs : List Bool) (hl : xs.length ≤ 1000000) :
  Fn Tryz.prog 24 [.ls 1000000 0 xs.length 1, .ls 1000001 0 xs.length 1] [(1000000, .row true 1 (cBo (withRoomB xs))), (1000001, .row true 1 (cBo (withRoomB xs)))] (B true)
   [(1000000, .row true 1 (cBo (withRoomB xs))), (1000001, .row true 1 (cBo (withRoomB xs)))] := by
 have hr := room_le xs.length
 have hw : (withRoomB xs).length = xs.length + room xs.length := by simp [withRoomB, spareB_len]
 refine Fn.intro (ks := [0,1,4,5]) hty rfl rfl rfl rfl rfl ?_
 conv => whnf
 refine VCall.of_data (fn_room xs.length (by omega)) (nd _) ?_
 conv => whnf
 refine Wr.fit (wrap_i64 (by omega) (by omega)) ?_
 conv => whnf
 refine VDraw.go hmo hty 15 [] rfl ?_
 conv => whnf
 rw [decide_eq_true rfl]
 conv => whnf
 refine ⟨⟨by omega, by omega, by rw [cBo_len, hw]; omega⟩, ?_⟩
 conv => whnf
 refine ⟨⟨by omega, by omega, by rw [cBo_len, hw]; omega⟩, ?_⟩
 conv => whnf
 refine QCall.lend (fn_eqBo (withRoomB xs) (by omega)) ⟨⟨rfl, ?_, ?_⟩, ⟨rfl, ?_, ?_⟩, trivial⟩ rfl ?_
 iterate 2
  ·simp only [cBo_len, hw]; omega
  ·show ((cBo _).drop (Int.toNat 0 + 0)).take _ = _
   rw [List.take_of_length_le (by simp [cBo_len, hw]; omega)]; rfl
 conv => whnf
 exact ⟨rfl, ⟨rfl, rfl, trivial⟩, rfl⟩
def marksBo (k n : Nat) : List Bool := (List.range n).map fun i => decide (((k + i : Nat) : Int).tmod 3 = 0)
theorem marksBo_len (k n : Nat) : (marksBo k n).length = n := by simp [marksBo]
theorem fn_markBo (zs : List Bool) (n k0 : Nat) (hn : n ≤ zs.length) (hl : n ≤ 1000000) (hk0 : k0 ≤ 2000000000) :
  Fn Tryz.prog 25 [.ls 1000000 0 n 1, I k0] [(1000000, .row true 1 (cBo zs))] (I ((k0 + n : Nat) : Int)) [(1000000, .row true 1 (cBo (marksBo k0 n ++ zs.drop n)))] := by
 have k1 : (marksBo k0 n ++ zs.drop n).length = zs.length := by simp [marksBo_len]; omega
 refine Fn.intro (ks := [0,1,4,5,9]) hty rfl rfl rfl rfl rfl ?_
 conv => whnf
 refine VLoop.inv hty (S := Nat) (fun k => [(5, I k), (1, I ((k0 + k : Nat) : Int)), (0, .ls 1000000 0 n 1)]) (fun k => [(1000000, .row true 1 (cBo (fillL (marksBo k0 n ++ zs.drop n) zs k)))]) (fun k => k ≤ n) (fun k => n - k) 0 (Nat.zero_le _)
  ⟨rfl, rfl, rfl, trivial⟩ ⟨by rw [fill_zero]; rfl, trivial⟩ ?_
 intro k hk
 conv => whnf
 refine Br.mk (fun h => ?_) (fun h => ?_)
 ·have hk' : k < n := by simp at h; omega
  conv => whnf
  refine ⟨by omega, ?_⟩
  conv => whnf
  refine ⟨by omega, ?_⟩
  conv => whnf
  refine ⟨[.s (.bool (fillL (marksBo k0 n ++ zs.drop n) zs k)[k]!)], by
   have : k < (fillL (marksBo k0 n ++ zs.drop n) zs k).length := by rw [fill_len k1]; omega
   simp [cBo, this], ?_⟩
  conv => whnf
  refine Wr.fit (wrap_i64 (by omega) (by omega)) ?_
  conv => whnf
  refine Wr.fit (wrap_i64 (by omega) (by omega)) ?_
  conv => whnf
  refine ⟨k + 1, hk', by omega, ⟨rfl, by congr 1, rfl, trivial⟩, ?_, trivial⟩
  show Ob.row true 1 ((cBo _).set k [.s (.bool _)]) = _
  rw [cBo_set, ← fill_set k1 (by omega)]
  congr 3
  rw [List.getElem_append_left (by rw [marksBo_len]; exact hk')]; simp [marksBo]
 ·have hk' : k = n := by simp at h; omega
  subst hk'
  conv => whnf
  refine ⟨rfl, ⟨?_, trivial⟩, rfl⟩
  have : fillL (marksBo k0 k ++ zs.drop k) zs k = marksBo k0 k ++ zs.drop k := by
   unfold fillL; rw [List.take_append_of_le_length (by simp [marksBo_len]), List.take_of_length_le (by simp [marksBo_len])]
  rw [this]; rfl
theorem lend_wholeBo {id : Nat} {l : LL} {xs ys : List Bool} (h : lget id l = .row true 1 (cBo (xs ++ ys))) : lend1 l (.ls id 0 xs.length 1) (lBo xs) := by
 unfold lend1
 simp only [h]
 exact ⟨trivial, by simp [cBo], by simp [cBo]⟩
theorem lend_roomBo {id : Nat} {l : LL} {xs : List Bool} (h : lget id l = .row true 1 (cBo (withRoomB xs))) : lend1 l (.ls id 0 xs.length 1) (lBo xs) := lend_wholeBo h
theorem fit_bools {c : C} (h : Fit c (.sl [.b])) : ∃ xs : List Bool, c = .sl (cBo xs) ∧ xs.length < 2 ^ 47 ∧ True := by
 cases h with
 | sl rows _ h hl hf =>
  have key : ∀ rows : List (List C), (∀ r, r ∈ rows → r.length = 1) → (∀ r, r ∈ rows → ∀ (i : Nat) c k, r[i]? = some c → ([K.b] : List K)[i]? = some k → Fit c k) → ∃ xs : List Bool, rows = cBo xs := by
   intro rows
   induction rows with
   | nil => intro _ _; exact ⟨[], rfl⟩
   | cons r rs ih =>
    intro h1 h2
    obtain ⟨xs, e⟩ := ih (fun r hr => h1 r (List.mem_cons_of_mem _ hr)) fun r hr => h2 r (List.mem_cons_of_mem _ hr)
    have hr := h1 r (by simp)
    have hf := h2 r (by simp)
    match r, hr, hf with
    | [a], _, hf =>
     obtain ⟨b, rfl⟩ := fit_bool (hf 0 a _ rfl rfl)
     exact ⟨b :: xs, by rw [e]; rfl⟩
  obtain ⟨xs, e⟩ := key rows hl hf
  subst e
  exact ⟨xs, rfl, by have := reach_lt; rw [cBo_len] at h; omega, trivial⟩
theorem namesBo {n : Nat} {R : List (List C)} : namesIn [(0, .row true 1 R)] (.ls 0 0 n 1) := fun j hj => by
 have : 0 = j := Nat.eq_of_beq_eq_true hj
 rw [lget_cons, if_pos this.symm]; simp
end Go.V
namespace Go.V
open Go.Proofs Go.RowKit
set_option maxRecDepth 10000
set_option maxHeartbeats 1000000
theorem planO_len {r : Int} {a b c d : List UInt8} {acts : List Bool} {n : Int} {ts : List (List UInt8)} (h : planO r a b c d acts n = some ts) : ts.length ≤ 9 := by
 unfold planO at h
 cases hm : actQ r a b c d acts with
 | none => rw [hm] at h; cases h
 | some m =>
  rw [hm] at h
  simp only [Option.bind_some] at h
  split at h
  ·have h1 := toldTs_len h
   rw [runQ_len] at h1
   have := (actQ_ok hm).1.r2
   omega
  ·cases h
theorem law_valueOfPlan (r : Int) (a b c d : List UInt8) (acts : List Bool) (n : Int) (ha : a.length < 2 ^ 47) (hb : b.length < 2 ^ 47) (hc : c.length < 2 ^ 47) (hd : d.length < 2 ^ 47) (hx : acts.length < 2 ^ 47) : Fn Tryz.prog 4 [mdI r a b c d, lBo acts, I n] [] (B true) [] := by
 have hz : ((cBo acts).length : Int) = acts.length := by rw [cBo_len]
 have c0 := fn_szModel r a b c d (1000000 - acts.length) ha hb hc hd (by omega) (by omega)
 have cm := fn_toModel r a b c d
 refine Fn.intro (ks := [0,1,2,3,6,7,8,9,10,11,12,13,14,15,16,17,25,53,58,74,82,85,103,108,111]) hty rfl rfl rfl rfl rfl ?_
 conv => whnf
 rw [hz]
 refine Wr.i64 (y := 1000000 - (acts.length : Int)) rfl (by omega) (by omega) ?_
 conv => whnf
 refine VCall.of_data c0 (nd _) ?_
 obtain ⟨m, em⟩ : ∃ m, szMd (1000000 - acts.length) a b c d = m := ⟨_, rfl⟩
 rw [em]
 conv => whnf
 refine Br.mk (fun h => ?_) (fun h => ?_)
 ·conv => whnf
  exact ⟨rfl, trivial, rfl⟩
 ·have h : 0 ≤ m := by simpa using h
  have hi := szMd_in (em ▸ h) (by omega)
  have hl : acts.length ≤ 1000000 := by
   rw [← em] at h
   unfold szMd at h
   split at h
   ·omega
   ·omega
  have cs := fn_sValueOfPlan r a b c d hi acts n
  have ci := fn_ValueOfPlan r a b c d hi acts n
  have ct := fn_toBo acts false (.inl rfl) hl
  have cx := fn_intactBo acts hl
  have ck := fn_markBo (withRoomB acts) acts.length 101 (by simp [withRoomB]) hl (by omega)
  obtain ⟨zm, ezm⟩ : ∃ z : Int, ((101 + acts.length : Nat) : Int) = z := ⟨_, rfl⟩
  have dzm : decide (zm < 0) = false := decide_eq_false (by omega)
  rw [ezm] at ck
  clear c0 em ezm
  conv => whnf
  refine VCall.of_data cm (ndA fun k => rfl) ?_
  conv => whnf
  refine VCall.of_data (fn_toBod acts false hl) (nd _) ?_
  conv => whnf
  cases hr : planO r a b c d acts n with
  | none =>
   rw [hr] at cs ci
   replace cs : Fn Tryz.prog 21 [mdI r a b c d, lBo acts, I n] [] (.tup [.d (.sl []), B false]) [] := cs
   replace ci : Fn Tryz.prog 23 [mdI r a b c d, lBo acts, I n] [] (.tup [.d (.sl []), B false]) [] := ci
   have ch := fn_heldT 0 101 (by omega) (by omega)
   rw [show cT (marksT 101 0) = [] from rfl] at ch
   refine VCall.of_data cs (ndT fun _ => rfl) ?_
   conv => whnf
   refine VCall.of_fn (k := 36) ct namesBo rfl ?_
   conv => whnf
   refine VCall.of_data cm (ndA fun k => rfl) ?_
   conv => whnf
   refine VCall.lend ci ⟨⟨rfl, rfl, rfl, rfl, rfl, trivial⟩, lend_roomBo rfl, rfl, trivial⟩ rfl ?_
   conv => whnf
   refine VCall.of_data (fn_eqST [] (by simp)) (nd _) ?_
   conv => whnf
   refine VCall.of_fn (k := 56) ct namesBo rfl ?_
   conv => whnf
   refine VCall.parN [(1000000, 36), (1000001, 56)] cx ⟨⟨rfl, rfl, rfl, rfl⟩, ⟨rfl, rfl, rfl, rfl⟩, trivial⟩ ⟨⟨rfl, rfl⟩, ⟨rfl, rfl⟩, trivial⟩ rfl rfl rfl rfl ?_
   conv => whnf
   refine VCall.par1 36 ck ⟨⟨rfl, rfl, rfl, rfl⟩, rfl, trivial⟩ rfl ?_
   conv => whnf
   rw [dzm]
   conv => whnf
   refine VCall.of_data (fn_eqST [] (by simp)) (nd _) ?_
   conv => whnf
   refine VCall.of_data (fn_markT0 101) (nd _) ?_
   conv => whnf
   refine VCall.of_data ch (nd _) ?_
   conv => whnf
   refine VCall.of_data cm (ndA fun k => rfl) ?_
   conv => whnf
   refine VCall.of_data (fn_toBod acts true hl) (nd _) ?_
   conv => whnf
   refine VCall.of_data ci (ndT fun _ => rfl) ?_
   conv => whnf
   refine VCall.of_data (fn_eqST [] (by simp)) (nd _) ?_
   conv => whnf
   refine VCall.of_data ch (nd _) ?_
   conv => whnf
   exact ⟨rfl, trivial, rfl⟩
  | some ts =>
   have hn := planO_len hr
   rw [hr] at cs ci
   replace cs : Fn Tryz.prog 21 [mdI r a b c d, lBo acts, I n] [] (.tup [.ls 0 0 ts.length 1, B true]) [(0, .row true 1 (cT ts))] := cs
   replace ci : Fn Tryz.prog 23 [mdI r a b c d, lBo acts, I n] [] (.tup [.ls 0 0 ts.length 1, B true]) [(0, .row true 1 (cT ts))] := ci
   have et : (List.drop 0 (cT ts)).take ts.length = cT ts := by rw [List.drop_zero, List.take_of_length_le (by rw [cT_len]; omega)]
   have c1 := cs.freezeT (by rw [cT_len]; omega) rfl
   rw [et] at c1
   have c2 := ci.freezeT (by rw [cT_len]; omega) rfl
   rw [et] at c2
   have c3 := fn_eqST ts (by omega)
   have hf : ∀ q, q ∈ cT ts → ∀ c, c ∈ q → flatC c = true := cT_flat ts
   have ch := fn_heldT ts.length 101 (by omega) (by omega)
   have cg := fn_markT ts ts.length 101 (Nat.le_refl _) (by omega) (by omega)
   obtain ⟨z2, ez2⟩ : ∃ z : Int, ((101 + ts.length : Nat) : Int) = z := ⟨_, rfl⟩
   have dz2 : decide (z2 < 0) = false := decide_eq_false (by omega)
   rw [ez2] at ch cg
   have hm : ∀ l : LL, lget 42 l = .row true 1 (cT (marksT 101 ts.length ++ List.drop ts.length ts)) → lend1 l (.ls 42 0 ts.length 1) (.d (.sl (cT (marksT 101 ts.length)))) := fun l h => by
    have := lend_wholeT (xs := marksT 101 ts.length) h
    rwa [marksT_len] at this
   clear cs hr ez2
   refine VCall.of_data c1 (ndT fun _ => rfl) ?_
   conv => whnf
   refine VCall.of_fn (k := 36) ct namesBo rfl ?_
   conv => whnf
   refine VCall.of_data cm (ndA fun k => rfl) ?_
   conv => whnf
   refine VCall.lendT (k := 42) ci ⟨⟨rfl, rfl, rfl, rfl, rfl, trivial⟩, lend_roomBo rfl, rfl, trivial⟩ hf rfl rfl ?_
   conv => whnf
   refine VCall.lend c3 ⟨lend_allT rfl rfl, rfl, trivial⟩ rfl ?_
   conv => whnf
   refine VCall.of_fn (k := 56) ct namesBo rfl ?_
   conv => whnf
   refine VCall.parN [(1000000, 36), (1000001, 56)] cx ⟨⟨rfl, rfl, rfl, rfl⟩, ⟨rfl, rfl, rfl, rfl⟩, trivial⟩ ⟨⟨rfl, rfl⟩, ⟨rfl, rfl⟩, trivial⟩ rfl rfl rfl rfl ?_
   conv => whnf
   refine VCall.par1 36 ck ⟨⟨rfl, rfl, rfl, rfl⟩, rfl, trivial⟩ rfl ?_
   conv => whnf
   rw [dzm]
   conv => whnf
   refine VCall.lend c3 ⟨lend_allT rfl rfl, rfl, trivial⟩ rfl ?_
   conv => whnf
   refine VCall.par1 42 cg ⟨⟨rfl, rfl, rfl, rfl⟩, rfl, trivial⟩ rfl ?_
   conv => whnf
   refine VCall.lend ch ⟨hm _ rfl, rfl, trivial⟩ rfl ?_
   conv => whnf
   rw [dz2]
   conv => whnf
   rw [decide_eq_true (rfl : z2 = z2)]
   conv => whnf
   refine VCall.of_data cm (ndA fun k => rfl) ?_
   conv => whnf
   refine VCall.of_data (fn_toBod acts true hl) (nd _) ?_
   conv => whnf
   refine VCall.of_data c2 (ndT fun _ => rfl) ?_
   conv => whnf
   refine VCall.of_data c3 (nd _) ?_
   conv => whnf
   refine VCall.lend ch ⟨hm _ rfl, rfl, trivial⟩ rfl ?_
   conv => whnf
   rw [dz2]
   conv => whnf
   rw [decide_eq_true (rfl : z2 = z2)]
   conv => whnf
   exact ⟨rfl, trivial, rfl⟩
end Go.V
