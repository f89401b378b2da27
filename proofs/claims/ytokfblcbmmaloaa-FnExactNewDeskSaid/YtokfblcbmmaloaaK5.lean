/- Part 5: the abstract machine, its soundness, contracts of functions. -/
import Derived.Test.YtokfblcbmmaloaaK4
set_option linter.unusedVariables false
set_option linter.unusedSimpArgs false
namespace Go.V
open Go.Proofs Go.RowKit
set_option maxRecDepth 10000
set_option maxHeartbeats 1000000
theorem fn_eqChain (xs : Tss) (hl : xs.length ≤ 3000000) (hr : ∀ r, r ∈ xs → r.length ≤ 3000000) : Fn Try.prog 9 [chI xs, chI xs] [] (B true) [] := by
 have c := fn_eqSS xs xs hl hl hr hr
 rw [decide_eq_true rfl] at c
 refine Fn.intro (ks := [0,1,2,3,4,10]) hty rfl rfl rfl rfl rfl ?_
 conv => whnf
 refine VCall.of_data c (nd _) ?_
 conv => whnf
 exact ⟨rfl, trivial, rfl⟩
noncomputable def mkR : Nat → List Nat → Tss → Tss
 | _, [], R => R
 | _, _ :: _, [] => []
 | k, n :: ns, r :: R => (marksT k n ++ r.drop n) :: mkR (k + n) ns R
noncomputable def mkM : Nat → List Nat → Tss
 | _, [] => []
 | k, n :: ns => marksT k n :: mkM (k + n) ns
theorem mkR_len : ∀ (k : Nat) (ns : List Nat) (R : Tss), (mkR k ns R).length = R.length
 | _, [], _ => rfl
 | _, _ :: _, [] => rfl
 | k, n :: ns, r :: R => by simp [mkR, mkR_len (k + n) ns R]
theorem mkM_len : ∀ (k : Nat) (ns : List Nat), (mkM k ns).length = ns.length
 | _, [] => rfl
 | k, n :: ns => by simp [mkM, mkM_len (k + n) ns]
theorem mkR_snoc : ∀ (k : Nat) (ns : List Nat) (R : Tss) (n : Nat), ns.length < R.length →
  mkR k (ns ++ [n]) R = (mkR k ns R).set ns.length (marksT (k + ns.sum) n ++ (R.getD ns.length []).drop n)
 | k, [], [], n, h => by simp at h
 | k, [], r :: R, n, _ => by simp [mkR]
 | k, m :: ns, [], n, h => by simp at h
 | k, m :: ns, r :: R, n, h => by
  have ih := mkR_snoc (k + m) ns R n (by simpa using h)
  show (marksT k m ++ r.drop m) :: mkR (k + m) (ns ++ [n]) R = _
  rw [ih]
  simp [mkR, Nat.add_assoc]
theorem mkR_at : ∀ (k : Nat) (ns : List Nat) (R : Tss) (i : Nat), ns.length ≤ i → (mkR k ns R).getD i [] = R.getD i []
 | k, [], R, i, _ => rfl
 | k, m :: ns, [], i, _ => rfl
 | k, m :: ns, r :: R, 0, h => by simp at h
 | k, m :: ns, r :: R, i + 1, h => by
  have := mkR_at (k + m) ns R i (by simpa using h)
  simpa [mkR] using this
theorem mkM_at : ∀ (k : Nat) (ns : List Nat) (i n : Nat), i < ns.length → ns.getD i 0 = n → (mkM k ns).getD i [] = marksT (k + (ns.take i).sum) n
 | k, [], i, n, h, _ => by simp at h
 | k, m :: ns, 0, n, _, e => by simp at e; subst e; simp [mkM]
 | k, m :: ns, i + 1, n, h, e => by
  have := mkM_at (k + m) ns i n (by simpa using h) (by simpa using e)
  simp [mkM] at this ⊢
  rw [this, Nat.add_assoc]
theorem take_snoc {ns : List Nat} {j n : Nat} (h : j < ns.length) (e : ns.getD j 0 = n) : ns.take (j + 1) = ns.take j ++ [n] := by
 rw [List.take_succ_eq_append_getElem h, ← e, List.getD_eq_getElem?_getD, List.getElem?_eq_getElem h]; rfl
theorem take_sum_le : ∀ (ns : List Nat) (i j : Nat), i ≤ j → (ns.take i).sum ≤ (ns.take j).sum
 | [], i, j, _ => by simp
 | m :: ns, 0, j, _ => by simp
 | m :: ns, i + 1, 0, h => by omega
 | m :: ns, i + 1, j + 1, h => by
  have := take_sum_le ns i j (by omega)
  simp; exact this
theorem fn_markSS (R : Tss) (ns : List Nat) (n k0 : Nat) (hn : n ≤ ns.length) (hl : ns.length = R.length) (hn2 : n ≤ 1000000) (hb : ∀ i, i < n → ns.getD i 0 ≤ (R.getD i []).length ∧ ns.getD i 0 ≤ 1000000) (hk : k0 + (ns.take n).sum ≤ 2000000000) :
  Fn Try.prog 17 [.ls 1000000 0 n 1, I k0] [(1000000, .mat 1 (ixF 0 ns) (R.map cT))] (I ((k0 + (ns.take n).sum : Nat) : Int)) [(1000000, .mat 1 (ixF 0 ns) ((mkR k0 (ns.take n) R).map cT))] := by
 refine Fn.intro (ks := [0,1,4,5,9]) hty rfl rfl rfl rfl rfl ?_
 conv => whnf
 refine VLoop.inv hty (S := Nat) (fun j => [(5, I j), (1, I ((k0 + (ns.take j).sum : Nat) : Int)), (0, .ls 1000000 0 n 1)]) (fun j => [(1000000, .mat 1 (ixF 0 ns) ((mkR k0 (ns.take j) R).map cT))]) (fun j => j ≤ n) (fun j => n - j) 0 (Nat.zero_le _)
  ⟨rfl, rfl, rfl, trivial⟩ ⟨rfl, trivial⟩ ?_
 intro j hj
 conv => whnf
 refine Br.mk (fun h => ?_) (fun h => ?_)
 ·have h : j < n := by simp only [decide_eq_true_eq] at h; omega
  obtain ⟨m, em⟩ : ∃ m, ns.getD j 0 = m := ⟨_, rfl⟩
  obtain ⟨r, er⟩ : ∃ r, R.getD j [] = r := ⟨_, rfl⟩
  obtain ⟨b1, b2⟩ := hb j h
  rw [em, er] at b1
  rw [em] at b2
  have ex := ixF_get (k := 0) (ns := ns) (i := j) (n := m) (by omega) em
  rw [Nat.zero_add] at ex
  have hs := take_sum_le ns j n (by omega)
  have cm := fn_markT r m (k0 + (ns.take j).sum) b1 b2 (by omega)
  have htl : (ns.take j).length = j := by rw [List.length_take]; omega
  have ey : ((mkR k0 (ns.take j) R).map cT)[j]? = some (cT r) := by
   have := mkR_at k0 (ns.take j) R j (by omega)
   rw [er, List.getD_eq_getElem?_getD, List.getElem?_eq_getElem (by rw [mkR_len]; omega)] at this
   rw [List.getElem?_map, List.getElem?_eq_getElem (by rw [mkR_len]; omega)]
   simp at this
   simp [this]
  have et := take_snoc (by omega) em
  have es := mkR_snoc k0 (ns.take j) R m (by omega)
  rw [htl, er, ← et] at es
  conv => whnf
  refine ⟨by omega, ?_⟩
  conv => whnf
  refine ⟨_, ex, ?_⟩
  conv => whnf
  refine VCall.parM 1000000 j cm rfl ey ⟨⟨rfl, rfl, rfl, rfl, rfl, rfl⟩, rfl, trivial⟩ rfl ?_
  conv => whnf
  refine Wr.i64 (y := ((j + 1 : Nat) : Int)) rfl (by omega) (by omega) ?_
  conv => whnf
  refine ⟨j + 1, h, by show n - (j + 1) < n - j; omega, ⟨rfl, ?_, rfl, trivial⟩, ⟨?_, trivial⟩⟩
  ·show I _ = I _
   rw [et, List.sum_append]; simp [Nat.add_assoc]
  ·show Ob.mat 1 _ (List.set ((mkR k0 (ns.take j) R).map cT) j (cT _)) = Ob.mat 1 _ _
   rw [es, List.map_set]
 ·have h : j = n := by simp only [decide_eq_false_iff_not] at h; omega
  rw [h]
  conv => whnf
  exact ⟨rfl, ⟨rfl, trivial⟩, rfl⟩
theorem fn_markChain (R : Tss) (ns : List Nat) (n k0 : Nat) (hn : n ≤ ns.length) (hl : ns.length = R.length) (hn2 : n ≤ 1000000) (hb : ∀ i, i < n → ns.getD i 0 ≤ (R.getD i []).length ∧ ns.getD i 0 ≤ 1000000) (hk : k0 + (ns.take n).sum ≤ 2000000000) :
  Fn Try.prog 11 [.ag [.ls 1000000 0 n 1], I k0] [(1000000, .mat 1 (ixF 0 ns) (R.map cT))] (I ((k0 + (ns.take n).sum : Nat) : Int)) [(1000000, .mat 1 (ixF 0 ns) ((mkR k0 (ns.take n) R).map cT))] := by
 have c := fn_markSS R ns n k0 hn hl hn2 hb hk
 refine Fn.intro (ks := [0,1,2,4]) hty rfl rfl rfl rfl rfl ?_
 conv => whnf
 refine VCall.par1m 1000000 c ⟨⟨rfl, rfl, rfl, rfl⟩, rfl, trivial⟩ rfl ?_
 conv => whnf
 exact ⟨rfl, ⟨rfl, trivial⟩, rfl⟩
theorem fn_heldSS (ns : List Nat) (k0 : Nat) (hn2 : ns.length ≤ 1000000) (hb : ∀ i, i < ns.length → ns.getD i 0 ≤ 1000000) (hk : k0 + ns.sum ≤ 2000000000) :
  Fn Try.prog 18 [.d (.sl (cTT (mkM k0 ns))), I k0] [] (I ((k0 + ns.sum : Nat) : Int)) [] := by
 refine Fn.intro (ks := [0,1,4,5,9,19]) hty rfl rfl rfl rfl rfl ?_
 conv => whnf
 refine VLoop.inv hty (S := Nat) (fun j => [(5, I j), (1, I ((k0 + (ns.take j).sum : Nat) : Int)), (0, .d (.sl (cTT (mkM k0 ns))))]) (fun _ => []) (fun j => j ≤ ns.length) (fun j => ns.length - j) 0 (Nat.zero_le _)
  ⟨rfl, rfl, rfl, trivial⟩ trivial ?_
 intro j hj
 conv => whnf
 rw [cTT_len, mkM_len]
 refine Br.mk (fun h => ?_) (fun h => ?_)
 ·have h : j < ns.length := by simp only [decide_eq_true_eq] at h; omega
  obtain ⟨m, em⟩ : ∃ m, ns.getD j 0 = m := ⟨_, rfl⟩
  have b2 := hb j h
  rw [em] at b2
  have ex := mkM_at k0 ns j m h em
  have hs := take_sum_le ns j ns.length (by omega)
  rw [List.take_length] at hs
  have ch := fn_heldT m (k0 + (ns.take j).sum) b2 (by omega)
  have et := take_snoc h em
  have hs2 := take_sum_le ns (j + 1) ns.length (by omega)
  rw [List.take_length, et, List.sum_append] at hs2
  simp at hs2
  conv => whnf
  refine ⟨⟨⟨by omega, by rw [cTT_len, mkM_len]; omega⟩, cTT_sz _⟩, ?_⟩
  conv => whnf
  refine ⟨_, cTT_as (by rw [mkM_len]; exact h) ex, ?_⟩
  conv => whnf
  refine VCall.of_data ch (nd _) ?_
  conv => whnf
  rw [show decide (((k0 + (ns.take j).sum + m : Nat) : Int) < 0) = false from decide_eq_false (by omega)]
  conv => whnf
  refine Wr.i64 (y := ((j + 1 : Nat) : Int)) rfl (by omega) (by omega) ?_
  conv => whnf
  refine ⟨j + 1, h, by show ns.length - (j + 1) < ns.length - j; omega, ⟨rfl, ?_, rfl, trivial⟩, trivial⟩
  show I _ = I _
  rw [et, List.sum_append]; simp [Nat.add_assoc]
 ·have h : j = ns.length := by simp only [decide_eq_false_iff_not] at h; omega
  rw [h, List.take_length]
  conv => whnf
  exact ⟨rfl, trivial, rfl⟩
theorem fn_heldChain (ns : List Nat) (k0 : Nat) (hn2 : ns.length ≤ 1000000) (hb : ∀ i, i < ns.length → ns.getD i 0 ≤ 1000000) (hk : k0 + ns.sum ≤ 2000000000) :
  Fn Try.prog 13 [chI (mkM k0 ns), I k0] [] (I ((k0 + ns.sum : Nat) : Int)) [] := by
 have c := fn_heldSS ns k0 hn2 hb hk
 refine Fn.intro (ks := [0,1,2,4,10]) hty rfl rfl rfl rfl rfl ?_
 conv => whnf
 refine VCall.of_data c (nd _) ?_
 conv => whnf
 exact ⟨rfl, trivial, rfl⟩
end Go.V
namespace Go.V
open Go.Proofs Go.RowKit
set_option maxRecDepth 10000
set_option maxHeartbeats 1000000
abbrev tldO (ts : Tss) : Ob := .mat 1 (ixF 0 (ts.map List.length)) (ts.map cT)
theorem told_in (ts : Tss) : matIn (ts.map cT) (ixF 0 (ts.map List.length)) := matIn_ixF fun i hi => by
 rw [getD_map_cT, cT_len]
 have hi : i < ts.length := by simpa using hi
 rw [List.getD_eq_getElem?_getD, List.getD_eq_getElem?_getD, List.getElem?_eq_getElem (by simpa using hi), List.getElem?_eq_getElem hi]; simp
theorem told_data (vis : Tss) : matD (vis.map cT) (ixF 0 (vis.map List.length)) = cTT vis := matD_ixF _ 0 _ vis (by simp) fun i hi => by
 have hi : i < vis.length := by simpa using hi
 rw [Nat.zero_add, getD_map_cT, List.drop_zero, List.getD_eq_getElem?_getD (l := vis.map List.length), List.getElem?_eq_getElem (by simpa using hi), List.take_of_length_le]
 rw [cT_len, List.getD_eq_getElem?_getD, List.getElem?_eq_getElem hi]; simp
theorem lend_told {l : LL} {id : Nat} {ts : Tss} (h : lget id l = tldO ts) : lends1 l [.ls id 0 ts.length 1] [.d (.sl (cTT ts))] := by
 refine ⟨lend1_mat h (by rw [ixF_len, List.length_map]; omega) (told_in ts) ?_, trivial⟩
 rw [told_data, List.drop_zero, List.take_of_length_le (by rw [cTT_len]; omega)]
theorem mkM_lens : ∀ (k : Nat) (ns : List Nat), (mkM k ns).map List.length = ns
 | _, [] => rfl
 | k, n :: ns => by simp [mkM, mkM_lens (k + n) ns, marksT_len]
theorem lend_mark {l : LL} {id k n : Nat} {ns : List Nat} (hn : n = ns.length) (h : lget id l = .mat 1 (ixF 0 ns) ((mkM k ns).map cT)) : lends1 l [.ls id 0 n 1] [.d (.sl (cTT (mkM k ns)))] := by
 have e := mkM_lens k ns
 have := lend_told (ts := mkM k ns) (l := l) (id := id) (by rw [h, tldO, e])
 rwa [mkM_len, ← hn] at this
end Go.V
namespace Go.V
open Go.Proofs Go.RowKit
set_option maxRecDepth 10000
set_option maxHeartbeats 1000000
abbrev oneR : Tss := [[[49]]]
abbrev ndV : AV := .ag [.ls 0 0 1 1, .d (.sl [])]
abbrev ndD (rows : Tss) : AV := .ag [.d (.sl (cTT rows)), .d (.sl [])]
theorem fn_NewDesk : Fn Try.prog 5 [] [] ndV [(0, tldO oneR)] := by
 refine Fn.introM (ks := [0]) 2 hty rfl rfl rfl rfl rfl ?_
 conv => whnf
 exact ⟨⟨rfl, rfl, rfl, rfl, rfl⟩, _, rfl, trivial, rfl⟩
theorem fn_sNewDesk : Fn Try.prog 4 [] [] ndV [(0, tldO oneR)] := by
 refine Fn.introM (ks := [0]) 2 hty rfl rfl rfl rfl rfl ?_
 conv => whnf
 exact ⟨⟨rfl, rfl, rfl, rfl, rfl⟩, _, rfl, ⟨rfl, Nat.le_refl _, rfl⟩, trivial, rfl⟩
theorem fn_eqC0 : Fn Try.prog 10 [.d (.sl []), .d (.sl [])] [] (B true) [] := by
 refine Fn.intro (ks := [0,1,4,5,10,14,26]) hty rfl rfl rfl rfl rfl ?_
 conv => whnf
 refine VLoop.inv hty (S := Unit) (fun _ => [(5, I 0), (0, .d (.sl []))]) (fun _ => []) (fun _ => True) (fun _ => 0) () trivial ⟨rfl, rfl, trivial⟩ trivial ?_
 intro _ _
 conv => whnf
 exact ⟨rfl, trivial, rfl⟩
theorem fn_markCu0 (k : Int) : Fn Try.prog 12 [.d (.sl []), I k] [] (I k) [] := by
 refine Fn.intro (ks := [0,1,4,5,9]) hty rfl rfl rfl rfl rfl ?_
 conv => whnf
 refine VLoop.inv hty (S := Unit) (fun _ => [(5, I 0), (1, I k), (0, .d (.sl []))]) (fun _ => []) (fun _ => True) (fun _ => 0) () trivial ⟨rfl, rfl, rfl, trivial⟩ trivial ?_
 intro _ _
 conv => whnf
 exact ⟨rfl, trivial, rfl⟩
theorem fn_heldCu0 (k : Int) : Fn Try.prog 14 [.d (.sl []), I k] [] (I k) [] := by
 refine Fn.intro (ks := [0,1,4,5,9,18,27,36]) hty rfl rfl rfl rfl rfl ?_
 conv => whnf
 refine VLoop.inv hty (S := Unit) (fun _ => [(5, I 0), (1, I k), (0, .d (.sl []))]) (fun _ => []) (fun _ => True) (fun _ => 0) () trivial ⟨rfl, rfl, rfl, trivial⟩ trivial ?_
 intro _ _
 conv => whnf
 exact ⟨rfl, trivial, rfl⟩
theorem fn_eqDesk1 : Fn Try.prog 6 [ndD oneR, ndD oneR] [] (B true) [] := by
 have c1 := fn_eqChain oneR (by decide) (fun r hr => by simp at hr; subst hr; decide)
 refine Fn.intro (ks := [0,1,2,3,4,10,16]) hty rfl rfl rfl rfl rfl ?_
 conv => whnf
 refine VCall.of_data c1 (nd _) ?_
 conv => whnf
 refine VCall.of_data fn_eqC0 (nd _) ?_
 conv => whnf
 exact ⟨rfl, trivial, rfl⟩
theorem fn_markDesk1 : Fn Try.prog 7 [.ag [.ls 1000000 0 1 1, .d (.sl [])], I 101] [(1000000, tldO oneR)] (I 102) [(1000000, .mat 1 (ixF 0 [1]) ((mkM 101 [1]).map cT))] := by
  have c1 := fn_markChain oneR [1] 1 101 (by decide) rfl (by decide) (fun i hi => by have : i = 0 := by omega
                                                                                     subst this; exact ⟨by decide, by decide⟩) (by decide)
  refine Fn.intro (ks := [0,1,2,4]) hty rfl rfl rfl rfl rfl ?_
  conv => whnf
  refine VCall.parN [(1000000, 1000000)] c1 ⟨⟨⟨rfl, rfl, rfl, rfl⟩, trivial⟩, rfl, trivial⟩ ⟨⟨rfl, rfl⟩, trivial⟩ rfl rfl rfl rfl ?_
  conv => whnf
  refine VCall.of_data (fn_markCu0 102) (nd _) ?_
  conv => whnf
  refine ⟨rfl, ⟨?_, trivial⟩, rfl⟩
  rfl
theorem fn_heldDesk1 : Fn Try.prog 8 [ndD (mkM 101 [1]), I 101] [] (I 102) [] := by
  have c1 := fn_heldChain [1] 101 (by decide) (fun i hi => by have : i = 0 := by simpa using hi
                                                              subst this; decide) (by decide)
  refine Fn.intro (ks := [0,1,2,4,10,16]) hty rfl rfl rfl rfl rfl ?_
  conv => whnf
  refine VCall.of_data c1 (nd _) ?_
  conv => whnf
  refine VCall.of_data (fn_heldCu0 102) (nd _) ?_
  conv => whnf
  exact ⟨rfl, trivial, rfl⟩
theorem namesN : namesIn [(0, tldO oneR)] ndV := fun j hj => by
 have : Nat.beq 0 j = true := by
  have : (AV.ment j ndV) = (Nat.beq 0 j || (false || false)) := rfl
  rw [this] at hj; simpa using hj
 have e := Nat.eq_of_beq_eq_true this
 rw [lget_cons, if_pos e.symm]; exact fun e => by cases e
theorem law_newDesk : Fn Try.prog 3 [] [] (B true) [] := by
 refine Fn.intro (ks := [0,1,2,3,4,5,11,19,22,27,32,35]) hty rfl rfl rfl rfl rfl ?_
 conv => whnf
 refine VCall.of_fn (k := 6) fn_sNewDesk namesN rfl ?_
 conv => whnf
 refine VCall.of_fn (k := 7) fn_NewDesk namesN rfl ?_
 conv => whnf
 refine VCall.lend fn_eqDesk1 ⟨⟨(lend_told (ts := oneR) rfl).1, rfl, trivial⟩, ⟨(lend_told (ts := oneR) rfl).1, rfl, trivial⟩, trivial⟩ rfl ?_
 conv => whnf
 refine VCall.parN [(1000000, 7)] fn_markDesk1 ⟨⟨⟨rfl, rfl, rfl, rfl⟩, rfl, trivial⟩, rfl, trivial⟩ ⟨⟨rfl, rfl⟩, trivial⟩ rfl rfl rfl rfl ?_
 conv => whnf
 refine VCall.lend fn_heldDesk1 ⟨⟨(lend_mark (ns := [1]) rfl rfl).1, rfl, trivial⟩, rfl, trivial⟩ rfl ?_
 conv => whnf
 refine VCall.of_fn (k := 23) fn_NewDesk namesN rfl ?_
 conv => whnf
 refine VCall.lend fn_eqDesk1 ⟨⟨(lend_told (ts := oneR) rfl).1, rfl, trivial⟩, ⟨(lend_told (ts := oneR) rfl).1, rfl, trivial⟩, trivial⟩ rfl ?_
 conv => whnf
 refine VCall.lend fn_heldDesk1 ⟨⟨(lend_mark (ns := [1]) rfl rfl).1, rfl, trivial⟩, rfl, trivial⟩ rfl ?_
 conv => whnf
 exact ⟨rfl, trivial, rfl⟩
end Go.V
