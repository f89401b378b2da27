/- Part 8: the abstract machine, its soundness, contracts of functions. -/
import Derived.Test.YtojocienmkpfmaaGreatDoorK7
import Derived.Shelf.Strconv.Itoa3
import Derived.Lib.AppendIntMem
import Derived.Lib.SliceRun
import Derived.WalkKit
/- The reference: the servers for loads. -/
set_option linter.unusedVariables false
set_option linter.unusedSimpArgs false
namespace Go.V
open Go.Proofs Go.RowKit
set_option maxRecDepth 10000
set_option maxHeartbeats 1000000

theorem ng_sgI (q : Rat) : ng q = decide (sgI q < 0) := by
  have hz := ng_zero (q := q)
  unfold sgI
  by_cases h : tp q = 0
  · rw [if_pos h, hz h]; rfl
  · rw [if_neg h]
    cases ng q <;> rfl

theorem all_any (xs : List Rat) : (xs.all fun q => !ng q) = !(xs.any fun q => decide (sgI q < 0)) := by
  induction xs with
  | nil => rfl
  | cons x r ih => rw [List.all_cons, List.any_cons, ih, ng_sgI, Bool.not_or]

abbrev lN (ns : List Nat) : AV := .d (.sl (cW .i64 ns))

theorem fn_sServers (loads : List (List UInt8)) (most : List UInt8) (hl : loads.length ≤ 1000000000000) (hs : ∀ x, x ∈ loads → x.length ≤ 1000000000) (hm : most.length ≤ 1000000000) :
    Fn Tryz.prog 70 [lT loads, Str most] [] (.tup [lN ((serversQ loads most).getD []), B (serversQ loads most).isSome]) [] := by
  have c1 := fn_sList loads hl hs
  have c2 := fn_sParse most hm
  unfold serversQ
  cases e2 : rdRat most with
  | none =>
    rw [e2] at c2
    cases e1 : rdRats loads with
    | none =>
      rw [e1] at c1
      show Fn _ _ _ _ (.tup [lN [], B false]) []
      refine Fn.intro (ks := [0,1,4,5,6,7,8,9,10,11,12,43,48,66,70]) hty rfl rfl rfl rfl rfl ?_
      conv => whnf
      refine VCall.of_data c1 (ndT (fun k => rfl)) ?_
      conv => whnf
      refine VCall.of_data c2 (ndT (fun k => rfl)) ?_
      conv => whnf
      exact ⟨rfl, trivial, rfl⟩
    | some x =>
      rw [e1] at c1
      show Fn _ _ _ _ (.tup [lN [], B false]) []
      refine Fn.intro (ks := [0,1,4,5,6,7,8,9,10,11,12,43,48,66,70]) hty rfl rfl rfl rfl rfl ?_
      conv => whnf
      refine VCall.of_data c1 (ndT (fun k => rfl)) ?_
      conv => whnf
      refine VCall.of_data c2 (ndT (fun k => rfl)) ?_
      conv => whnf
      exact ⟨rfl, trivial, rfl⟩
  | some y =>
    rw [e2] at c2
    have sy := rdRat_sz e2
    cases e1 : rdRats loads with
    | none =>
      rw [e1] at c1
      show Fn _ _ _ _ (.tup [lN [], B false]) []
      refine Fn.intro (ks := [0,1,4,5,6,7,8,9,10,11,12,43,48,66,70]) hty rfl rfl rfl rfl rfl ?_
      conv => whnf
      refine VCall.of_data c1 (ndT (fun k => rfl)) ?_
      conv => whnf
      refine VCall.of_data c2 (ndT (fun k => rfl)) ?_
      conv => whnf
      exact ⟨rfl, trivial, rfl⟩
    | some x =>
      rw [e1, Option.getD_some, Option.isSome_some] at c1
      obtain ⟨x1, x2, x3⟩ := rdRats_sz e1
      have hxl : ((cS x).length : Int) = x.length := by rw [cS_len]
      have cp := fn_sPositive x (by omega)
      rw [all_any] at cp
      show Fn _ _ _ _ (.tup [lN ((if okLoads x then allO (srvQ y) x else none).getD []), B (if okLoads x then allO (srvQ y) x else none).isSome]) []
      by_cases hin1 : x.length < 1
      · rw [if_neg (fun h : okLoads x => by have := h.1; omega)]
        show Fn _ _ _ _ (.tup [lN [], B false]) []
        refine Fn.intro (ks := [0,1,4,5,6,7,8,9,10,11,12,43,48,66,70]) hty rfl rfl rfl rfl rfl ?_
        conv => whnf
        refine VCall.of_data c1 (ndT (fun k => rfl)) ?_
        conv => whnf
        refine VCall.of_data c2 (ndT (fun k => rfl)) ?_
        conv => whnf
        refine Br.mk (fun h => ?_) (fun h => ?_)
        · conv => whnf
          exact ⟨rfl, trivial, rfl⟩
        · simp only [decide_eq_false_iff_not] at h; omega
      · by_cases hin2 : 48 < x.length
        · rw [if_neg (fun h : okLoads x => by have := h.2.1; omega)]
          show Fn _ _ _ _ (.tup [lN [], B false]) []
          refine Fn.intro (ks := [0,1,4,5,6,7,8,9,10,11,12,43,48,66,70]) hty rfl rfl rfl rfl rfl ?_
          conv => whnf
          refine VCall.of_data c1 (ndT (fun k => rfl)) ?_
          conv => whnf
          refine VCall.of_data c2 (ndT (fun k => rfl)) ?_
          conv => whnf
          refine Br.mk (fun h => ?_) (fun h => ?_)
          · simp only [decide_eq_true_eq] at h; omega
          · conv => whnf
            refine Br.mk (fun h2 => ?_) (fun h2 => ?_)
            · conv => whnf
              exact ⟨rfl, trivial, rfl⟩
            · simp only [decide_eq_false_iff_not] at h2; omega
        · cases ea : x.any (fun q => decide (sgI q < 0)) with
          | true =>
            rw [ea] at cp
            rw [if_neg (fun h : okLoads x => by rw [h.2.2] at ea; cases ea)]
            show Fn _ _ _ _ (.tup [lN [], B false]) []
            refine Fn.intro (ks := [0,1,4,5,6,7,8,9,10,11,12,43,48,66,70]) hty rfl rfl rfl rfl rfl ?_
            conv => whnf
            refine VCall.of_data c1 (ndT (fun k => rfl)) ?_
            conv => whnf
            refine VCall.of_data c2 (ndT (fun k => rfl)) ?_
            conv => whnf
            refine Br.mk (fun h => ?_) (fun h => ?_)
            · simp only [decide_eq_true_eq] at h; omega
            · conv => whnf
              refine Br.mk (fun h2 => ?_) (fun h2 => ?_)
              · simp only [decide_eq_true_eq] at h2; omega
              · conv => whnf
                refine VCall.of_data cp (nd _) ?_
                conv => whnf
                exact ⟨rfl, trivial, rfl⟩
          | false =>
            rw [ea] at cp
            rw [if_pos (show okLoads x from ⟨by omega, by omega, ea⟩)]
            have hnn : ∀ q, q ∈ x → ¬ q < 0 := fun q hq e => by
              have h1 := List.any_eq_false.1 ea q hq
              exact h1 (decide_eq_true (sgI_neg.2 e))
            refine Fn.intro (ks := [0,1,4,5,6,7,8,9,10,11,12,43,48,66,70]) hty rfl rfl rfl rfl rfl ?_
            conv => whnf
            refine VCall.of_data c1 (ndT (fun k => rfl)) ?_
            conv => whnf
            refine VCall.of_data c2 (ndT (fun k => rfl)) ?_
            conv => whnf
            refine Br.mk (fun h => ?_) (fun h => ?_)
            · simp only [decide_eq_true_eq] at h; omega
            conv => whnf
            refine Br.mk (fun h2 => ?_) (fun h2 => ?_)
            · simp only [decide_eq_true_eq] at h2; omega
            conv => whnf
            refine VCall.of_data cp (nd _) ?_
            conv => whnf
            refine VLoop.ren 44 74 rfl ?_
            refine VLoop.inv hty (S := List Nat) (fun ns => [(11, I (ns.length : Nat)), (10, .ls 74 0 ns.length 1), (8, .lp 8 0), (6, lS x)])
              (fun ns => [(74, .row true 1 (cW .i64 ns)), (8, .box true [B (ng y), nS (tp y), nS y.den])]) (fun ns => ns.length ≤ x.length ∧ allO (srvQ y) (x.take ns.length) = some ns) (fun ns => x.length - ns.length) [] ⟨Nat.zero_le _, rfl⟩
              ⟨rfl, rfl, rfl, rfl, trivial⟩ ⟨rfl, rfl, trivial⟩ ?_
            rintro ns ⟨hi, hq⟩
            obtain ⟨i, ei⟩ : ∃ i, ns.length = i := ⟨_, rfl⟩
            rw [ei] at hi hq
            rw [ei]
            conv => whnf
            refine Br.mk (fun h3 => ?_) (fun h3 => ?_)
            · have h3 : i < x.length := by simp only [decide_eq_true_eq] at h3; omega
              obtain ⟨q, eq⟩ : ∃ q, x.getD i 0 = q := ⟨_, rfl⟩
              have hqm : q ∈ x := by rw [← eq, List.getD_eq_getElem?_getD, List.getElem?_eq_getElem h3]; exact List.getElem_mem h3
              have sq := x3 q hqm
              have hq0 := hnn q hqm
              have et : x.take (i + 1) = x.take i ++ [q] := by rw [List.take_succ_eq_append_getElem h3]; subst eq; rw [List.getD_eq_getElem?_getD, List.getElem?_eq_getElem h3]; rfl
              have cz := fn_sZero q (by omega)
              conv => whnf
              refine VLoop.invX hty (S := Nat) (E := Nat) [] [] 2 (fun k => [(12, I (k : Nat)), (11, I (i : Nat)), (10, .ls 74 0 i 1), (8, .lp 8 0), (6, lS x)])
                (fun _ => [(74, .row true 1 (cW .i64 ns)), (8, .box true [B (ng y), nS (tp y), nS y.den])]) (fun k => k ≤ 20 ∧ (k = 0 ∨ 0 < q) ∧ ∀ j, j < k → ¬ lossQ q j ≤ y) (fun k => 21 - k)
                (fun d => [(12, I (d : Nat)), (11, I (i : Nat)), (10, .ls 74 0 i 1), (8, .lp 8 0), (6, lS x)])
                (fun _ => [(74, .row true 1 (cW .i64 ns)), (8, .box true [B (ng y), nS (tp y), nS y.den])]) (fun d => srvQ y q = some d)
                0 ⟨by omega, .inl rfl, fun j h => absurd h (Nat.not_lt_zero j)⟩ ⟨rfl, rfl, rfl, rfl, rfl, trivial⟩ ⟨rfl, rfl, trivial⟩ ?_ ?_
              · rintro k ⟨hk1, hk2, hk3⟩
                by_cases hqz : q = 0
                · have hk0 : k = 0 := by
                    rcases hk2 with h4 | h4
                    · exact h4
                    · rw [hqz] at h4; exact absurd h4 Rat.lt_irrefl
                  rw [decide_eq_true hqz] at cz
                  have hsrv : srvQ y q = some k := by rw [srvQ, if_pos (by rw [hqz]; exact Rat.le_refl), hk0]
                  conv => whnf
                  refine VDraw.go hmo hty 16 [] rfl ?_
                  conv => whnf
                  refine ⟨⟨⟨by omega, by omega⟩, cS_sz _⟩, ?_⟩
                  conv => whnf
                  refine ⟨_, cS_as (x := q) h3 eq, ?_⟩
                  conv => whnf
                  refine QCall.of_data cz (nd _) ?_
                  conv => whnf
                  exact ⟨rfl, k, hsrv, ⟨rfl, rfl, rfl, rfl, rfl, trivial⟩, rfl, rfl, trivial⟩
                · have hqp : 0 < q := by grind
                  have hqn : ¬ q ≤ 0 := by grind
                  rw [decide_eq_false hqz] at cz
                  have cls := fn_sLoss q k hqp (by omega) (by omega)
                  have hzb := lossQ_big hqp (by omega) hk1
                  have clt := fn_sLess2 y (lossQ q k) (by omega) (by omega)
                  have hls : srvQ y q = leastQ q y := by rw [srvQ, if_neg hqn]
                  conv => whnf
                  refine VDraw.go hmo hty 16 [] rfl ?_
                  conv => whnf
                  refine ⟨⟨⟨by omega, by omega⟩, cS_sz _⟩, ?_⟩
                  conv => whnf
                  refine ⟨_, cS_as (x := q) h3 eq, ?_⟩
                  conv => whnf
                  refine QCall.of_data cz (nd _) ?_
                  conv => whnf
                  refine ⟨⟨⟨by omega, by omega⟩, cS_sz _⟩, ?_⟩
                  conv => whnf
                  refine ⟨_, cS_as (x := q) h3 eq, ?_⟩
                  conv => whnf
                  refine QCall.of_data cls (ndA fun k => rfl) ?_
                  conv => whnf
                  refine QCall.of_data clt (nd _) ?_
                  conv => whnf
                  refine Br.mk (fun h4 => ?_) (fun h4 => ?_)
                  · have h4 : y < lossQ q k := by simpa only [decide_eq_true_eq] using h4
                    have h5 : ¬ lossQ q k ≤ y := by grind
                    have hnext : ∀ j, j < k + 1 → ¬ lossQ q j ≤ y := fun j hj => by
                      rcases Nat.lt_or_ge j k with h6 | h6
                      · exact hk3 j h6
                      · rw [show j = k by omega]; exact h5
                    conv => whnf
                    refine Wr.i64 (y := ((k + 1 : Nat) : Int)) rfl (by omega) (by omega) ?_
                    conv => whnf
                    refine Br.mk (fun h6 => ?_) (fun h6 => ?_)
                    · have h6 : k = 20 := by simp only [decide_eq_true_eq] at h6; omega
                      rw [allO_none hqm (by rw [hls]; exact leastQ_none fun j hj => hnext j (by omega))]
                      conv => whnf
                      exact ⟨rfl, trivial, rfl⟩
                    · have h6 : k + 1 ≤ 20 := by simp only [decide_eq_false_iff_not] at h6; omega
                      conv => whnf
                      exact ⟨k + 1, ⟨h6, .inr hqp, hnext⟩, by show 21 - (k + 1) < 21 - k; omega, ⟨rfl, rfl, rfl, rfl, rfl, trivial⟩, rfl, rfl, trivial⟩
                  · have h4 : ¬ y < lossQ q k := by simpa only [decide_eq_false_iff_not] using h4
                    have h5 : lossQ q k ≤ y := by grind
                    conv => whnf
                    exact ⟨rfl, k, by rw [hls]; exact leastQ_some (by omega) h5 hk3, ⟨rfl, rfl, rfl, rfl, rfl, trivial⟩, rfl, rfl, trivial⟩
              · rintro d hsrv
                conv => whnf
                obtain ⟨i2, ei2⟩ : ∃ j, i + 1 = j := ⟨_, rfl⟩
                refine Sub.full rfl ?_
                conv => whnf
                refine Sub.full (by rw [cW_len]; exact ei) ?_
                conv => whnf
                refine ⟨by show (i + 1) * 8 ≤ _; omega, ?_⟩
                conv => whnf
                refine Wr.i64 (y := ((i + 1 : Nat) : Int)) rfl (by omega) (by omega) ?_
                conv => whnf
                refine ⟨ns ++ [d], ⟨by rw [List.length_append, List.length_singleton]; omega, ?_⟩, by show x.length - (ns ++ [d]).length < x.length - i; rw [List.length_append, List.length_singleton]; omega, ⟨?_, ?_, rfl, rfl, trivial⟩, ?_, rfl, trivial⟩
                · rw [List.length_append, List.length_singleton, ei, et]
                  exact allO_snoc hq hsrv
                · show AV.d (.s (.int .i64 ((i + 1 : Nat) : Int))) = I ((ns ++ [d]).length : Nat)
                  rw [List.length_append, List.length_singleton, ei]
                · show AV.ls 74 0 (i + 1) 1 = AV.ls 74 0 (ns ++ [d]).length 1
                  rw [List.length_append, List.length_singleton, ei]
                · show Ob.row true 1 (cW .i64 ns ++ cW .i64 [d]) = _
                  rw [cW_append]
            · have h3 : i = x.length := by simp only [decide_eq_false_iff_not] at h3; omega
              rw [h3, List.take_length] at hq
              rw [hq]
              conv => whnf
              refine ⟨⟨rfl, by rw [cW_len]; omega, ?_⟩, rfl, trivial, rfl⟩
              rw [List.drop_zero, List.take_of_length_le (by rw [cW_len]; omega)]; rfl

theorem fn_sServersFor (loads : List (List UInt8)) (most : List UInt8) (hl : loads.length ≤ 1000000000000) (hs : ∀ x, x ∈ loads → x.length ≤ 1000000000) (hm : most.length ≤ 1000000000) :
    Fn Tryz.prog 16 [lT loads, Str most] [] (.tup [lN ((serversQ loads most).getD []), B (serversQ loads most).isSome]) [] := by
  refine Fn.intro (ks := [0,1,4,5]) hty rfl rfl rfl rfl rfl ?_
  conv => whnf
  refine VCall.of_data (fn_sServers loads most hl hs hm) (ndT (fun k => rfl)) ?_
  conv => whnf
  exact ⟨rfl, rfl, trivial, rfl⟩

end Go.V
/- The laws' own functions on lists of integers. -/
namespace Go.V
open Go.Proofs Go.RowKit
set_option maxRecDepth 10000
set_option maxHeartbeats 1000000

def room (n : Nat) : Nat := if n % 6 = 5 then 0 else if n % 3 = 0 then 1 else n

theorem fn_room (n : Nat) (hn : n ≤ 1000000) : Fn Tryz.prog 71 [I n] [] (I (room n)) [] := by
  refine Fn.intro (ks := [0,2,5,8]) hty rfl rfl rfl rfl rfl ?_
  conv => whnf
  refine ⟨by omega, ?_⟩
  conv => whnf
  refine Br.mk (fun h => ?_) (fun h => ?_)
  · have h : (n : Int).tmod 6 = 5 := by simpa using h
    conv => whnf
    refine ⟨?_, trivial, rfl⟩
    have : n % 6 = 5 := by rw [Int.tmod_eq_emod_of_nonneg (by omega)] at h; omega
    simp [room, this]
  · have h : ¬ (n : Int).tmod 6 = 5 := by simpa using h
    have h' : ¬ n % 6 = 5 := by rw [Int.tmod_eq_emod_of_nonneg (by omega)] at h; omega
    conv => whnf
    refine ⟨by omega, ?_⟩
    conv => whnf
    refine Br.mk (fun h2 => ?_) (fun h2 => ?_)
    · have h2 : (n : Int).tmod 3 = 0 := by simpa using h2
      conv => whnf
      refine ⟨?_, trivial, rfl⟩
      have : n % 3 = 0 := by rw [Int.tmod_eq_emod_of_nonneg (by omega)] at h2; omega
      simp [room, this, h']
    · have h2 : ¬ (n : Int).tmod 3 = 0 := by simpa using h2
      conv => whnf
      refine ⟨?_, trivial, rfl⟩
      have : ¬ n % 3 = 0 := by rw [Int.tmod_eq_emod_of_nonneg (by omega)] at h2; omega
      simp [room, this, h']

theorem room_le (n : Nat) : room n ≤ n + 1 := by unfold room; split; omega; split <;> omega

theorem cI_set (xs : List Int) (k : Nat) (x : Int) : (cI xs).set k [.s (.int .i64 x)] = cI (xs.set k x) := by
  unfold cI; rw [List.map_set]

theorem fn_eqI (xs ys : List Int) (hl : xs.length ≤ 3000000) (hl' : ys.length ≤ 3000000) :
    Fn Tryz.prog 19 [.d (.sl (cI xs)), .d (.sl (cI ys))] [] (B (decide (xs = ys))) [] := by
  refine Fn.intro (ks := [0,1,4,5,10,14,25]) hty rfl rfl rfl rfl rfl ?_
  conv => whnf
  rw [cI_len, cI_len]
  refine Br.mk (fun h => ?_) (fun h => ?_)
  · have h : ¬ xs.length = ys.length := by simp at h; omega
    conv => whnf
    refine ⟨?_, trivial, rfl⟩
    rw [decide_eq_false fun e => h (by rw [e])]
  · have hxy : xs.length = ys.length := by simp at h; omega
    conv => whnf
    refine VLoop.inv hty (S := Nat) (fun k => [(5, I k), (1, .d (.sl (cI ys))), (0, .d (.sl (cI xs)))]) (fun _ => []) (fun k => k ≤ xs.length ∧ xs.take k = ys.take k) (fun k => xs.length - k) 0 ⟨Nat.zero_le _, rfl⟩
      ⟨rfl, rfl, rfl, trivial⟩ trivial ?_
    rintro k ⟨hk, hp⟩
    conv => whnf
    rw [cI_len]
    refine Br.mk (fun h => ?_) (fun h => ?_)
    · have hk' : k < xs.length := by simp at h; omega
      conv => whnf
      refine VDraw.go hmo hty 9 [] rfl ?_
      conv => whnf
      refine ⟨⟨⟨by omega, by rw [cI_len]; omega⟩, cI_sz xs⟩, ?_⟩
      conv => whnf
      refine ⟨[.s (.int .i64 xs[k])], by simp [cI, hk'], ?_⟩
      conv => whnf
      refine ⟨⟨⟨by omega, by rw [cI_len]; omega⟩, cI_sz ys⟩, ?_⟩
      conv => whnf
      refine ⟨[.s (.int .i64 ys[k])], by simp [cI, ← hxy, hk'], ?_⟩
      conv => whnf
      refine Br.mk (fun h2 => ?_) (fun h2 => ?_)
      · have h2 : ¬ xs[k] = ys[k] := by simpa using h2
        conv => whnf
        refine ⟨?_, trivial, rfl⟩
        rw [decide_eq_false fun e => h2 (by subst e; rfl)]
      · have h2 : xs[k] = ys[k] := by simpa using h2
        conv => whnf
        refine Wr.fit (wrap_i64 (by omega) (by omega)) ?_
        conv => whnf
        refine ⟨k + 1, ⟨hk', ?_⟩, by omega, ⟨rfl, rfl, rfl, trivial⟩, trivial⟩
        rw [List.take_succ_eq_append_getElem hk', List.take_succ_eq_append_getElem (by omega), hp, h2]
    · have hk' : k = xs.length := by simp at h; omega
      conv => whnf
      refine ⟨?_, trivial, rfl⟩
      subst hk'
      rw [List.take_length, List.take_of_length_le (by omega)] at hp
      rw [decide_eq_true hp]

def marks (k n : Nat) : List Int := (List.range n).map fun i => ((k + i : Nat) : Int)

theorem marks_len (k n : Nat) : (marks k n).length = n := by simp [marks]

theorem fn_markI (zs : List Int) (n k0 : Nat) (hn : n ≤ zs.length) (hl : n ≤ 1000000) (hk0 : k0 ≤ 2000000000) :
    Fn Tryz.prog 22 [.ls 1000000 0 n 1, I k0] [(1000000, .row true 1 (cI zs))] (I ((k0 + n : Nat) : Int)) [(1000000, .row true 1 (cI (marks k0 n ++ zs.drop n)))] := by
  have k1 : (marks k0 n ++ zs.drop n).length = zs.length := by simp [marks_len]; omega
  refine Fn.intro (ks := [0,1,4,5,9]) hty rfl rfl rfl rfl rfl ?_
  conv => whnf
  refine VLoop.inv hty (S := Nat) (fun k => [(5, I k), (1, I ((k0 + k : Nat) : Int)), (0, .ls 1000000 0 n 1)]) (fun k => [(1000000, .row true 1 (cI (fillL (marks k0 n ++ zs.drop n) zs k)))]) (fun k => k ≤ n) (fun k => n - k) 0 (Nat.zero_le _)
    ⟨rfl, rfl, rfl, trivial⟩ ⟨by rw [fill_zero]; rfl, trivial⟩ ?_
  intro k hk
  conv => whnf
  refine Br.mk (fun h => ?_) (fun h => ?_)
  · have hk' : k < n := by simp at h; omega
    conv => whnf
    refine ⟨by omega, ?_⟩
    conv => whnf
    refine ⟨[.s (.int .i64 (fillL (marks k0 n ++ zs.drop n) zs k)[k]!)], by
      have : k < (fillL (marks k0 n ++ zs.drop n) zs k).length := by rw [fill_len k1]; omega
      simp [cI, this], ?_⟩
    conv => whnf
    refine Wr.fit (wrap_i64 (by omega) (by omega)) ?_
    conv => whnf
    refine Wr.fit (wrap_i64 (by omega) (by omega)) ?_
    conv => whnf
    refine ⟨k + 1, hk', by omega, ⟨rfl, by congr 1, rfl, trivial⟩, ?_, trivial⟩
    show Ob.row true 1 ((cI _).set k [.s (.int .i64 _)]) = _
    rw [cI_set, ← fill_set k1 (by omega)]
    congr 3
    rw [List.getElem_append_left (by rw [marks_len]; exact hk')]; simp [marks]
  · have hk' : k = n := by simp at h; omega
    subst hk'
    conv => whnf
    refine ⟨rfl, ⟨?_, trivial⟩, rfl⟩
    have : fillL (marks k0 k ++ zs.drop k) zs k = marks k0 k ++ zs.drop k := by
      unfold fillL; rw [List.take_append_of_le_length (by simp [marks_len]), List.take_of_length_le (by simp [marks_len])]
    rw [this]; rfl

theorem fn_heldI (n k0 : Nat) (hl : n ≤ 1000000) (hk0 : k0 ≤ 2000000000) :
    Fn Tryz.prog 23 [.d (.sl (cI (marks k0 n))), I k0] [] (I ((k0 + n : Nat) : Int)) [] := by
  refine Fn.intro (ks := [0,1,4,5,9,17]) hty rfl rfl rfl rfl rfl ?_
  conv => whnf
  refine VLoop.inv hty (S := Nat) (fun k => [(5, I k), (1, I ((k0 + k : Nat) : Int)), (0, .d (.sl (cI (marks k0 n))))]) (fun _ => []) (fun k => k ≤ n) (fun k => n - k) 0 (Nat.zero_le _)
    ⟨rfl, rfl, rfl, trivial⟩ trivial ?_
  intro k hk
  conv => whnf
  rw [cI_len, marks_len]
  refine Br.mk (fun h => ?_) (fun h => ?_)
  · have hk' : k < n := by simp at h; omega
    conv => whnf
    refine ⟨⟨⟨by omega, by rw [cI_len, marks_len]; omega⟩, cI_sz _⟩, ?_⟩
    conv => whnf
    refine ⟨[.s (.int .i64 ((k0 + k : Nat) : Int))], by simp [cI, marks, hk'], ?_⟩
    conv => whnf
    rw [decide_eq_true rfl]
    conv => whnf
    refine Wr.fit (wrap_i64 (by omega) (by omega)) ?_
    conv => whnf
    refine Wr.fit (wrap_i64 (by omega) (by omega)) ?_
    conv => whnf
    exact ⟨k + 1, hk', by omega, ⟨rfl, by congr 1, rfl, trivial⟩, trivial⟩
  · have hk' : k = n := by simp at h; omega
    subst hk'
    conv => whnf
    exact ⟨rfl, trivial, rfl⟩

theorem cI_flat (xs : List Int) : ∀ q, q ∈ cI xs → ∀ c, c ∈ q → flatC c = true := by
  intro q hq c hc
  obtain ⟨n, _, rfl⟩ := List.mem_map.1 hq
  simp at hc; subst hc; rfl

theorem fn_markI0 (k0 : Int) : Fn Tryz.prog 22 [.d (.sl []), I k0] [] (I k0) [] := by
  refine Fn.intro (ks := [0,1,4,5,9]) hty rfl rfl rfl rfl rfl ?_
  conv => whnf
  refine VLoop.inv hty (S := Nat) (fun _ => [(5, I 0), (1, I k0), (0, .d (.sl []))]) (fun _ => []) (fun _ => True) (fun _ => 0) 0 trivial ⟨rfl, rfl, rfl, trivial⟩ trivial ?_
  intro k _
  conv => whnf
  exact ⟨rfl, trivial, rfl⟩

theorem fn_eqT (xs : List Int) (hl : xs.length ≤ 3000000) : Fn Tryz.prog 19 [.d (.sl (cI xs)), .d (.sl (cI xs))] [] (B true) [] := by
  have := fn_eqI xs xs hl hl
  rwa [decide_eq_true rfl] at this

theorem lend_whole {id : Nat} {l : LL} {xs ys : List Int} (h : lget id l = .row true 1 (cI (xs ++ ys))) : lend1 l (.ls id 0 xs.length 1) (.d (.sl (cI xs))) := by
  unfold lend1
  simp only [h]
  exact ⟨trivial, by simp [cI], by simp [cI]⟩

theorem lend_all {id : Nat} {l : LL} {xs : List Int} (h : lget id l = .row true 1 (cI xs)) : lend1 l (.ls id 0 xs.length 1) (.d (.sl (cI xs))) := by
  have : xs = xs ++ [] := by simp
  rw [this] at h
  exact lend_whole h

end Go.V
/- The laws' own functions on lists of strings. -/
namespace Go.V
open Go.Proofs Go.RowKit
set_option maxRecDepth 10000
set_option maxHeartbeats 1000000

abbrev spT : List UInt8 := [126, 115, 112, 97, 114, 101, 126]
def withRoomT (xs : List (List UInt8)) : List (List UInt8) := xs ++ List.replicate (room xs.length) spT
theorem cT_set (xs : List (List UInt8)) (k : Nat) (x : List UInt8) : (cT xs).set k [.s (.string ⟨x.toArray⟩)] = cT (xs.set k x) := by
  unfold cT; rw [List.map_set]

theorem fn_toT (xs : List (List UInt8)) (b : Bool) (hb : b = false ∨ xs ≠ []) (hl : xs.length ≤ 1000000) :
    Fn Tryz.prog 17 [.d (.sl (cT xs)), B b] [] (.ls 0 0 xs.length 1) [(0, .row true 1 (cT (withRoomT xs)))] := by
  have hr := room_le xs.length
  generalize hm : room xs.length = m at hr
  have hwl : withRoomT xs = xs ++ List.replicate m spT := by rw [withRoomT, hm]
  have k1 : (xs ++ List.replicate m []).length = (List.replicate (xs.length + m) ([] : List UInt8)).length := by simp
  have k2 : (xs ++ List.replicate m spT).length = (xs ++ List.replicate m []).length := by simp
  have k3 : (xs ++ List.replicate m spT).length = xs.length + m := by simp
  have c1 := fn_room xs.length hl
  rw [hm] at c1
  refine Fn.intro (ks := [0,1,4,5,6,7,13,24,39]) hty rfl rfl rfl rfl rfl ?_
  cases b
  case' true =>
    conv => whnf
    refine Br.mk (fun h => absurd h ?_) (fun _ => ?_)
    · have hne : xs ≠ [] := by rcases hb with hb | hb; cases hb; exact hb
      have := List.length_pos_iff.2 hne
      rw [cT_len]; simp; exact hne
  all_goals
    clear hb
    conv => whnf
    rw [cT_len]
    refine VCall.of_data c1 (nd _) ?_
    conv => whnf
    refine Wr.fit (wrap_i64 (by omega) (by omega)) ?_
    conv => whnf
    refine ⟨⟨by omega, by omega, by show ((xs.length : Int) + m) * ((16 : Nat) : Int) ≤ _; omega, by omega⟩, ?_⟩
    conv => whnf
    refine VLoop.inv hty (S := Nat) (fun k => [(6, I k), (5, .ls 20 0 (xs.length + m) 1), (0, .d (.sl (cT xs)))])
      (fun k => [(20, .row true 1 (cT (fillL (xs ++ List.replicate m []) (List.replicate (xs.length + m) []) k)))]) (fun k => k ≤ xs.length) (fun k => xs.length - k) 0 (Nat.zero_le _)
      ⟨rfl, by show AV.ls _ _ _ _ = _; congr 1, rfl, trivial⟩ ⟨by show Ob.row true 1 (List.replicate ((xs.length : Int) + m).toNat [.s (.string ByteArray.empty)]) = _; rw [fill_zero, show ((xs.length : Int) + m).toNat = xs.length + m by omega]; simp only [cT, List.map_replicate]; rfl, trivial⟩ ?_
    intro k hk
    conv => whnf
    rw [cT_len]
    refine Br.mk (fun h => ?_) (fun h => ?_)
    · have hk' : k < xs.length := by simp at h; omega
      conv => whnf
      refine ⟨⟨⟨by omega, by rw [cT_len]; omega⟩, cT_sz xs⟩, ?_⟩
      conv => whnf
      refine ⟨[.s (.string ⟨(xs[k]).toArray⟩)], by simp [cT, hk'], ?_⟩
      conv => whnf
      refine ⟨by omega, ?_⟩
      conv => whnf
      refine ⟨[.s (.string ⟨((fillL (xs ++ List.replicate m []) (List.replicate (xs.length + m) []) k)[k]!).toArray⟩)], by
        have : k < (fillL (xs ++ List.replicate m []) (List.replicate (xs.length + m) []) k).length := by rw [fill_len k1]; simp; omega
        simp [cT, this], ?_⟩
      conv => whnf
      refine Wr.fit (wrap_i64 (by omega) (by omega)) ?_
      conv => whnf
      refine ⟨k + 1, hk', by omega, ⟨rfl, rfl, rfl, trivial⟩, ?_, trivial⟩
      show Ob.row true 1 ((cT _).set k [.s (.string ⟨(xs[k]).toArray⟩)]) = _
      rw [cT_set, ← fill_set k1 (by simp; omega)]
      congr 3
      rw [List.getElem_append_left hk']
    · have hk' : k = xs.length := by simp at h; omega
      subst hk'
      conv => whnf
      rw [cT_len]
      have e0 : fillL (xs ++ List.replicate m []) (List.replicate (xs.length + m) []) xs.length = fillL (xs ++ List.replicate m spT) (xs ++ List.replicate m []) xs.length := by
        simp [fillL]
      rw [e0]
      refine VLoop.inv hty (S := Nat) (fun k => [(7, I k), (5, .ls 20 0 (xs.length + m) 1), (0, .d (.sl (cT xs)))])
        (fun k => [(20, .row true 1 (cT (fillL (xs ++ List.replicate m spT) (xs ++ List.replicate m []) k)))]) (fun k => xs.length ≤ k ∧ k ≤ xs.length + m) (fun k => xs.length + m - k) xs.length ⟨Nat.le_refl _, by omega⟩
        ⟨rfl, rfl, rfl, trivial⟩ ⟨rfl, trivial⟩ ?_
      rintro k ⟨hk1, hk2⟩
      conv => whnf
      refine Br.mk (fun h => ?_) (fun h => ?_)
      · have hk' : k < xs.length + m := by simp at h; omega
        conv => whnf
        refine ⟨by omega, ?_⟩
        conv => whnf
        refine ⟨[.s (.string ⟨((fillL (xs ++ List.replicate m spT) (xs ++ List.replicate m []) k)[k]!).toArray⟩)], by
          have : k < (fillL (xs ++ List.replicate m spT) (xs ++ List.replicate m []) k).length := by rw [fill_len k2]; simp; omega
          simp [cT, this], ?_⟩
        conv => whnf
        refine Wr.fit (wrap_i64 (by omega) (by omega)) ?_
        conv => whnf
        refine ⟨k + 1, ⟨by omega, by omega⟩, by omega, ⟨rfl, rfl, rfl, trivial⟩, ?_, trivial⟩
        show Ob.row true 1 ((cT _).set k [.s (.string ⟨spT.toArray⟩)]) = _
        rw [cT_set, ← fill_set k2 (by simp; omega)]
        congr 3
        rw [List.getElem_append_right (by omega)]; simp
      · have hk' : k = xs.length + m := by simp at h; omega
        subst hk'
        conv => whnf
        rw [cT_len, fill_end k2 (by simp), ← hwl]
        refine ⟨⟨by omega, by omega, by rw [cT_len, hwl, k3]; omega⟩, ?_⟩
        conv => whnf
        exact ⟨⟨rfl, rfl, rfl, rfl, by omega, rfl⟩, [], rfl, trivial, rfl⟩

theorem fn_toT0 : Fn Tryz.prog 17 [.d (.sl (cT [])), B true] [] (.d (.sl [])) [] := by
  refine Fn.intro (ks := [0,1,4,5,6,7,13,24,39]) hty rfl rfl rfl rfl rfl ?_
  conv => whnf
  exact ⟨trivial, rfl⟩

/-- The same, told as data. -/
theorem fn_toTd (xs : List (List UInt8)) (b : Bool) (hl : xs.length ≤ 1000000) : Fn Tryz.prog 17 [.d (.sl (cT xs)), B b] [] (.d (.sl (cT xs))) [] := by
  by_cases h : b = false ∨ xs ≠ []
  · have := (fn_toT xs b h hl).freeze (by rw [cT_len]; simp [withRoomT])
    have e : (List.drop 0 (cT (withRoomT xs))).take xs.length = cT xs := by simp [cT, withRoomT]
    rwa [e] at this
  · have hb : b = true := by cases b; exact absurd (.inl rfl) h; rfl
    have hx : xs = [] := Classical.byContradiction fun e => h (.inr e)
    subst hb; subst hx
    exact fn_toT0

theorem fn_eqS (xs ys : List (List UInt8)) (hl : xs.length ≤ 3000000) (hl' : ys.length ≤ 3000000) :
    Fn Tryz.prog 34 [.d (.sl (cT xs)), .d (.sl (cT ys))] [] (B (decide (xs = ys))) [] := by
  refine Fn.intro (ks := [0,1,4,5,10,14,25]) hty rfl rfl rfl rfl rfl ?_
  conv => whnf
  rw [cT_len, cT_len]
  refine Br.mk (fun h => ?_) (fun h => ?_)
  · have h : ¬ xs.length = ys.length := by simp at h; omega
    conv => whnf
    refine ⟨?_, trivial, rfl⟩
    rw [decide_eq_false fun e => h (by rw [e])]
  · have hxy : xs.length = ys.length := by simp at h; omega
    conv => whnf
    refine VLoop.inv hty (S := Nat) (fun k => [(5, I k), (1, .d (.sl (cT ys))), (0, .d (.sl (cT xs)))]) (fun _ => []) (fun k => k ≤ xs.length ∧ xs.take k = ys.take k) (fun k => xs.length - k) 0 ⟨Nat.zero_le _, rfl⟩
      ⟨rfl, rfl, rfl, trivial⟩ trivial ?_
    rintro k ⟨hk, hp⟩
    conv => whnf
    rw [cT_len]
    refine Br.mk (fun h => ?_) (fun h => ?_)
    · have hk' : k < xs.length := by simp at h; omega
      conv => whnf
      refine VDraw.go hmo hty 9 [] rfl ?_
      conv => whnf
      refine ⟨⟨⟨by omega, by rw [cT_len]; omega⟩, cT_sz xs⟩, ?_⟩
      conv => whnf
      refine ⟨[.s (.string ⟨(xs[k]).toArray⟩)], by simp [cT, hk'], ?_⟩
      conv => whnf
      refine ⟨⟨⟨by omega, by rw [cT_len]; omega⟩, cT_sz ys⟩, ?_⟩
      conv => whnf
      refine ⟨[.s (.string ⟨(ys[k]).toArray⟩)], by simp [cT, ← hxy, hk'], ?_⟩
      conv => whnf
      refine Br.mk (fun h2 => ?_) (fun h2 => ?_)
      · have h2 : ¬ xs[k] = ys[k] := by simpa using h2
        conv => whnf
        refine ⟨?_, trivial, rfl⟩
        rw [decide_eq_false fun e => h2 (by subst e; rfl)]
      · have h2 : xs[k] = ys[k] := by simpa using h2
        conv => whnf
        refine Wr.fit (wrap_i64 (by omega) (by omega)) ?_
        conv => whnf
        refine ⟨k + 1, ⟨hk', ?_⟩, by omega, ⟨rfl, rfl, rfl, trivial⟩, trivial⟩
        rw [List.take_succ_eq_append_getElem hk', List.take_succ_eq_append_getElem (by omega), hp, h2]
    · have hk' : k = xs.length := by simp at h; omega
      conv => whnf
      refine ⟨?_, trivial, rfl⟩
      subst hk'
      rw [List.take_length, List.take_of_length_le (by omega)] at hp
      rw [decide_eq_true hp]


theorem fn_intactT (xs : List (List UInt8)) (hl : xs.length ≤ 1000000) :
    Fn Tryz.prog 20 [.ls 1000000 0 xs.length 1, .ls 1000001 0 xs.length 1] [(1000000, .row true 1 (cT (withRoomT xs))), (1000001, .row true 1 (cT (withRoomT xs)))] (B true)
      [(1000000, .row true 1 (cT (withRoomT xs))), (1000001, .row true 1 (cT (withRoomT xs)))] := by
  have hr := room_le xs.length
  have hw : (withRoomT xs).length = xs.length + room xs.length := by simp [withRoomT]
  refine Fn.intro (ks := [0,1,4,5]) hty rfl rfl rfl rfl rfl ?_
  conv => whnf
  refine VCall.of_data (fn_room xs.length (by omega)) (nd _) ?_
  conv => whnf
  refine Wr.fit (wrap_i64 (by omega) (by omega)) ?_
  conv => whnf
  refine VDraw.go hmo hty 15 [] rfl ?_
  conv => whnf
  rw [decide_eq_true rfl]
  conv => whnf
  refine ⟨⟨by omega, by omega, by rw [cT_len, hw]; omega⟩, ?_⟩
  conv => whnf
  refine ⟨⟨by omega, by omega, by rw [cT_len, hw]; omega⟩, ?_⟩
  conv => whnf
  refine QCall.lend (fn_eqS (withRoomT xs) (withRoomT xs) (by omega) (by omega)) ⟨⟨rfl, ?_, ?_⟩, ⟨rfl, ?_, ?_⟩, trivial⟩ rfl ?_
  iterate 2
    · simp only [cT_len, hw]; omega
    · show ((cT _).drop (Int.toNat 0 + 0)).take _ = _
      rw [List.take_of_length_le (by simp [cT_len, hw]; omega)]; rfl
  conv => whnf
  exact ⟨by simp, ⟨rfl, rfl, trivial⟩, rfl⟩


def markF (r : Nat) (acc : List UInt8) : List UInt8 := if h : r = 0 then acc else markF (r / 10) (UInt8.ofNat (48 + r % 10) :: acc)

theorem fn_markText (k : Nat) (hk : k ≤ 3000000000) : ∃ m : List UInt8, Fn Tryz.prog 79 [I k] [] (.d (.s (.string ⟨m.toArray⟩))) [] := by
  by_cases h0 : k = 0
  · subst h0
    refine ⟨[109, 48], ?_⟩
    refine Fn.intro (ks := [0,2,3,5,7]) hty rfl rfl rfl rfl rfl ?_
    conv => whnf
    refine ⟨?_, trivial, rfl⟩
    rfl
  · refine ⟨109 :: markF k [], ?_⟩
    refine Fn.intro (ks := [0,2,3,5,7]) hty rfl rfl rfl rfl rfl ?_
    conv => whnf
    rw [decide_eq_false (by omega)]
    conv => whnf
    refine VLoop.inv hty (S := Nat × List UInt8) (fun s => [(3, .d (.s (.string ⟨s.2.toArray⟩))), (0, I s.1)]) (fun _ => []) (fun s => s.1 + s.2.length ≤ k ∧ markF s.1 s.2 = markF k []) (fun s => s.1) (k, []) ⟨Nat.le_refl _, rfl⟩
      ⟨rfl, rfl, trivial⟩ trivial ?_
    rintro s ⟨hk1, hp⟩
    conv => whnf
    refine Br.mk (fun h => ?_) (fun h => ?_)
    · have h : 0 < s.1 := by simpa using h
      rw [markF, dif_neg (by omega)] at hp
      conv => whnf
      refine ⟨by omega, ?_⟩
      conv => whnf
      obtain ⟨d, ed⟩ : ∃ d : Nat, s.1 % 10 = d := ⟨_, rfl⟩
      rw [show (s.1 : Int).tmod 10 = d by rw [Int.tmod_eq_emod_of_nonneg (by omega)]; omega]
      rw [ed] at hp
      refine Wr.fit (wrap_i64 (by omega) (by omega)) ?_
      conv => whnf
      refine Wr.is (y := ((UInt8.ofNat (48 + d)).toNat : Int)) (by rw [wrap_u8, UInt8.toNat_ofNat']; omega) ?_
      generalize UInt8.ofNat (48 + d) = c at hp ⊢
      conv => whnf
      refine Sub.full rfl ?_
      conv => whnf
      refine ⟨⟨[c].toArray⟩, by simp [cB], ?_⟩
      conv => whnf
      refine ⟨by simp [ByteArray.size]; omega, ?_⟩
      conv => whnf
      refine ⟨by omega, ?_⟩
      conv => whnf
      obtain ⟨r, er⟩ : ∃ r : Nat, s.1 / 10 = r := ⟨_, rfl⟩
      rw [show (s.1 : Int).tdiv 10 = r by rw [Int.tdiv_eq_ediv_of_nonneg (by omega)]; omega]
      rw [er] at hp
      refine Wr.fit (wrap_i64 (by omega) (by omega)) ?_
      conv => whnf
      refine ⟨(r, c :: s.2), ⟨by simp; omega, hp⟩, by simp; omega, ⟨?_, rfl, trivial⟩, trivial⟩
      show AV.d (C.s (Value.string (_ ++ _))) = _
      congr 3
    · have h : s.1 = 0 := by simpa using h
      rw [markF, dif_pos h] at hp
      conv => whnf
      refine ⟨?_, ?_, trivial, rfl⟩
      · simp [ByteArray.size]; omega
      · rw [← hp]; congr 2

noncomputable def markQ (k : Nat) : List UInt8 := if h : k ≤ 3000000000 then (fn_markText k h).choose else []
theorem fn_markQ (k : Nat) (h : k ≤ 3000000000) : Fn Tryz.prog 79 [I k] [] (.d (.s (.string ⟨(markQ k).toArray⟩))) [] := by
  unfold markQ; rw [dif_pos h]; exact (fn_markText k h).choose_spec

noncomputable def marksT (k n : Nat) : List (List UInt8) := (List.range n).map fun i => markQ (k + i)
theorem marksT_len (k n : Nat) : (marksT k n).length = n := by simp [marksT]

theorem fn_markT (zs : List (List UInt8)) (n k0 : Nat) (hn : n ≤ zs.length) (hl : n ≤ 1000000) (hk0 : k0 ≤ 2000000000) :
    Fn Tryz.prog 21 [.ls 1000000 0 n 1, I k0] [(1000000, .row true 1 (cT zs))] (I ((k0 + n : Nat) : Int)) [(1000000, .row true 1 (cT (marksT k0 n ++ zs.drop n)))] := by
  have k1 : (marksT k0 n ++ zs.drop n).length = zs.length := by simp [marksT_len]; omega
  refine Fn.intro (ks := [0,1,4,5,9]) hty rfl rfl rfl rfl rfl ?_
  conv => whnf
  refine VLoop.inv hty (S := Nat) (fun k => [(5, I k), (1, I ((k0 + k : Nat) : Int)), (0, .ls 1000000 0 n 1)]) (fun k => [(1000000, .row true 1 (cT (fillL (marksT k0 n ++ zs.drop n) zs k)))]) (fun k => k ≤ n) (fun k => n - k) 0 (Nat.zero_le _)
    ⟨rfl, rfl, rfl, trivial⟩ ⟨by rw [fill_zero]; rfl, trivial⟩ ?_
  intro k hk
  conv => whnf
  refine Br.mk (fun h => ?_) (fun h => ?_)
  · have hk' : k < n := by simp at h; omega
    conv => whnf
    refine VCall.of_data (fn_markQ (k0 + k) (by omega)) (nd _) ?_
    conv => whnf
    refine ⟨by omega, ?_⟩
    conv => whnf
    refine ⟨[.s (.string ⟨((fillL (marksT k0 n ++ zs.drop n) zs k)[k]!).toArray⟩)], by
      have : k < (fillL (marksT k0 n ++ zs.drop n) zs k).length := by rw [fill_len k1]; omega
      simp [cT, this], ?_⟩
    conv => whnf
    refine Wr.fit (wrap_i64 (by omega) (by omega)) ?_
    conv => whnf
    refine Wr.fit (wrap_i64 (by omega) (by omega)) ?_
    conv => whnf
    refine ⟨k + 1, hk', by omega, ⟨rfl, by congr 1, rfl, trivial⟩, ?_, trivial⟩
    show Ob.row true 1 ((cT _).set k [.s (.string ⟨(markQ (k0 + k)).toArray⟩)]) = _
    rw [cT_set, ← fill_set k1 (by omega)]
    congr 3
    rw [List.getElem_append_left (by rw [marksT_len]; exact hk')]; simp [marksT]
  · have hk' : k = n := by simp at h; omega
    subst hk'
    conv => whnf
    refine ⟨rfl, ⟨?_, trivial⟩, rfl⟩
    have : fillL (marksT k0 k ++ zs.drop k) zs k = marksT k0 k ++ zs.drop k := by
      unfold fillL; rw [List.take_append_of_le_length (by simp [marksT_len]), List.take_of_length_le (by simp [marksT_len])]
    rw [this]; rfl


/-- What is left of a room behind texts. -/
def szT : Int → List (List UInt8) → Int
  | n, [] => n
  | n, x :: xs => if n - x.length < 0 then -1 else szT (n - x.length) xs

theorem szT_fits : ∀ (xs : List (List UInt8)) (n : Int), 0 ≤ szT n xs → ∀ x, x ∈ xs → (x.length : Int) ≤ n
  | [], n, _, x, h => by cases h
  | y :: xs, n, h, x, hx => by
      unfold szT at h
      split at h
      · omega
      · rcases List.mem_cons.1 hx with rfl | hx
        · omega
        · have := szT_fits xs _ h x hx; omega

def szTT (n : Int) (xs : List (List UInt8)) : Int := if n - xs.length < 0 then -1 else szT (n - xs.length) xs

theorem fn_szT (xs : List (List UInt8)) (n : Int) (hl : xs.length ≤ 281474976710656) (hs : ∀ x, x ∈ xs → x.length ≤ 281474976710656) (hn : n ≤ 1000000) (hn0 : -281474976710656 ≤ n) : Fn Tryz.prog 15 [lT xs, I n] [] (I (szTT n xs)) [] := by
  refine Fn.intro (ks := [0,1,4,5,11,15,26]) hty rfl rfl rfl rfl rfl ?_
  conv => whnf
  rw [cT_len]
  refine Wr.fit (wrap_i64 (by omega) (by omega)) ?_
  conv => whnf
  unfold szTT
  refine Br.mk (fun h => ?_) (fun h => ?_)
  · have h : n - xs.length < 0 := by simpa using h
    conv => whnf
    refine ⟨?_, trivial, rfl⟩
    rw [if_pos h]
  · have h : ¬ n - (xs.length : Int) < 0 := by simpa using h
    rw [if_neg h]
    conv => whnf
    obtain ⟨m0, e0⟩ : ∃ m0, n - (xs.length : Int) = m0 := ⟨_, rfl⟩
    rw [e0] at h ⊢
    have hm : m0 ≤ n := by omega
    refine VLoop.inv hty (S := Nat × Int) (fun s => [(5, I s.1), (1, I s.2), (0, lT xs)]) (fun _ => []) (fun s => s.1 ≤ xs.length ∧ 0 ≤ s.2 ∧ s.2 ≤ n ∧ szT s.2 (xs.drop s.1) = szT m0 xs) (fun s => xs.length - s.1) (0, m0)
      ⟨Nat.zero_le _, by omega, by omega, rfl⟩ ⟨rfl, rfl, rfl, trivial⟩ trivial ?_
    rintro s ⟨hk, h0, h1, hp⟩
    conv => whnf
    rw [cT_len]
    refine Br.mk (fun h => ?_) (fun h => ?_)
    · have hk' : s.1 < xs.length := by simp at h; omega
      have hx := hs xs[s.1] (List.getElem_mem _)
      rw [List.drop_eq_getElem_cons hk', szT] at hp
      generalize hq : xs[s.1] = x at hp hx
      conv => whnf
      refine ⟨⟨⟨by omega, by rw [cT_len]; omega⟩, cT_sz xs⟩, ?_⟩
      conv => whnf
      refine ⟨[.s (.string ⟨x.toArray⟩)], by simp [cT, hk', hq], ?_⟩
      conv => whnf
      obtain ⟨m1, e1⟩ : ∃ m1, s.2 - (x.length : Int) = m1 := ⟨_, rfl⟩
      rw [show s.2 - (({ data := x.toArray } : ByteArray).size : Int) = m1 from e1]
      rw [e1] at hp
      refine Wr.fit (wrap_i64 (by omega) (by omega)) ?_
      conv => whnf
      refine Br.mk (fun h => ?_) (fun h => ?_)
      · have h : m1 < 0 := by simpa using h
        rw [if_pos h] at hp
        conv => whnf
        refine ⟨?_, trivial, rfl⟩
        rw [← hp]
      · have h : ¬ m1 < 0 := by simpa using h
        rw [if_neg h] at hp
        conv => whnf
        refine Wr.fit (wrap_i64 (by omega) (by omega)) ?_
        conv => whnf
        exact ⟨(s.1 + 1, m1), ⟨by omega, by omega, by omega, hp⟩, by omega, ⟨rfl, rfl, rfl, trivial⟩, trivial⟩
    · have hk' : s.1 = xs.length := by simp at h; omega
      conv => whnf
      refine ⟨?_, trivial, rfl⟩
      rw [← hp, hk', List.drop_length, szT]

end Go.V
/- The law of ServersFor. -/
namespace Go.V
open Go.Proofs Go.RowKit
set_option maxRecDepth 10000
set_option maxHeartbeats 1000000

theorem szTT_fits {n : Int} {xs : List (List UInt8)} (h : 0 ≤ szTT n xs) : (xs.length : Int) ≤ n ∧ ∀ x, x ∈ xs → (x.length : Int) ≤ n := by
  unfold szTT at h
  split at h
  · omega
  · exact ⟨by omega, fun x hx => by have := szT_fits xs _ h x hx; omega⟩

theorem lend_wholeT {id : Nat} {l : LL} {xs ys : List (List UInt8)} (h : lget id l = .row true 1 (cT (xs ++ ys))) : lend1 l (.ls id 0 xs.length 1) (.d (.sl (cT xs))) := by
  unfold lend1
  simp only [h]
  exact ⟨trivial, by simp [cT], by simp [cT]⟩

theorem cW_cI (ns : List Nat) : cW .i64 ns = cI (ns.map Int.ofNat) := by simp [cW, cI]

theorem allO_lenQ {α β : Type} {f : α → Option β} : ∀ {xs : List α} {ys : List β}, allO f xs = some ys → ys.length = xs.length
  | [], ys, h => by cases h; rfl
  | x :: xs, ys, h => by
      unfold allO at h
      split at h
      · next y zs _ e => cases h; simp [allO_lenQ e]
      · cases h

/-- ServersFor hands back no more than it was handed. -/
theorem serversQ_len {loads : List (List UInt8)} {most : List UInt8} {ns : List Nat} (h : serversQ loads most = some ns) : ns.length ≤ loads.length := by
  unfold serversQ at h
  split at h
  · next x y e1 e2 =>
    split at h
    · have := allO_lenQ h
      have := (rdRats_sz e1).2.1
      omega
    · cases h
  · cases h

theorem law_serversFor (xs : List (List UInt8)) (m : List UInt8) (hl0 : xs.length < 2 ^ 47) (hs0 : ∀ x, x ∈ xs → x.length < 2 ^ 47) (hm : m.length < 2 ^ 47) : Fn Tryz.prog 3 [lT xs, Str m] [] (B true) [] := by
  have c0 := fn_szT xs (1000000 - (m.length : Int)) (by omega) (fun x hx => by have := hs0 x hx; omega) (by omega) (by omega)
  refine Fn.intro (ks := [0,1,4,5,6,7,8,9,10,11,12,13,14,15,23,47,52,68,76,79,95,100,103]) hty rfl rfl rfl rfl rfl ?_
  conv => whnf
  obtain ⟨m1, e1⟩ : ∃ m1, 1000000 - (m.length : Int) = m1 := ⟨_, rfl⟩
  rw [show 1000000 - (({ data := m.toArray } : ByteArray).size : Int) = m1 from e1]
  rw [e1] at c0
  refine Wr.fit (wrap_i64 (by omega) (by omega)) ?_
  conv => whnf
  refine VCall.of_data c0 (nd _) ?_
  obtain ⟨m2, e2⟩ : ∃ m2, szTT m1 xs = m2 := ⟨_, rfl⟩
  rw [e2]
  conv => whnf
  refine Br.mk (fun h => ?_) (fun h => ?_)
  · conv => whnf
    exact ⟨rfl, trivial, rfl⟩
  · have h : 0 ≤ m2 := by simpa using h
    have hf := szTT_fits (e2 ▸ h)
    have hl : xs.length ≤ 1000000 := by omega
    have hs : ∀ x, x ∈ xs → x.length ≤ 1000000 := fun x hx => by have := hf.2 x hx; omega
    conv => whnf
    refine VCall.of_data (fn_toTd xs false hl) (nd _) ?_
    conv => whnf
    have cs := fn_sServersFor xs m (by omega) (fun x hx => by have := hs x hx; omega) (by omega)
    have ci := fn_ServersFor xs m (by omega) (fun x hx => by have := hs x hx; omega) (by omega)
    cases hb : serversQ xs m with
    | none =>
      rw [hb] at cs ci
      refine VCall.of_data cs (ndT fun _ => rfl) ?_
      conv => whnf
      refine VCall.of_ls (k := 32) (fn_toT xs false (.inl rfl) hl) rfl ?_
      conv => whnf
      refine VCall.lend ci ⟨lend_wholeT rfl, rfl, trivial⟩ rfl ?_
      conv => whnf
      refine VCall.of_data (fn_eqT [] (by simp)) (nd _) ?_
      conv => whnf
      refine VCall.of_ls (k := 50) (fn_toT xs false (.inl rfl) hl) rfl ?_
      conv => whnf
      refine VCall.par2 32 50 rfl (fn_intactT xs hl) ⟨⟨rfl, rfl, rfl, rfl⟩, ⟨rfl, rfl, rfl, rfl⟩, trivial⟩ rfl rfl ?_
      conv => whnf
      refine VCall.par1 32 (fn_markT (withRoomT xs) xs.length 101 (by simp [withRoomT]) hl (by omega)) ⟨⟨rfl, rfl, rfl, rfl⟩, rfl, trivial⟩ rfl ?_
      conv => whnf
      refine VCall.of_data (fn_eqT [] (by simp)) (nd _) ?_
      conv => whnf
      refine VCall.of_data (fn_markI0 101) (nd _) ?_
      conv => whnf
      refine VCall.of_data (fn_heldI 0 101 (by omega) (by omega)) (nd _) ?_
      conv => whnf
      refine VCall.of_data (fn_toTd xs true hl) (nd _) ?_
      conv => whnf
      refine VCall.of_data ci (ndT fun _ => rfl) ?_
      conv => whnf
      refine VCall.of_data (fn_eqT [] (by simp)) (nd _) ?_
      conv => whnf
      refine VCall.of_data (fn_heldI 0 101 (by omega) (by omega)) (nd _) ?_
      conv => whnf
      exact ⟨rfl, trivial, rfl⟩
    | some ns =>
      have hn := serversQ_len hb
      rw [hb] at cs ci
      have e3 : cW .i64 ns = cI (ns.map Int.ofNat) := cW_cI ns
      have hyl : (ns.map Int.ofNat).length = ns.length := by simp
      have c1 : Fn Tryz.prog 16 [lT xs, Str m] [] (.tup [.d (.sl (cI (ns.map Int.ofNat))), B true]) [] := by rw [← e3]; exact cs
      have c4 : Fn Tryz.prog 18 [lT xs, Str m] [] (.tup [.ls 0 0 (ns.map Int.ofNat).length 1, B true]) [(0, .row true 1 (cI (ns.map Int.ofNat)))] := by rw [← e3, hyl]; exact ci
      have hyl' : (ns.map Int.ofNat).length ≤ 1000000 := by omega
      generalize ns.map Int.ofNat = ys at c1 c4 hyl'
      have c2 := c4.freezeT (by rw [cI_len]; omega) rfl
      rw [show (List.drop 0 (cI ys)).take ys.length = cI ys by rw [List.drop_zero, List.take_of_length_le (by rw [cI_len]; omega)]] at c2
      have c3 := fn_eqT ys (by omega)
      refine VCall.of_data c1 (ndT fun _ => rfl) ?_
      conv => whnf
      refine VCall.of_ls (k := 32) (fn_toT xs false (.inl rfl) hl) rfl ?_
      conv => whnf
      refine VCall.lendT (k := 36) c4 ⟨lend_wholeT rfl, rfl, trivial⟩ (cI_flat _) rfl rfl ?_
      conv => whnf
      refine VCall.lend c3 ⟨lend_all rfl, rfl, trivial⟩ rfl ?_
      conv => whnf
      refine VCall.of_ls (k := 50) (fn_toT xs false (.inl rfl) hl) rfl ?_
      conv => whnf
      refine VCall.par2 32 50 rfl (fn_intactT xs hl) ⟨⟨rfl, rfl, rfl, rfl⟩, ⟨rfl, rfl, rfl, rfl⟩, trivial⟩ rfl rfl ?_
      conv => whnf
      refine VCall.par1 32 (fn_markT (withRoomT xs) xs.length 101 (by simp [withRoomT]) hl (by omega)) ⟨⟨rfl, rfl, rfl, rfl⟩, rfl, trivial⟩ rfl ?_
      conv => whnf
      refine VCall.lend c3 ⟨lend_all rfl, rfl, trivial⟩ rfl ?_
      conv => whnf
      refine VCall.par1 36 (fn_markI ys ys.length 101 (Nat.le_refl _) (by omega) (by omega)) ⟨⟨rfl, rfl, rfl, rfl⟩, rfl, trivial⟩ rfl ?_
      conv => whnf
      have hm : ∀ l : LL, lget 36 l = .row true 1 (cI (marks 101 ys.length ++ List.drop ys.length ys)) → lend1 l (.ls 36 0 ys.length 1) (.d (.sl (cI (marks 101 ys.length)))) := fun l h => by
        have := lend_whole (xs := marks 101 ys.length) h
        rwa [marks_len] at this
      refine VCall.lend (fn_heldI ys.length 101 (by omega) (by omega)) ⟨hm _ rfl, rfl, trivial⟩ rfl ?_
      conv => whnf
      refine Br.mk (fun h => by simp at h) (fun _ => ?_)
      conv => whnf
      refine VCall.of_data (fn_toTd xs true hl) (nd _) ?_
      conv => whnf
      refine VCall.of_data c2 (ndT fun _ => rfl) ?_
      conv => whnf
      refine VCall.of_data c3 (nd _) ?_
      conv => whnf
      refine VCall.lend (fn_heldI ys.length 101 (by omega) (by omega)) ⟨hm _ rfl, rfl, trivial⟩ rfl ?_
      conv => whnf
      refine Br.mk (fun h => by simp at h) (fun _ => ?_)
      conv => whnf
      exact ⟨rfl, trivial, rfl⟩


end Go.V
/- The decimal text of a number that is not negative: the library's function, after the shelf's own proofs. -/
namespace Go.Proofs
open Go.Shelf Go.RowKit Go.Sort Go.Lib

set_option maxHeartbeats 6400000 in
set_option maxRecDepth 100000 in
theorem Tryz.numDigitsC (u : Nat) (h1 : 1 ≤ u) (h2 : u < 18446744073709551616) (w : World) (hc : ∀ i, i < 20 → w.cell? ⟨3, i, none⟩ = some (.int .u64 ((10 ^ i : Nat) : Int))) :
    Calls Tryz.prog 247 #[.int .u64 u] w fun e w' => e = .returned (.int .i64 (Lib.nDigits u)) ∧ w' = w := by
  obtain ⟨hnd, h19⟩ := Lib.numDigits_eq u h1 h2
  have hL : Lib.bitLen u ≤ 64 := Lib.bitLen_le u 64 (Nat.le_refl _) h2
  have hcell := hc (Lib.l10 (Lib.bitLen u)) (by omega)
  have hto : ((u : Int)).toNat = u := by omega
  generalize hq : Lib.l10 (Lib.bitLen u) = q at hnd h19 hcell
  generalize hT : 10 ^ q = T at hnd hcell
  have h20 : q < 20 := by omega
  have Hnd := Lib.hid hnd
  clear hnd hc
  go_enter Tryz.func247, Tryz.ntmps247
  go_wp2_with (first
    | (go_at_call 254; refine (Tryz.bits_Len64 _ _ (by omega) (by omega)).mono ?_; rintro e w' ⟨rfl, rfl⟩)
    | (go_at_call 253; refine (Tryz.internal_strconv_log10Pow2 _ (by first | exact hL | (rw [hto]; exact hL)) _).mono ?_; rintro e w' ⟨rfl, rfl⟩)
    | (go_at_call 255; refine (Tryz.internal_strconv_bool2_int _ _).mono ?_; rintro e w' ⟨rfl, rfl⟩))
  all_goals go_ret
  all_goals (
    refine ⟨?_, rfl⟩
    have hnd := Hnd.out
    congr 2
    split at hnd <;> simp_all <;> omega)

set_option maxHeartbeats 6400000 in
set_option maxRecDepth 100000 in
theorem Tryz.formatUintS (u : Nat) (hu : u < 100) (w : World) :
    Calls Tryz.prog 235 #[.int .u64 u, .int .i64 10] w fun e w' => e = .returned (.string ⟨(Lib.decDigits u).toArray⟩) ∧ w' = w := by
  have iu : (u : Int) < 100 := by omega
  go_enter Tryz.func235, Tryz.ntmps235
  go_wp2_with (go_at_call 246; refine (Tryz.internal_strconv_small u hu _).mono ?_; rintro e w' ⟨rfl, rfl⟩)
  all_goals go_ret
  all_goals exact ⟨rfl, rfl⟩

set_option maxHeartbeats 6400000 in
set_option maxRecDepth 100000 in
theorem Tryz.formatUintB (u : Nat) (hu : 100 ≤ u) (hu64 : u < 18446744073709551616) (w : World) (hc : ∀ i, i < 20 → w.cell? ⟨3, i, none⟩ = some (.int .u64 ((10 ^ i : Nat) : Int))) :
    Calls Tryz.prog 235 #[.int .u64 u, .int .i64 10] w fun e w' => e = .returned (.string ⟨(Lib.decDigits u).toArray⟩) ∧ ∃ k os, w' = grow (w.drewN k) os := by
  have hu1 : 1 ≤ u := by omega
  have hnd20 : Lib.nDigits u ≤ 20 := by have := Lib.numDigits_eq u hu1 hu64; split at this <;> omega
  have hal : Tryz.prog.arrayLen 238 = 24 := by simp [Program.arrayLen, Tryz.underlying238]
  have hsl : ∀ W, (Instr.sliceAt 238 (.pointer (some ⟨w.heap.size, 0, none⟩)) none (some (.int .i64 (Lib.nDigits u : Int))) none).run Tryz.prog W = .ok (.slice (some ⟨w.heap.size, 0, none⟩) (Lib.nDigits u) 24) W := fun W => by
    rw [run_sliceAt_array_h W 238 ⟨w.heap.size, 0, none⟩ (by simp [Program.arrayLen, Program.elem, Tryz.underlying238]) .i64 (Lib.nDigits u : Int) (by omega) (by rw [hal]; omega)]
    go_simp
  have hH0 := Lib.holds_zero0 w 238 (Lib.nDigits u) (by omega)
  have hfmt := Tryz.internal_strconv_formatBase10 w.heap.size 0 24 u (Array.replicate (Lib.nDigits u) 0) (w.alloc (.cells Lib.zeros24 238)) hH0 (by rw [Array.size_replicate]; exact Lib.lt_pow_nDigits u) hu64 (by rw [Array.size_replicate]; omega)
  rw [Array.size_replicate] at hfmt
  have HH0 := Lib.hid hH0
  have iu : (100 : Int) ≤ (u : Int) := by omega
  have hc' : ∀ i, i < 20 → (w.alloc (.cells Lib.zeros24 238)).cell? ⟨3, i, none⟩ = some (.int .u64 ((10 ^ i : Nat) : Int)) := fun i hi => Lib.cell?_alloc_some _ (hc i hi)
  clear hH0 hal
  go_enter Tryz.func235, Tryz.ntmps235
  go_wp2_with (go_at_call 247; refine (Tryz.numDigitsC u hu1 hu64 _ hc').mono ?_; rintro e w' ⟨rfl, rfl⟩)
  refine hfmt.mono ?_
  rintro e w' ⟨rfl, k, v', dk, rfl, hF⟩
  have hcv : (convert 52 9 (.slice (some ⟨w.heap.size, 0, none⟩) (Lib.nDigits u) 24)).run Tryz.prog ((putRow (fun (b : UInt8) => Value.int .u8 (b.toNat : Int)) (w.alloc (.cells Lib.zeros24 238)) w.heap.size 0 dk).drewN k) = .ok (.string ⟨(Lib.decDigits u).toArray⟩) ((putRow (fun (b : UInt8) => Value.int .u8 (b.toNat : Int)) (w.alloc (.cells Lib.zeros24 238)) w.heap.size 0 dk).drewN k) := by
    have h := run_convert_bytes_back (P := Tryz.prog) ((putRow (fun (b : UInt8) => Value.int .u8 (b.toNat : Int)) (w.alloc (.cells Lib.zeros24 238)) w.heap.size 0 dk).drewN k) 52 9 5 ⟨w.heap.size, 0, none⟩ 24 (Lib.decDigits u) Tryz.underlying52 Tryz.underlying5 Tryz.underlying9 (fun j hj => by
      rw [Lib.row_is_numeral hF j hj, Lib.add_plain, World.cell?_drewN]
      exact cell?_putRow (fun (b : UInt8) => Value.int .u8 (b.toNat : Int)) _ w.heap.size 0 _ dk HH0.out (by rw [hF.size, Array.size_replicate]) j (by rw [hF.size]; rw [Lib.decDigits_length] at hj; exact hj))
    rw [Lib.decDigits_length] at h
    exact h
  go_wp2
  go_ret
  obtain ⟨os, eo⟩ := Lib.fin_at w (.cells Lib.zeros24 238) dk k 0
  exact ⟨rfl, k, os, eo⟩
end Go.Proofs
namespace Go.V
open Go.Proofs Go.RowKit
set_option maxRecDepth 10000

theorem pow10_glob (w : World) (hg : ∀ b o y, glob b o y → w.cell? ⟨b, o, none⟩ = some y) (i : Nat) (hi : i < 20) : w.cell? ⟨3, i, none⟩ = some (.int .u64 ((10 ^ i : Nat) : Int)) := by
  refine hg 3 i _ ?_
  unfold glob
  have e : gget 3 globT = (List.range 20).map fun i => Value.int .u64 ((10 ^ i : Nat) : Int) := rfl
  rw [e]
  simp [hi]

theorem fn_iFormatUint (u : Nat) (hu : u < 18446744073709551616) : Fn Tryz.prog 235 [.d (.s (.int .u64 u)), I 10] [] (Str (Lib.decDigits u)) [] := by
  refine Fn.of_calls (vs := [.int .u64 u, .int .i64 10]) ⟨_, rfl, rfl, rfl⟩ fun w hg => ?_
  by_cases h : u < 100
  · refine Calls.mono (Tryz.formatUintS u h w) ?_
    rintro e w' ⟨rfl, rfl⟩
    exact ⟨_, rfl, fun κ ρ => .d _ _ (.s _), Grew.refl _⟩
  · refine Calls.mono (Tryz.formatUintB u (by omega) hu w (pow10_glob w hg)) ?_
    rintro e w' ⟨rfl, k, os, rfl⟩
    exact ⟨_, rfl, fun κ ρ => .d _ _ (.s _), Grew.below (Lib.below_grow _ w (Nat.le_refl _) k os)⟩

theorem fn_FormatUint (u : Nat) (hu : u < 18446744073709551616) : Fn Tryz.prog 219 [.d (.s (.int .u64 u)), I 10] [] (Str (Lib.decDigits u)) [] := by
  refine Fn.intro (ks := [0,1,4]) hty rfl rfl rfl rfl rfl ?_
  conv => whnf
  refine VCall.of_data (fn_iFormatUint u hu) (nd _) ?_
  conv => whnf
  exact ⟨rfl, trivial, rfl⟩
end Go.V
/- Texts joined: the library's Reverse, Repeat, Join. -/
namespace Go.V
open Go.Proofs Go.RowKit
set_option maxRecDepth 10000
set_option maxHeartbeats 1000000

def revL (zs : List (List UInt8)) (k : Nat) : List (List UInt8) := (List.range zs.length).map fun i => if i < k ∨ zs.length - 1 - i < k then zs.getD (zs.length - 1 - i) [] else zs.getD i []
theorem revL_len (zs : List (List UInt8)) (k : Nat) : (revL zs k).length = zs.length := by simp [revL]
theorem revL_zero (zs : List (List UInt8)) : revL zs 0 = zs := by
  apply List.ext_getElem (by simp [revL_len])
  intro i h1 h2
  simp [revL, h2]
theorem revL_end (zs : List (List UInt8)) (k : Nat) (h : zs.length ≤ 2 * k + 1) : revL zs k = zs.reverse := by
  apply List.ext_getElem (by simp [revL_len])
  intro i h1 h2
  have h2 : i < zs.length := by simpa using h2
  simp only [revL, List.getElem_map, List.getElem_range, List.getElem_reverse]
  rw [List.getD_eq_getElem?_getD, List.getD_eq_getElem?_getD, List.getElem?_eq_getElem (by omega), List.getElem?_eq_getElem (by omega)]
  by_cases hc : i < k ∨ zs.length - 1 - i < k
  · rw [if_pos hc]; simp
  · rw [if_neg hc]; have : i = zs.length - 1 - i := by omega
    simp [← this]
theorem revL_at (zs : List (List UInt8)) (k i : Nat) (h1 : ¬ i < k) (h2 : ¬ zs.length - 1 - i < k) (hi : i < zs.length) : (revL zs k).getD i [] = zs.getD i [] := by
  rw [List.getD_eq_getElem?_getD, List.getElem?_eq_getElem (by rw [revL_len]; exact hi)]
  simp [revL, h1, h2]
theorem revL_step (zs : List (List UInt8)) (k : Nat) (h : 2 * k + 1 < zs.length) : ((revL zs k).set k (zs.getD (zs.length - 1 - k) [])).set (zs.length - 1 - k) (zs.getD k []) = revL zs (k + 1) := by
  apply List.ext_getElem (by simp [revL_len])
  intro i h1 h2
  have hi : i < zs.length := by simpa [revL_len] using h2
  rw [List.getElem_set, List.getElem_set]
  simp only [revL, List.getElem_map, List.getElem_range]
  by_cases e1 : zs.length - 1 - k = i
  · rw [if_pos e1, if_pos (by omega), show zs.length - 1 - i = k by omega]
  · rw [if_neg e1]
    by_cases e2 : k = i
    · rw [if_pos e2, if_pos (by omega), e2]
    · rw [if_neg e2]
      by_cases hc : i < k ∨ zs.length - 1 - i < k
      · rw [if_pos hc, if_pos (by omega)]
      · rw [if_neg hc, if_neg (by omega)]

theorem fn_Reverse (zs : List (List UInt8)) (hl : zs.length ≤ 1000000000000) :
    Fn Tryz.prog 221 [.ls 1000000 0 zs.length 1] [(1000000, .row true 1 (cT zs))] (.tup []) [(1000000, .row true 1 (cT zs.reverse))] := by
  refine Fn.intro (ks := [0,2,3,9]) hty rfl rfl rfl rfl rfl ?_
  conv => whnf
  refine Wr.fit (wrap_i64 (by omega) (by omega)) ?_
  conv => whnf
  refine VLoop.inv hty (S := Nat) (fun k => [(3, I ((zs.length : Int) - 1 - k)), (2, I k), (0, .ls 1000000 0 zs.length 1)]) (fun k => [(1000000, .row true 1 (cT (revL zs k)))]) (fun k => k ≤ zs.length) (fun k => zs.length - k) 0 (Nat.zero_le _)
    ⟨congrArg I (by simp), rfl, rfl, trivial⟩ ⟨by rw [revL_zero]; rfl, trivial⟩ ?_
  intro k hk
  conv => whnf
  obtain ⟨j, ej⟩ : ∃ j, (zs.length : Int) - 1 - k = j := ⟨_, rfl⟩
  rw [ej]
  refine Br.mk (fun h => ?_) (fun h => ?_)
  · have h : (k : Int) < j := by simpa using h
    have hk2 : 2 * k + 1 < zs.length := by omega
    conv => whnf
    obtain ⟨m, rfl⟩ : ∃ m : Nat, j = m := ⟨j.toNat, by omega⟩
    have hm : m = zs.length - 1 - k := by omega
    have hR := revL_len zs k
    have hstep := revL_step zs k hk2
    rw [← hm] at hstep
    have e1 := revL_at zs k k (by omega) (by omega) (by omega)
    have e2 := revL_at zs k m (by omega) (by omega) (by omega)
    generalize zs.getD k [] = a at e1 hstep
    generalize zs.getD m [] = b at e2 hstep
    generalize revL zs k = R at hR e1 e2 hstep ⊢
    have c1 : 0 ≤ (k : Int) ∧ (k : Int) < zs.length := by omega
    have c2 : 0 ≤ (m : Int) ∧ (m : Int) < zs.length := by omega
    have a1 := cT_as (by omega) e1
    have a2 := cT_as (by omega) e2
    have a3 : ((cT R).set k [.s (.string ⟨b.toArray⟩)])[m]? = some [.s (.string ⟨b.toArray⟩)] := by rw [List.getElem?_set_ne (by omega)]; exact a2
    refine VDraw.goS hmo hty [0,1,2,3,4,5,8,9] rfl ?_
    conv => whnf
    repeat' (first
      | (refine ⟨c1, ?_⟩; conv => whnf)
      | (refine ⟨c2, ?_⟩; conv => whnf)
      | (refine ⟨_, a1, ?_⟩; conv => whnf)
      | (refine ⟨_, a2, ?_⟩; conv => whnf)
      | (refine ⟨_, a3, ?_⟩; conv => whnf)
      | (refine Wr.fit (wrap_i64 (by omega) (by omega)) ?_; conv => whnf)
      | exact ⟨k + 1, by omega, by omega, ⟨congrArg I (by omega), rfl, rfl, trivial⟩, by rw [← hstep, ← cT_set, ← cT_set]; rfl, trivial⟩
      | (refine ⟨?_, ?_⟩ <;> conv => whnf))
  · have h : ¬ (k : Int) < j := by simpa using h
    conv => whnf
    rw [revL_end zs k (by omega)]
    exact ⟨⟨rfl, trivial⟩, rfl⟩

theorem VCall.par1u {P : Program} {t : TL} {l : LL} {f : FuncId} {xs xs0 : List AV} {sz sz' : Nat} {rows rows' : List (List C)} {dst : Option Nat} {K : AV → TL → LL → Prop} (a : Nat)
    (h : Fn P f xs0 [(1000000, .row true sz rows)] (.tup []) [(1000000, .row true sz' rows')]) (ha : argR (pmap [(1000000, a)]) xs xs0) (hl : lget a l = .row true sz rows)
    (hK : K (.tup []) t ((a, .row true sz' rows') :: l)) : VCall P f xs dst t l K :=
  VCall.of_fnR (k := 0) (pmap [(1000000, a)]) h ha ⟨⟨hl, fun p h => absurd rfl h⟩, trivial⟩ rfl (keepRows rfl rfl) (fun _ h => by cases h) rfl hK

theorem repeat_one (c : UInt8) (n : Nat) : Lib.repeatL [c] n = List.replicate n c := by
  induction n with
  | zero => rfl
  | succ n ih => rw [Lib.repeatL, ih]; rfl

theorem fn_Repeat (s : List UInt8) (c : Nat) (hc : c ≤ 1000000000) (hl : s.length ≤ 1000) : Fn Tryz.prog 220 [Str s, I c] [] (Str (Lib.repeatL s c)) [] := by
  refine Fn.of_calls (vs := [.string ⟨s.toArray⟩, .int .i64 c]) ⟨_, rfl, rfl, rfl⟩ fun w _ => ?_
  have hb : (⟨s.toArray⟩ : ByteArray).size = s.length := by simp [ByteArray.size]
  have hm : s.length * c ≤ 1000 * 1000000000 := Nat.mul_le_mul hl hc
  refine Calls.mono (Tryz.strings_Repeat ⟨s.toArray⟩ c w (by omega) (by rw [hb]; omega)) ?_
  rintro e w' ⟨rfl, hw⟩
  refine ⟨_, rfl, fun κ ρ => ?_, Grew.below hw⟩
  exact .d _ _ (.s _)

theorem repr_sl {κ : Know} {v : Value} {rows : List (List C)} (h : Repr κ v (.sl rows)) : (rows = [] ∧ ∃ a cap, v = .slice a 0 cap) ∨
    ∃ (b off n cap : Nat) (vs : Nat → Value), v = .slice (some ⟨b, off, none⟩) n cap ∧ n = rows.length ∧ n ≤ cap ∧ (∀ (k : Nat) (c : C), rows.flatten[k]? = some c → κ b (off + k) (vs k)) ∧ ∀ (k : Nat) (c : C), rows.flatten[k]? = some c → Repr κ (vs k) c := by
  cases h with
  | nil => exact .inl ⟨rfl, _, _, rfl⟩
  | none a cap => exact .inl ⟨rfl, _, _, rfl⟩
  | sl b off n cap rows vs hn hc hk hr => exact .inr ⟨b, off, n, cap, vs, rfl, hn, hc, hk, hr⟩

theorem cT_flatten (xs : List (List UInt8)) : (cT xs).flatten = xs.map fun s => C.s (.string ⟨s.toArray⟩) := by
  induction xs with
  | nil => rfl
  | cons x xs ih => simp only [cT, List.map_cons, List.flatten_cons] at ih ⊢; rw [ih]; rfl

theorem fn_Join (xs : List (List UInt8)) (sep : List UInt8) (hN : xs.length ≤ 100000000000) (hlen : (Lib.join xs sep).length ≤ 1000000000000) : Fn Tryz.prog 222 [lT xs, Str sep] [] (Str (Lib.join xs sep)) [] where
  en := ⟨_, rfl, rfl, rfl⟩
  out := fun κ ρ w us hm hs hv => by
    have hs : us.size = 2 := hs
    have h0 := hv 0 us[0] (lT xs) (by simp) rfl
    have h1 := hv 1 us[1] (Str sep) (by simp) rfl
    have eus : us = #[us[0], us[1]] := by
      apply Array.ext
      · simpa using hs
      · intro i h1 h2
        match i, h1 with
        | 0, _ => rfl
        | 1, _ => rfl
        | i + 2, h1 => omega
    have e1 : us[1] = .string ⟨sep.toArray⟩ := by
      generalize us[1] = v1 at h1
      cases h1 with
      | d _ _ h => cases h; rfl
    generalize us[0] = v0 at h0 eus
    rw [e1] at eus
    subst eus
    have h0 : Repr κ v0 (.sl (cT xs)) := by cases h0 with | d _ _ h => exact h
    have hnone : ∀ (a : Option Addr) (c : Nat), xs = [] → v0 = .slice a 0 c → Calls Tryz.prog 222 #[v0, .string ⟨sep.toArray⟩] w fun e w' => ∃ v κ' ρ', e = .returned v ∧ κ.le κ' ∧ Mem ⟨w, Mof ρ [], κ, 0, ρ⟩ κ' ρ' [] w' ∧ AVR κ' ρ' v (Str (Lib.join xs sep)) := by
      intro a c hx he
      subst hx; subst he
      refine Calls.mono (Tryz.strings_Join_none a c ⟨sep.toArray⟩ w) ?_
      rintro e w' ⟨rfl, rfl⟩
      exact ⟨_, κ, ρ, rfl, Know.le_refl _, hm, .d _ _ (.s _)⟩
    rcases repr_sl h0 with ⟨hx, a, cap, he⟩ | ⟨b, off, n, cap, vs, he, hn, hc, hk, hr⟩
    · exact hnone a cap (by simpa [cT] using hx) he
    · rw [cT_len] at hn
      subst hn
      by_cases hx : xs = []
      · exact hnone (some ⟨b, off, none⟩) cap hx (by rw [he, hx]; rfl)
      · subst he
        have key : ∀ (j : Nat) (s : List UInt8), xs[j]? = some s → κ b (off + j) (.string ⟨s.toArray⟩) := by
          intro j s hj
          have hc0 : (cT xs).flatten[j]? = some (.s (.string ⟨s.toArray⟩)) := by rw [cT_flatten, List.getElem?_map, hj]; rfl
          have h2 := hk j _ hc0
          have h3 := hr j _ hc0
          generalize vs j = y at h2 h3
          cases h3 with
          | s => exact h2
        have hbk : b < w.heap.size := by
          obtain ⟨s, hs0⟩ : ∃ s, xs[0]? = some s := by cases xs with | nil => exact absurd rfl hx | cons s r => exact ⟨s, rfl⟩
          exact hm.known_block (key 0 s hs0)
        have em : (xs.map fun s => (⟨s.toArray⟩ : ByteArray)).map (·.data.toList) = xs := by simp [Function.comp_def]
        have h := Tryz.strings_Join b off cap (xs.map fun s => (⟨s.toArray⟩ : ByteArray)) ⟨sep.toArray⟩ w (by
          intro j x hj
          rw [List.getElem?_map] at hj
          cases hj2 : xs[j]? with
          | none => rw [hj2] at hj; cases hj
          | some s =>
            rw [hj2] at hj; cases hj
            exact hm.kn _ _ _ (key j s hj2)) hbk (by simp; omega) (by simpa using hc) (by rw [em]; show (Lib.join xs sep).length ≤ _; omega)
        rw [em, List.length_map] at h
        refine Calls.mono h ?_
        rintro e w' ⟨rfl, hw⟩
        exact ⟨_, κ, ρ, rfl, Know.le_refl _, hm.grew (Grew.below hw), .d _ _ (.s _)⟩
end Go.V
/- The decimal text of a natural number, by parts of nine digits. -/
namespace Go.V
open Go.Proofs Go.RowKit
set_option maxRecDepth 10000
set_option maxHeartbeats 1000000

abbrev dd (n : Nat) : List UInt8 := Lib.decDigits n
theorem dd_small {n : Nat} (h : n < 10) : dd n = [UInt8.ofNat (48 + n)] := by rw [dd, Lib.decDigits, dif_pos h]
theorem dd_big {n : Nat} (h : ¬ n < 10) : dd n = dd (n / 10) ++ [UInt8.ofNat (48 + n % 10)] := by rw [dd, Lib.decDigits, dif_neg h]
theorem dd_ne (n : Nat) : dd n ≠ [] := by
  by_cases h : n < 10
  · rw [dd_small h]; simp
  · rw [dd_big h]; simp
theorem dd_len_le : ∀ (k n : Nat), n < 10 ^ (k + 1) → (dd n).length ≤ k + 1
  | 0, n, h => by rw [dd_small (by simpa using h)]; simp
  | k + 1, n, h => by
      by_cases h9 : n < 10
      · rw [dd_small h9]; simp
      · rw [dd_big h9, List.length_append, List.length_singleton]
        have := dd_len_le k (n / 10) (by rw [Nat.pow_succ] at h; omega)
        omega
theorem dd_bl (n : Nat) : (dd n).length ≤ bl n + 1 := dd_len_le (bl n) n (by
  have h1 := lt_bl n
  have h2 : 2 ^ bl n ≤ 10 ^ bl n := Nat.pow_le_pow_left (by decide) _
  have h3 : 10 ^ bl n ≤ 10 ^ (bl n + 1) := Nat.pow_le_pow_right (by decide) (by omega)
  omega)

def padd (k r : Nat) : List UInt8 := List.replicate (k - (dd r).length) 48 ++ dd r
theorem padd_len {k r : Nat} (h : r < 10 ^ (k + 1)) : (padd (k + 1) r).length = k + 1 := by
  have := dd_len_le k r h
  simp only [padd, List.length_append, List.length_replicate]; omega
theorem padd_succ {k r : Nat} (h : r < 10 ^ (k + 2)) : padd (k + 2) r = padd (k + 1) (r / 10) ++ [UInt8.ofNat (48 + r % 10)] := by
  by_cases h9 : r < 10
  · have e : r / 10 = 0 := by omega
    have e2 : r % 10 = r := by omega
    rw [e, e2, padd, padd, dd_small h9, dd_small (n := 0) (by decide)]
    show List.replicate (k + 2 - 1) 48 ++ _ = (List.replicate (k + 1 - 1) 48 ++ [48]) ++ _
    rw [show k + 2 - 1 = k + 1 by omega, show k + 1 - 1 = k by omega, List.replicate_succ', List.append_assoc]
  · rw [padd, padd, dd_big h9, List.length_append, List.length_singleton, List.append_assoc, show k + 2 - ((dd (r / 10)).length + 1) = k + 1 - (dd (r / 10)).length by omega]
theorem dd_split : ∀ (k q r : Nat), 0 < q → r < 10 ^ (k + 1) → dd (q * 10 ^ (k + 1) + r) = dd q ++ padd (k + 1) r
  | 0, q, r, hq, hr => by
      have hr : r < 10 := by simpa using hr
      rw [show q * 10 ^ (0 + 1) + r = q * 10 + r by simp, dd_big (by omega), show (q * 10 + r) / 10 = q by omega, show (q * 10 + r) % 10 = r by omega, padd, dd_small hr]
      rfl
  | k + 1, q, r, hq, hr => by
      have e : q * 10 ^ (k + 2) + r = (q * 10 ^ (k + 1)) * 10 + r := by rw [Nat.pow_succ, Nat.mul_assoc]
      have hp : 0 < 10 ^ (k + 1) := Nat.pow_pos (by decide)
      have hq2 : 1 ≤ q * 10 ^ (k + 1) := Nat.mul_pos hq hp
      rw [e, dd_big (by omega), show (q * 10 ^ (k + 1) * 10 + r) / 10 = q * 10 ^ (k + 1) + r / 10 by omega, show (q * 10 ^ (k + 1) * 10 + r) % 10 = r % 10 by omega,
        dd_split k q (r / 10) hq (by rw [Nat.pow_succ] at hr; omega), padd_succ hr, List.append_assoc]
theorem dd_nine {n : Nat} (h : 0 < n / 1000000000) : dd n = dd (n / 1000000000) ++ padd 9 (n % 1000000000) := by
  have := dd_split 8 (n / 1000000000) (n % 1000000000) h (Nat.mod_lt _ (by decide))
  rw [show n / 1000000000 * 10 ^ (8 + 1) + n % 1000000000 = n by have := Nat.div_add_mod n 1000000000; simp only [Nat.reduceAdd, Nat.reducePow]; omega] at this
  exact this
theorem dd_one {n : Nat} : dd n = [49] ↔ n = 1 := by
  constructor
  · intro h
    by_cases h9 : n < 10
    · rw [dd_small h9] at h
      have h : UInt8.ofNat (48 + n) = 49 := by simpa using h
      have := congrArg UInt8.toNat h
      rw [UInt8.toNat_ofNat'] at this
      have e : (49 : UInt8).toNat = 49 := rfl
      rw [e] at this
      omega
    · rw [dd_big h9] at h
      have h5 := congrArg List.length h
      rw [List.length_append, List.length_singleton, List.length_singleton] at h5
      have := List.length_pos_iff.2 (dd_ne (n / 10))
      omega
  · intro h; rw [h, dd_small (by decide)]; rfl
theorem dd_base {r : Nat} (h : r < 1000000000) : dd (r + 1000000000) = 49 :: padd 9 r := by
  have := dd_split 8 1 r (by decide) (by simpa using h)
  rw [show 1 * 10 ^ (8 + 1) + r = r + 1000000000 by simp only [Nat.reduceAdd, Nat.reducePow]; omega] at this
  rw [this, dd_one.2 rfl]; rfl
theorem itoa_nat (n : Nat) : Lib.itoa (n : Int) = dd n := Lib.itoa_nonneg n
end Go.V
/- The program's text of a natural number. -/
namespace Go.V
open Go.Proofs Go.RowKit
set_option maxRecDepth 10000
set_option maxHeartbeats 1000000

def headT (n : Nat) : List UInt8 := if n = 0 then [] else dd n
theorem head_step {n : Nat} (h : n ≠ 0) : headT (n / 1000000000) ++ (if n / 1000000000 = 0 then dd (n % 1000000000) else padd 9 (n % 1000000000)) = dd n := by
  unfold headT
  by_cases h0 : n / 1000000000 = 0
  · rw [if_pos h0, if_pos h0, List.nil_append, show n % 1000000000 = n by omega]
  · rw [if_neg h0, if_neg h0, ← dd_nine (by omega)]

theorem lend_allT {id n : Nat} {l : LL} {xs : List (List UInt8)} (hn : xs.length = n) (h : lget id l = .row true 1 (cT xs)) : lend1 l (.ls id 0 n 1) (.d (.sl (cT xs))) := by
  subst hn
  have : xs = xs ++ [] := by simp
  rw [this] at h
  exact lend_wholeT h

theorem join_flat (xs : List (List UInt8)) : Lib.join xs [] = xs.flatten := by
  unfold Lib.join
  induction xs with
  | nil => rfl
  | cons x r ih =>
    cases r with
    | nil => simp [List.intercalate]
    | cons y r => simp [List.intercalate, List.intersperse] at ih ⊢; rw [← ih]


theorem bl_part {n : Nat} (h : n ≠ 0) : bl (n / 1000000000) + 1 ≤ bl n := by
  have h1 := lt_bl n
  have h0 : 1 ≤ bl n := by
    rcases Nat.eq_zero_or_pos (bl n) with e | e
    · rw [e] at h1; omega
    · exact e
  have : bl (n / 1000000000) ≤ bl n - 1 := bl_le (by
    obtain ⟨k, ek⟩ : ∃ k, bl n = k + 1 := ⟨bl n - 1, by omega⟩
    rw [ek] at h1 ⊢
    rw [Nat.pow_succ] at h1
    show _ < 2 ^ (k + 1 - 1)
    rw [Nat.add_sub_cancel]; omega)
  omega

theorem fn_text (N : Nat) (hN : bl N ≤ 100000000000) : Fn Tryz.prog 198 [nI N] [] (Str (dd N)) [] := by
  refine Fn.intro (ks := [0,2,3,4,5,6,9,13,24]) hty rfl rfl rfl rfl rfl ?_
  conv => whnf
  rw [cW_len]
  refine Br.mk (fun h => ?_) (fun h => ?_)
  · have h : N = 0 := by
      have h : (dg B32 N).length = 0 := by simpa using h
      exact (dg_len_zero b32).1 h
    conv => whnf
    refine ⟨?_, trivial, rfl⟩
    rw [h, dd_small (by decide)]; rfl
  · have h : N ≠ 0 := by
      intro e; rw [e] at h; simp [dg_zero] at h
    conv => whnf
    refine VLoop.ren 10 34 rfl ?_
    refine VLoop.inv hty (S := Nat × List (List UInt8)) (fun s => [(3, .ls 34 0 s.2.length 1), (0, nI s.1)]) (fun s => [(34, .row true 1 (cT s.2))])
      (fun s => s.1 ≤ N ∧ s.1 + s.2.length ≤ N ∧ headT s.1 ++ s.2.reverse.flatten = dd N ∧ bl s.1 + s.2.length ≤ bl N) (fun s => s.1) (N, []) ⟨Nat.le_refl _, Nat.le_refl _, by simp [headT, h], Nat.le_refl _⟩
      ⟨rfl, rfl, trivial⟩ ⟨rfl, trivial⟩ ?_
    rintro s ⟨h1, h2, h3, h4⟩
    conv => whnf
    rw [cW_len]
    refine Br.mk (fun h5 => ?_) (fun h5 => ?_)
    · have h6 : s.1 ≠ 0 := by
        intro e; rw [e] at h5; simp [dg_zero] at h5
      have hd := fn_divSmall s.1 1000000000 (by omega) (by decide) (by decide)
      have hb := bl_part h6
      have hs := head_step h6
      rw [headT, if_neg h6] at h3
      obtain ⟨q, eq⟩ : ∃ q, s.1 / 1000000000 = q := ⟨_, rfl⟩
      obtain ⟨r, er⟩ : ∃ r, s.1 % 1000000000 = r := ⟨_, rfl⟩
      have hr : r < 1000000000 := by omega
      have hq : q < s.1 := by omega
      rw [eq] at hd hb hs
      rw [er] at hd hs
      conv => whnf
      refine VCall.of_data hd (ndT (fun k => rfl)) ?_
      conv => whnf
      refine Wr.n64 (n := r) rfl (by omega) ?_
      conv => whnf
      refine VCall.of_data (fn_FormatUint r (by omega)) (nd _) ?_
      conv => whnf
      rw [cW_len]
      by_cases hq0 : q = 0
      · rw [decide_eq_false (by rw [hq0]; simp [dg_zero])]
        rw [if_pos hq0] at hs
        conv => whnf
        refine Sub.full rfl ?_
        conv => whnf
        refine Sub.full (by rw [cT_len]) ?_
        conv => whnf
        refine ⟨by show (s.2.length + 1) * 16 ≤ _; omega, ?_⟩
        conv => whnf
        exact ⟨(q, s.2 ++ [dd r]), ⟨by omega, by show q + (s.2 ++ [dd r]).length ≤ N; rw [List.length_append, List.length_singleton]; omega, by rw [← h3, ← hs]; simp, by show bl q + (s.2 ++ [dd r]).length ≤ bl N; rw [List.length_append, List.length_singleton]; omega⟩, hq, ⟨by show AV.ls 34 0 (s.2.length + 1) 1 = AV.ls 34 0 (s.2 ++ [dd r]).length 1; rw [List.length_append, List.length_singleton], rfl, trivial⟩, by show Ob.row true 1 (cT s.2 ++ cT [dd r]) = _; rw [cT_append], trivial⟩
      · rw [decide_eq_true (by have := dg_len_zero b32 (n := q); omega)]
        rw [if_neg hq0] at hs
        have hdl := dd_len_le 8 r (by simpa using hr)
        obtain ⟨z, ez⟩ : ∃ z : Nat, 9 - (dd r).length = z := ⟨_, rfl⟩
        conv => whnf
        refine Wr.i64 (y := (z : Int)) (by show (9 : Int) - ((⟨(dd r).toArray⟩ : ByteArray).size : Int) = z; rw [bsize]; omega) (by omega) (by omega) ?_
        conv => whnf
        refine VCall.of_data (fn_Repeat [48] z (by omega) (by simp)) (nd _) ?_
        rw [repeat_one]
        conv => whnf
        have ep : List.replicate z 48 ++ dd r = padd 9 r := by rw [padd, ez]
        refine ⟨by rw [bsize, bsize, List.length_replicate]; show z + (dd r).length < 2 ^ 62; omega, ?_⟩
        rw [show (⟨(List.replicate z 48).toArray⟩ : ByteArray) ++ ⟨(Lib.decDigits r).toArray⟩ = ⟨(padd 9 r).toArray⟩ by rw [← ep]; apply ByteArray.ext; simp]
        conv => whnf
        refine Sub.full rfl ?_
        conv => whnf
        refine Sub.full (by rw [cT_len]) ?_
        conv => whnf
        refine ⟨by show (s.2.length + 1) * 16 ≤ _; omega, ?_⟩
        conv => whnf
        exact ⟨(q, s.2 ++ [padd 9 r]), ⟨by omega, by show q + (s.2 ++ [padd 9 r]).length ≤ N; rw [List.length_append, List.length_singleton]; omega, by rw [← h3, ← hs]; simp, by show bl q + (s.2 ++ [padd 9 r]).length ≤ bl N; rw [List.length_append, List.length_singleton]; omega⟩, hq, ⟨by show AV.ls 34 0 (s.2.length + 1) 1 = AV.ls 34 0 (s.2 ++ [padd 9 r]).length 1; rw [List.length_append, List.length_singleton], rfl, trivial⟩, by show Ob.row true 1 (cT s.2 ++ cT [padd 9 r]) = _; rw [cT_append], trivial⟩
    · have h6 : s.1 = 0 := by
        have h6 : (dg B32 s.1).length = 0 := by simpa using h5
        exact (dg_len_zero b32).1 h6
      have h3 : s.2.reverse.flatten = dd N := by rw [← h3, h6]; rfl
      have hl : s.2.length ≤ 100000000000 := by omega
      have hjl : (Lib.join s.2.reverse []).length ≤ 1000000000000 := by rw [join_flat, h3]; have := dd_bl N; omega
      conv => whnf
      refine VCall.par1u 34 (fn_Reverse s.2 (by omega)) ⟨⟨rfl, rfl, rfl, rfl⟩, trivial⟩ rfl ?_
      conv => whnf
      refine VCall.lend (fn_Join s.2.reverse [] (by rw [List.length_reverse]; omega) hjl) ⟨lend_allT (by rw [List.length_reverse]) rfl, rfl, trivial⟩ rfl ?_
      rw [join_flat, h3]
      conv => whnf
      exact ⟨rfl, trivial, rfl⟩
end Go.V
/- The text of a fraction. -/
namespace Go.V
open Go.Proofs Go.RowKit
set_option maxRecDepth 10000
set_option maxHeartbeats 1000000

def ratT (q : Rat) : List UInt8 := ((if ng q then [45] else []) ++ dd (tp q)) ++ (if q.den = 1 then [] else 47 :: dd q.den)
def fitsQ (q : Rat) : Bool := decide ((dd (tp q)).length ≤ 200) && decide ((dd q.den).length ≤ 200)


theorem baeq (b c : List UInt8) : ((⟨b.toArray⟩ : ByteArray).toList == (⟨c.toArray⟩ : ByteArray).toList) = decide (b = c) := by
  rw [Bool.eq_iff_iff]; simp
theorem le200 (a : List UInt8) : decide (((⟨a.toArray⟩ : ByteArray).size : Int) ≤ 200) = decide (a.length ≤ 200) := by
  rw [bsize]; congr 1; simp; omega
theorem cat2 (a b : List UInt8) : (⟨a.toArray⟩ : ByteArray) ++ ⟨b.toArray⟩ = ⟨(a ++ b).toArray⟩ := by apply ByteArray.ext; simp
theorem cat1 (c : UInt8) (b : List UInt8) : (⟨#[c]⟩ : ByteArray) ++ ⟨b.toArray⟩ = ⟨(c :: b).toArray⟩ := cat2 [c] b

theorem fn_ratText (q : Rat) (hs : sz q ≤ 100000000000) : Fn Tryz.prog 165 [rI q] [] (.tup [Str (ratT q), B (fitsQ q)]) [] := by
  have c1 := fn_text (tp q) (Nat.le_trans (bl_tp q) hs)
  have c2 := fn_text q.den (Nat.le_trans (bl_den q) hs)
  have l1 : (dd (tp q)).length ≤ 100000000001 := Nat.le_trans (dd_bl _) (by have := bl_tp q; omega)
  have l2 : (dd q.den).length ≤ 100000000001 := Nat.le_trans (dd_bl _) (by have := bl_den q; omega)
  have ho := dd_one (n := q.den)
  unfold ratT fitsQ
  generalize dd (tp q) = a at c1 l1 ⊢
  generalize hb : dd q.den = b at c2 l2 ho ⊢
  refine Fn.intro (ks := [0,1,2,3,4,5,6,15,19]) hty rfl rfl rfl rfl rfl ?_
  conv => whnf
  refine VDraw.go hmo hty 8 [] rfl ?_
  conv => whnf
  refine QCall.of_data c1 (nd _) ?_
  conv => whnf
  refine QCall.of_data c2 (nd _) ?_
  conv => whnf
  refine Br.mk (fun h => ?_) (fun h => ?_)
  · rw [h]
    conv => whnf
    refine ⟨by rw [bsize]; show 1 + a.length < 2 ^ 62; omega, ?_⟩
    rw [cat1]
    conv => whnf
    rw [show ((⟨b.toArray⟩ : ByteArray).toList == (⟨#[49]⟩ : ByteArray).toList) = decide (b = [49]) from baeq b [49]]
    by_cases h1 : q.den = 1
    · rw [decide_eq_true (ho.2 h1)]
      rw [if_pos h1]
      conv => whnf
      rw [le200 a]
      cases hA : decide (a.length ≤ 200)
      · conv => whnf
        exact ⟨by simp, rfl, trivial, rfl⟩
      · conv => whnf
        rw [le200 b]
        cases hB : decide (b.length ≤ 200)
        · conv => whnf
          exact ⟨by simp, rfl, trivial, rfl⟩
        · conv => whnf
          exact ⟨by simp, rfl, trivial, rfl⟩
    · rw [decide_eq_false (fun e => h1 (ho.1 e))]
      rw [if_neg h1]
      conv => whnf
      refine ⟨by rw [bsize]; show 1 + b.length < 2 ^ 62; omega, ?_⟩
      rw [cat1]
      conv => whnf
      refine ⟨by rw [bsize, bsize]; show (45 :: a).length + (b.length + 1) < 2 ^ 62; simp; omega, ?_⟩
      rw [cat2]
      conv => whnf
      rw [le200 a]
      cases hA : decide (a.length ≤ 200)
      · conv => whnf
        exact ⟨by simp, rfl, trivial, rfl⟩
      · conv => whnf
        rw [le200 b]
        cases hB : decide (b.length ≤ 200)
        · conv => whnf
          exact ⟨by simp, rfl, trivial, rfl⟩
        · conv => whnf
          exact ⟨by simp, rfl, trivial, rfl⟩
  · rw [h]
    conv => whnf
    rw [show ((⟨b.toArray⟩ : ByteArray).toList == (⟨#[49]⟩ : ByteArray).toList) = decide (b = [49]) from baeq b [49]]
    by_cases h1 : q.den = 1
    · rw [decide_eq_true (ho.2 h1)]
      rw [if_pos h1]
      conv => whnf
      rw [le200 a]
      cases hA : decide (a.length ≤ 200)
      · conv => whnf
        exact ⟨by simp, rfl, trivial, rfl⟩
      · conv => whnf
        rw [le200 b]
        cases hB : decide (b.length ≤ 200)
        · conv => whnf
          exact ⟨by simp, rfl, trivial, rfl⟩
        · conv => whnf
          exact ⟨by simp, rfl, trivial, rfl⟩
    · rw [decide_eq_false (fun e => h1 (ho.1 e))]
      rw [if_neg h1]
      conv => whnf
      refine ⟨by rw [bsize]; show 1 + b.length < 2 ^ 62; omega, ?_⟩
      rw [cat1]
      conv => whnf
      refine ⟨by rw [bsize, bsize]; show (a).length + (b.length + 1) < 2 ^ 62; simp; omega, ?_⟩
      rw [cat2]
      conv => whnf
      rw [le200 a]
      cases hA : decide (a.length ≤ 200)
      · conv => whnf
        exact ⟨by simp, rfl, trivial, rfl⟩
      · conv => whnf
        rw [le200 b]
        cases hB : decide (b.length ≤ 200)
        · conv => whnf
          exact ⟨by simp, rfl, trivial, rfl⟩
        · conv => whnf
          exact ⟨by simp, rfl, trivial, rfl⟩
end Go.V
/- What is told: fractions and lists of them. -/
namespace Go.V
open Go.Proofs Go.RowKit
set_option maxRecDepth 10000
set_option maxHeartbeats 1000000

def toldT (q : Rat) : List UInt8 := if fitsQ q then ratT q else []

theorem fn_told (q : Rat) (hs : sz q ≤ 100000000000) : Fn Tryz.prog 95 [rI q] [] (.tup [Str (toldT q), B (fitsQ q)]) [] := by
  have c := fn_ratText q hs
  unfold toldT
  refine Fn.intro (ks := [0,1,2,3,4,5,12]) hty rfl rfl rfl rfl rfl ?_
  conv => whnf
  refine VCall.of_data c (ndT (fun k => rfl)) ?_
  conv => whnf
  cases fitsQ q
  · conv => whnf
    exact ⟨rfl, rfl, trivial, rfl⟩
  · conv => whnf
    exact ⟨rfl, rfl, trivial, rfl⟩

def toldTs (qs : List Rat) : Option (List (List UInt8)) := if qs.all fitsQ then some (qs.map ratT) else none

/-- What a list of texts is handed back as. -/
def ansT : Option (List (List UInt8)) → AV × LL
  | some ts => (.tup [.ls 0 0 ts.length 1, B true], [(0, .row true 1 (cT ts))])
  | none => (.tup [.d (.sl []), B false], [])

theorem fn_toldList (qs : List Rat) (hl : qs.length ≤ 1000000) (hs : ∀ q, q ∈ qs → sz q ≤ 100000000000) : Fn Tryz.prog 100 [lQ qs] [] (ansT (toldTs qs)).1 (ansT (toldTs qs)).2 := by
  refine Fn.intro (ks := [0,2,3,4,6,7,8,10,11,12,13,22]) hty rfl rfl rfl rfl rfl ?_
  conv => whnf
  refine VLoop.ren 9 26 rfl ?_
  refine VLoop.inv hty (S := Nat) (fun k => [(12, I k), (11, I qs.length), (10, lQ qs), (4, .ls 26 0 k 1)]) (fun k => [(26, .row true 1 (cT ((qs.take k).map ratT)))]) (fun k => k ≤ qs.length ∧ (qs.take k).all fitsQ = true) (fun k => qs.length - k) 0 ⟨Nat.zero_le _, rfl⟩
    ⟨rfl, by show AV.d (.s (.int .i64 ((cQ qs).length : Int))) = _; rw [cQ_len], rfl, rfl, trivial⟩ ⟨rfl, trivial⟩ ?_
  rintro k ⟨hk, hp⟩
  conv => whnf
  refine Br.mk (fun h => ?_) (fun h => ?_)
  · have h : k < qs.length := by simp only [decide_eq_true_eq] at h; omega
    obtain ⟨q, eq⟩ : ∃ q, qs.getD k 0 = q := ⟨_, rfl⟩
    have hqm : q ∈ qs := by rw [← eq, List.getD_eq_getElem?_getD, List.getElem?_eq_getElem h]; exact List.getElem_mem h
    have et : qs.take (k + 1) = qs.take k ++ [q] := by rw [List.take_succ_eq_append_getElem h]; subst eq; rw [List.getD_eq_getElem?_getD, List.getElem?_eq_getElem h]; rfl
    have c := fn_ratText q (hs q hqm)
    conv => whnf
    refine ⟨⟨⟨by omega, by rw [cQ_len]; omega⟩, cQ_sz _⟩, ?_⟩
    conv => whnf
    refine ⟨_, cQ_as (x := q) h eq, ?_⟩
    conv => whnf
    refine VCall.of_data c (ndT (fun k => rfl)) ?_
    conv => whnf
    cases hf : fitsQ q
    · have hall : ¬ (qs.all fitsQ = true) := fun ha => by rw [List.all_eq_true.1 ha q hqm] at hf; cases hf
      rw [toldTs, if_neg hall]
      conv => whnf
      first | exact ⟨rfl, trivial, rfl⟩ | exact ⟨rfl, rfl, trivial, rfl⟩
    · conv => whnf
      refine Sub.full rfl ?_
      conv => whnf
      refine Sub.full (by rw [cT_len, List.length_map, List.length_take]; omega) ?_
      conv => whnf
      refine ⟨by show (k + 1) * 16 ≤ _; omega, ?_⟩
      conv => whnf
      refine Wr.i64 (y := ((k + 1 : Nat) : Int)) rfl (by omega) (by omega) ?_
      conv => whnf
      exact ⟨k + 1, ⟨by omega, by rw [et, List.all_append, hp]; simp [hf]⟩, by omega, ⟨rfl, rfl, rfl, rfl, trivial⟩, by show Ob.row true 1 (cT ((qs.take k).map ratT) ++ cT [ratT q]) = _; rw [cT_append, et, List.map_append]; rfl, trivial⟩
  · have h : k = qs.length := by simp only [decide_eq_false_iff_not] at h; omega
    rw [h, List.take_length] at hp
    rw [toldTs, if_pos hp, h, List.take_length]
    conv => whnf
    exact ⟨⟨rfl, rfl, rfl, rfl, by rw [List.length_map], rfl⟩, [], rfl, rfl, trivial, rfl⟩
end Go.V
/- The reference's texts. -/
namespace Go.V
open Go.Proofs Go.RowKit
set_option maxRecDepth 10000
set_option maxHeartbeats 1000000

theorem fn_sNatText (N : Nat) (hN : bl N ≤ 100000000000) : Fn Tryz.prog 202 [nS N] [] (Str (dd N)) [] := by
  refine Fn.intro (ks := [0,2,3,4,5,8,20]) hty rfl rfl rfl rfl rfl ?_
  conv => whnf
  rw [cW_len]
  have hcn := cn_dg b9 N
  have hvl := vl_dg b9 N
  have hln := dg_len b9 N
  have hl0 := dg_len_zero b9 (n := N)
  generalize dg B9 N = l at hcn hvl hln hl0 ⊢
  refine Br.mk (fun h => ?_) (fun h => ?_)
  · have h : l.length = 0 := by simpa using h
    conv => whnf
    refine ⟨?_, trivial, rfl⟩
    rw [hl0.1 h, dd_small (by decide)]; rfl
  · have h : l.length ≠ 0 := by simpa using h
    obtain ⟨m, em⟩ : ∃ m, l.length = m + 1 := ⟨l.length - 1, by omega⟩
    have hlast : l.getLast? = some (l.getD m 0) := by
      rw [List.getLast?_eq_getElem?, em, Nat.add_sub_cancel, List.getD_eq_getElem?_getD, List.getElem?_eq_getElem (by omega)]; rfl
    have htop : l.getD m 0 ≠ 0 := fun e => hcn.2 (by rw [hlast, e])
    have hlt : ∀ i, l.getD i 0 < 1000000000 := fun i => by
      rw [List.getD_eq_getElem?_getD]
      by_cases hi : i < l.length
      · rw [List.getElem?_eq_getElem hi]; exact hcn.1 _ (List.getElem_mem hi)
      · rw [List.getElem?_eq_none (by omega)]; decide
    obtain ⟨t, et⟩ : ∃ t, l.getD m 0 = t := ⟨_, rfl⟩
    have ht := hlt m
    rw [et] at htop ht
    conv => whnf
    rw [cW_len]
    refine Wr.i64 (y := (m : Int)) (by omega) (by omega) (by omega) ?_
    conv => whnf
    refine ⟨⟨⟨by omega, by rw [cW_len]; omega⟩, cW_sz _ _⟩, ?_⟩
    conv => whnf
    refine ⟨_, cW_as (x := t) (by omega) et, ?_⟩
    conv => whnf
    refine VCall.of_data (fn_l01Dec t (by omega) (by omega)) (nd _) ?_
    rw [itoa_nat]
    conv => whnf
    rw [cW_len]
    refine Wr.i64 (y := (m : Int) - 1) (by omega) (by omega) (by omega) ?_
    conv => whnf
    refine VLoop.inv hty (S := Nat) (fun k => [(4, I ((k : Int) - 1)), (3, Str (dd (vl B9 (l.drop k)))), (0, .d (.sl (cW .i64 l)))]) (fun _ => []) (fun k => k ≤ m) (fun k => k) m (Nat.le_refl _)
      ⟨rfl, by
        have e : l.drop m = [t] := by
          rw [List.drop_eq_getElem_cons (by omega), List.drop_eq_nil_of_le (by omega), ← et, List.getD_eq_getElem?_getD, List.getElem?_eq_getElem (by omega)]; rfl
        show Str (dd t) = _
        rw [e]; simp [vl], rfl, trivial⟩ trivial ?_
    intro k hk
    conv => whnf
    refine Br.mk (fun h2 => ?_) (fun h2 => ?_)
    · have h2 : (0 : Int) ≤ k - 1 := by simpa using h2
      obtain ⟨j, rfl⟩ : ∃ j, k = j + 1 := ⟨k - 1, by omega⟩
      obtain ⟨d, ed⟩ : ∃ d, l.getD j 0 = d := ⟨_, rfl⟩
      have hd := hlt j
      rw [ed] at hd
      have hdrop : vl B9 (l.drop j) = vl B9 (l.drop (j + 1)) * 1000000000 + d := by
        rw [vl_drop (by omega), ← ed, List.getD_eq_getElem?_getD, List.getElem?_eq_getElem (by omega)]
        show l[j] + 1000000000 * _ = _ * 1000000000 + l[j]
        omega
      have hpos : 0 < vl B9 (l.drop (j + 1)) := vl_pos b9 ⟨fun x hx => hcn.1 x (List.mem_of_mem_drop hx), by
        rw [List.getLast?_drop, if_neg (by omega)]; exact hcn.2⟩ (fun e => by have := congrArg List.length e; rw [List.length_drop] at this; simp at this; omega)
      have hdd := dd_split 8 (vl B9 (l.drop (j + 1))) d hpos (by simpa using hd)
      have hle : bl (vl B9 (l.drop (j + 1))) ≤ bl N := bl_mono (by
        rw [← hvl, vl_split (B := B9) l (j + 1) (by omega)]
        have : 0 < B9 ^ (j + 1) := Nat.pow_pos (by decide)
        have := Nat.le_mul_of_pos_left (vl B9 (l.drop (j + 1))) this
        omega)
      have hlen := dd_bl (vl B9 (l.drop (j + 1)))
      have hpl := padd_len (k := 8) (r := d) (by simpa using hd)
      rw [show vl B9 (l.drop (j + 1)) * 10 ^ (8 + 1) + d = vl B9 (l.drop j) by rw [hdrop]] at hdd
      have hbase := dd_base hd
      have cD := fn_l01Dec (d + 1000000000 : Nat) (by omega) (by omega)
      rw [itoa_nat, hbase] at cD
      generalize vl B9 (l.drop (j + 1)) = V at hdd hlen hle ⊢
      obtain ⟨w, ew⟩ : ∃ w : List UInt8, dd V = w := ⟨_, rfl⟩
      rw [ew] at hdd hlen ⊢
      conv => whnf
      rw [show ((j + 1 : Nat) : Int) - 1 = (j : Int) by omega]
      refine ⟨⟨⟨by omega, by rw [cW_len]; omega⟩, cW_sz _ _⟩, ?_⟩
      conv => whnf
      refine ⟨_, cW_as (x := d) (by omega) ed, ?_⟩
      conv => whnf
      refine Wr.i64 (y := ((d + 1000000000 : Nat) : Int)) rfl (by omega) (by omega) ?_
      conv => whnf
      refine VCall.of_data cD (nd _) ?_
      conv => whnf
      have hsz : (⟨(49 :: padd 9 d).toArray⟩ : ByteArray).size = 10 := by rw [bsize, List.length_cons, hpl]
      refine ⟨by rw [hsz]; decide, ?_⟩
      rw [show (⟨(49 :: padd 9 d).toArray⟩ : ByteArray).extract (1 : Int).toNat ((((⟨(49 :: padd 9 d).toArray⟩ : ByteArray).size : Nat) : Int)).toNat = ⟨(padd 9 d).toArray⟩ by
        rw [bx, hsz]
        show (⟨(((49 :: padd 9 d).take 10).drop 1).toArray⟩ : ByteArray) = _
        rw [List.take_of_length_le (by rw [List.length_cons, hpl]; decide)]; rfl]
      conv => whnf
      refine ⟨by rw [bsize, bsize, hpl]; omega, ?_⟩
      rw [cat2, ← hdd]
      conv => whnf
      refine Wr.i64 (y := (j : Int) - 1) rfl (by omega) (by omega) ?_
      conv => whnf
      exact ⟨j, by omega, by omega, ⟨rfl, rfl, rfl, trivial⟩, trivial⟩
    · have h2 : k = 0 := by simp at h2; omega
      conv => whnf
      refine ⟨?_, trivial, rfl⟩
      rw [h2, List.drop_zero, hvl]


theorem fn_sFits (q : Rat) (hs : sz q ≤ 100000000000) : Fn Tryz.prog 196 [rS q] [] (B (fitsQ q)) [] := by
  have c1 := fn_sNatText (tp q) (Nat.le_trans (bl_tp q) hs)
  have c2 := fn_sNatText q.den (Nat.le_trans (bl_den q) hs)
  unfold fitsQ
  generalize dd (tp q) = a at c1 ⊢
  generalize dd q.den = b at c2 ⊢
  refine Fn.intro (ks := [0,1,2]) hty rfl rfl rfl rfl rfl ?_
  conv => whnf
  refine VCall.of_data c1 (nd _) ?_
  conv => whnf
  rw [le200 a]
  cases hA : decide (a.length ≤ 200)
  · conv => whnf
    exact ⟨rfl, trivial, rfl⟩
  · conv => whnf
    refine VCall.of_data c2 (nd _) ?_
    conv => whnf
    rw [le200 b]
    exact ⟨by simp, trivial, rfl⟩

theorem fn_sShow (q : Rat) (hs : sz q ≤ 100000000000) : Fn Tryz.prog 175 [rS q] [] (Str (ratT q)) [] := by
  have c1 := fn_sNatText (tp q) (Nat.le_trans (bl_tp q) hs)
  have c2 := fn_sNatText q.den (Nat.le_trans (bl_den q) hs)
  have l1 : (dd (tp q)).length ≤ 100000000001 := Nat.le_trans (dd_bl _) (by have := bl_tp q; omega)
  have l2 : (dd q.den).length ≤ 100000000001 := Nat.le_trans (dd_bl _) (by have := bl_den q; omega)
  have c3 := fn_sCmp q.den 1 (Nat.le_trans (bl_den q) (by omega)) (by decide)
  rw [nS, nS, dg_small b9 (n := 1) (by decide) (by decide)] at c3
  unfold ratT
  generalize dd (tp q) = a at c1 l1 ⊢
  generalize dd q.den = b at c2 l2 ⊢
  refine Fn.intro (ks := [0,1,2,3,8,15]) hty rfl rfl rfl rfl rfl ?_
  conv => whnf
  refine VCall.of_data c1 (nd _) ?_
  conv => whnf
  refine Br.mk (fun h => ?_) (fun h => ?_)
  · rw [h]
    conv => whnf
    refine ⟨by rw [bsize]; show 1 + a.length < 2 ^ 62; omega, ?_⟩
    rw [cat1]
    conv => whnf
    refine VCall.lend c3 ⟨rfl, ⟨rfl, by simp, rfl⟩, trivial⟩ rfl ?_
    conv => whnf
    by_cases h1 : q.den = 1
    · rw [if_pos h1, decide_eq_true (by rw [h1]; decide)]
      conv => whnf
      exact ⟨by simp, trivial, rfl⟩
    · rw [if_neg h1, decide_eq_false (fun e => by unfold cmpZ at e; split at e; cases e; split at e; cases e; omega)]
      conv => whnf
      refine VCall.of_data c2 (nd _) ?_
      conv => whnf
      refine ⟨by rw [bsize]; show 1 + b.length < 2 ^ 62; omega, ?_⟩
      rw [cat1]
      conv => whnf
      refine ⟨by rw [bsize, bsize]; show (45 :: a).length + (b.length + 1) < 2 ^ 62; simp; omega, ?_⟩
      rw [cat2]
      conv => whnf
      exact ⟨by simp, trivial, rfl⟩
  · rw [h]
    conv => whnf
    refine VCall.lend c3 ⟨rfl, ⟨rfl, by simp, rfl⟩, trivial⟩ rfl ?_
    conv => whnf
    by_cases h1 : q.den = 1
    · rw [if_pos h1, decide_eq_true (by rw [h1]; decide)]
      conv => whnf
      exact ⟨by simp, trivial, rfl⟩
    · rw [if_neg h1, decide_eq_false (fun e => by unfold cmpZ at e; split at e; cases e; split at e; cases e; omega)]
      conv => whnf
      refine VCall.of_data c2 (nd _) ?_
      conv => whnf
      refine ⟨by rw [bsize]; show 1 + b.length < 2 ^ 62; omega, ?_⟩
      rw [cat1]
      conv => whnf
      refine ⟨by rw [bsize, bsize]; show (a).length + (b.length + 1) < 2 ^ 62; simp; omega, ?_⟩
      rw [cat2]
      conv => whnf
      exact ⟨by simp, trivial, rfl⟩

theorem fn_sGive (q : Rat) (hs : sz q ≤ 100000000000) : Fn Tryz.prog 159 [rS q] [] (.tup [Str (toldT q), B (fitsQ q)]) [] := by
  have c := fn_sFits q hs
  have c2 := fn_sShow q hs
  unfold toldT
  refine Fn.intro (ks := [0,1,2,3,6]) hty rfl rfl rfl rfl rfl ?_
  conv => whnf
  refine VCall.of_data c (nd _) ?_
  conv => whnf
  cases fitsQ q
  · conv => whnf
    exact ⟨rfl, rfl, trivial, rfl⟩
  · conv => whnf
    refine VCall.of_data c2 (nd _) ?_
    conv => whnf
    exact ⟨rfl, rfl, trivial, rfl⟩

theorem fn_sGiveAll (qs : List Rat) (hl : qs.length ≤ 1000000) (hs : ∀ q, q ∈ qs → sz q ≤ 100000000000) : Fn Tryz.prog 167 [lS qs] [] (ansT (toldTs qs)).1 (ansT (toldTs qs)).2 := by
  refine Fn.intro (ks := [0,2,3,4,5,6,7,10,11,12,23]) hty rfl rfl rfl rfl rfl ?_
  conv => whnf
  refine VLoop.ren 8 27 rfl ?_
  refine VLoop.inv hty (S := Nat) (fun k => [(11, I k), (10, I qs.length), (4, .ls 27 0 k 1), (0, lS qs)]) (fun k => [(27, .row true 1 (cT ((qs.take k).map ratT)))]) (fun k => k ≤ qs.length ∧ (qs.take k).all fitsQ = true) (fun k => qs.length - k) 0 ⟨Nat.zero_le _, rfl⟩
    ⟨rfl, by show AV.d (.s (.int .i64 ((cS qs).length : Int))) = _; rw [cS_len], rfl, rfl, trivial⟩ ⟨rfl, trivial⟩ ?_
  rintro k ⟨hk, hp⟩
  conv => whnf
  refine Br.mk (fun h => ?_) (fun h => ?_)
  · have h : k < qs.length := by simp only [decide_eq_true_eq] at h; omega
    obtain ⟨q, eq⟩ : ∃ q, qs.getD k 0 = q := ⟨_, rfl⟩
    have hqm : q ∈ qs := by rw [← eq, List.getD_eq_getElem?_getD, List.getElem?_eq_getElem h]; exact List.getElem_mem h
    have et : qs.take (k + 1) = qs.take k ++ [q] := by rw [List.take_succ_eq_append_getElem h]; subst eq; rw [List.getD_eq_getElem?_getD, List.getElem?_eq_getElem h]; rfl
    have c := fn_sGive q (hs q hqm)
    unfold toldT at c
    conv => whnf
    refine ⟨⟨⟨by omega, by rw [cS_len]; omega⟩, cS_sz _⟩, ?_⟩
    conv => whnf
    refine ⟨_, cS_as (x := q) h eq, ?_⟩
    conv => whnf
    refine VCall.of_data c (ndT (fun k => rfl)) ?_
    conv => whnf
    cases hf : fitsQ q
    · have hall : ¬ (qs.all fitsQ = true) := fun ha => by rw [List.all_eq_true.1 ha q hqm] at hf; cases hf
      rw [toldTs, if_neg hall]
      conv => whnf
      first | exact ⟨rfl, trivial, rfl⟩ | exact ⟨rfl, rfl, trivial, rfl⟩
    · conv => whnf
      refine Sub.full rfl ?_
      conv => whnf
      refine Sub.full (by rw [cT_len, List.length_map, List.length_take]; omega) ?_
      conv => whnf
      refine ⟨by show (k + 1) * 16 ≤ _; omega, ?_⟩
      conv => whnf
      refine Wr.i64 (y := ((k + 1 : Nat) : Int)) rfl (by omega) (by omega) ?_
      conv => whnf
      exact ⟨k + 1, ⟨by omega, by rw [et, List.all_append, hp]; simp [hf]⟩, by omega, ⟨rfl, rfl, rfl, rfl, trivial⟩, by show Ob.row true 1 (cT ((qs.take k).map ratT) ++ cT [ratT q]) = _; rw [cT_append, et, List.map_append]; rfl, trivial⟩
  · have h : k = qs.length := by simp only [decide_eq_false_iff_not] at h; omega
    rw [h, List.take_length] at hp
    rw [toldTs, if_pos hp, h, List.take_length]
    conv => whnf
    exact ⟨⟨rfl, rfl, rfl, rfl, by rw [List.length_map], rfl⟩, [], rfl, rfl, trivial, rfl⟩
end Go.V
/- Contracts taken over from the earlier seat. -/
namespace Go.V
open Go.Proofs Go.RowKit
set_option maxRecDepth 10000
set_option maxHeartbeats 1000000

theorem sum_take (xs : List Int) (hs : ∀ x, x ∈ xs → 0 ≤ x ∧ x ≤ 1000000) : ∀ k, k ≤ xs.length → 0 ≤ (xs.take k).sum ∧ (xs.take k).sum ≤ 1000000 * k
  | 0, _ => by simp
  | k + 1, h => by
    have ih := sum_take xs hs k (by omega)
    rw [List.take_succ_eq_append_getElem (by omega), List.sum_append]
    have := hs xs[k] (by simp)
    simp
    omega

theorem fn_total (xs : List Int) (hs : ∀ x, x ∈ xs → 0 ≤ x ∧ x ≤ 1000000) (hl : xs.length ≤ 1000000) : Fn Tryz.prog 151 [.d (.sl (cI xs))] [] (I xs.sum) [] := by
  refine Fn.intro (ks := [0,2,3,5,6,7,8,9]) hty rfl rfl rfl rfl rfl ?_
  conv => whnf
  refine VLoop.inv hty (S := Nat) (fun k => [(8, I k), (7, I (cI xs).length), (6, .d (.sl (cI xs))), (3, I (xs.take k).sum)]) (fun _ => []) (fun k => k ≤ xs.length) (fun k => xs.length - k) 0 (Nat.zero_le _) ⟨rfl, rfl, rfl, rfl, trivial⟩ trivial ?_
  intro k hk
  conv => whnf
  refine Br.mk (fun h => ?_) (fun h => ?_)
  · have hk' : k < xs.length := by simp [cI_len] at h; omega
    conv => whnf
    refine ⟨⟨⟨by omega, by rw [cI_len]; omega⟩, cI_sz xs⟩, ?_⟩
    conv => whnf
    refine ⟨[.s (.int .i64 xs[k])], by simp [cI, hk'], ?_⟩
    conv => whnf
    have h0 := sum_take xs hs k (by omega)
    have h1 := sum_take xs hs (k + 1) (by omega)
    have e : (xs.take k).sum + xs[k] = (xs.take (k + 1)).sum := by rw [List.take_succ_eq_append_getElem hk', List.sum_append]; simp
    refine Wr.fit (wrap_i64 (by omega) (by omega)) ?_
    conv => whnf
    refine Wr.fit (wrap_i64 (by omega) (by omega)) ?_
    conv => whnf
    refine ⟨k + 1, hk', by omega, ⟨rfl, rfl, rfl, ?_, trivial⟩, trivial⟩
    rw [← e]; rfl
  · have hk' : k = xs.length := by simp [cI_len] at h; omega
    conv => whnf
    refine ⟨?_, trivial, rfl⟩
    rw [hk', List.take_length]

def staff (xs : List Int) (n : Int) (h : Nat) : Int := ((xs.take (h + 1)).drop (max ((h : Int) - n + 1) 0).toNat).sum

theorem fn_staffAt (xs : List Int) (n : Int) (hs : ∀ x, x ∈ xs → 0 ≤ x ∧ x ≤ 1000000) (hl : xs.length ≤ 1000000) (hn : 1 ≤ n ∧ n ≤ 1000000) :
    Fn Tryz.prog 92 [.d (.sl (cI xs)), I n] [] (.ls 0 0 xs.length 1) [(0, .row true 1 (cI ((List.range xs.length).map (staff xs n))))] := by
  refine Fn.intro (ks := [0,1,4,5,6,9,10,11]) hty rfl rfl rfl rfl rfl ?_
  conv => whnf
  refine VLoop.ren 7 25 rfl ?_
  refine VLoop.inv hty (S := Nat) (fun k => [(10, I k), (9, I (cI xs).length), (0, .d (.sl (cI xs))), (1, I n), (5, .ls 25 0 k 1)])
    (fun k => [(25, .row true 1 (cI ((List.range k).map (staff xs n))))]) (fun k => k ≤ xs.length) (fun k => xs.length - k) 0 (Nat.zero_le _) ⟨rfl, rfl, rfl, rfl, rfl, trivial⟩ ⟨rfl, trivial⟩ ?_
  intro k hk
  conv => whnf
  refine Br.mk (fun h => ?_) (fun h => ?_)
  · have hk' : k < xs.length := by simp [cI_len] at h; omega
    conv => whnf
    refine Wr.fit (wrap_i64 (by omega) (by omega)) ?_
    conv => whnf
    refine Wr.fit (wrap_i64 (by omega) (by omega)) ?_
    conv => whnf
    refine Wr.fit (wrap_i64 (by omega) (by omega)) ?_
    conv => whnf
    refine ⟨⟨by rw [cI_len]; omega, cI_sz xs⟩, ?_⟩
    conv => whnf
    have hstaff : staff xs n k = (List.drop (max ((k : Int) - n + 1) 0).toNat (List.take ((k : Int) + 1).toNat xs)).sum := by
      unfold staff; rw [show ((k : Int) + 1).toNat = k + 1 by omega]
    have hcall := fn_total (List.drop (max ((k : Int) - n + 1) 0).toNat (List.take ((k : Int) + 1).toNat xs)) (fun x hx => hs x (List.mem_of_mem_take (List.mem_of_mem_drop hx))) (by simp; omega)
    rw [← hstaff] at hcall
    have e : cI (List.drop (max ((k : Int) - n + 1) 0).toNat (List.take ((k : Int) + 1).toNat xs)) = List.drop (max ((k : Int) - n + 1) 0).toNat (List.take ((k : Int) + 1).toNat (cI xs)) := by simp [cI, List.map_drop, List.map_take]
    rw [e] at hcall
    refine VCall.of_data hcall (fun j h => by cases h) ?_
    conv => whnf
    refine ⟨_, rfl, Nat.le_refl _, ?_⟩
    conv => whnf
    refine ⟨_, rfl, by simp [cI], ?_⟩
    conv => whnf
    refine ⟨by show (k + 1) * 8 ≤ _; omega, ?_⟩
    conv => whnf
    refine Wr.fit (wrap_i64 (by omega) (by omega)) ?_
    conv => whnf
    refine ⟨k + 1, hk', by omega, ⟨rfl, rfl, rfl, rfl, rfl, trivial⟩, ?_, trivial⟩
    show Ob.row true 1 (List.take k (cI (List.map (staff xs n) (List.range k))) ++ [[C.s (Value.int IntKind.i64 (staff xs n k))]]) = _
    have h1 : List.take k (cI (List.map (staff xs n) (List.range k))) = cI (List.map (staff xs n) (List.range k)) := List.take_of_length_le (by simp [cI])
    rw [h1]
    congr 1
    simp [cI, List.range_succ]
  · have hk' : k = xs.length := by simp [cI_len] at h; omega
    subst hk'
    conv => whnf
    exact ⟨⟨rfl, rfl, rfl, rfl, rfl, rfl⟩, [], rfl, trivial, rfl⟩

theorem fn_hours1 (n : Int) : Fn Tryz.prog 192 [I n] [] (B (!(decide (0 ≤ n) && decide (n ≤ 1000)))) [] := by
  refine Fn.intro (ks := [0,2]) hty rfl rfl rfl rfl rfl ?_
  conv => whnf
  refine VCall.of_data (fn_in n 0 1000) (fun j h => by cases h) ?_
  conv => whnf
  exact ⟨rfl, trivial, rfl⟩

def idx (p : Int → Bool) (xs : List Int) : Int := if xs.any p then xs.findIdx p else -1

theorem fn_index (g : Nat) (p : Int → Bool) (xs : List Int) (hl : xs.length ≤ 1000000) (hg : ∀ x, x ∈ xs → Fn Tryz.prog g [I x] [] (B (p x)) []) : Fn Tryz.prog 197 [.d (.sl (cI xs)), .d (.fn g [])] [] (I (idx p xs)) [] := by
  refine Fn.intro (ks := [0,1,4,5,7,8,9,16]) hty rfl rfl rfl rfl rfl ?_
  conv => whnf
  refine VLoop.inv hty (S := Nat) (fun k => [(8, I k), (7, I (cI xs).length), (0, .d (.sl (cI xs))), (1, .d (.fn g []))]) (fun _ => []) (fun k => k ≤ xs.length ∧ ∀ j (h : j < xs.length), j < k → p xs[j] = false) (fun k => xs.length - k) 0 ⟨Nat.zero_le _, fun j _ h => by omega⟩ ⟨rfl, rfl, rfl, rfl, trivial⟩ trivial ?_
  rintro k ⟨hk, hp⟩
  conv => whnf
  refine Br.mk (fun h => ?_) (fun h => ?_)
  · have hk' : k < xs.length := by simp [cI_len] at h; omega
    conv => whnf
    refine ⟨⟨⟨by omega, by rw [cI_len]; omega⟩, cI_sz xs⟩, ?_⟩
    conv => whnf
    refine ⟨[.s (.int .i64 xs[k])], by simp [cI, hk'], ?_⟩
    conv => whnf
    refine VCall.of_data (hg xs[k] (by simp)) (fun j h => by cases h) ?_
    conv => whnf
    refine Br.mk (fun h2 => ?_) (fun h2 => ?_)
    · conv => whnf
      refine ⟨?_, trivial, rfl⟩
      have h3 : xs.any p = true := List.any_eq_true.2 ⟨xs[k], by simp, h2⟩
      have h4 : xs.findIdx p = k := (List.findIdx_eq hk').2 ⟨h2, fun j hj => hp j (by omega) hj⟩
      simp [idx, h3, h4]
    · conv => whnf
      refine Wr.fit (wrap_i64 (by omega) (by omega)) ?_
      conv => whnf
      exact ⟨k + 1, ⟨hk', fun j hj hjk => by
        rcases Nat.lt_or_ge j k with h5 | h5
        · exact hp j hj h5
        · have : j = k := by omega
          subst this; exact h2⟩, by omega, ⟨rfl, rfl, rfl, rfl, trivial⟩, trivial⟩
  · have hk' : k = xs.length := by simp [cI_len] at h; omega
    conv => whnf
    refine ⟨?_, trivial, rfl⟩
    have h3 : xs.any p = false := List.any_eq_false.2 fun x hx => by
      obtain ⟨j, hj, rfl⟩ := List.mem_iff_getElem.1 hx
      simp [hp j hj (by omega)]
    simp [idx, h3]

theorem fn_contains (g : Nat) (p : Int → Bool) (xs : List Int) (hl : xs.length ≤ 1000000) (hg : ∀ x, x ∈ xs → Fn Tryz.prog g [I x] [] (B (p x)) []) : Fn Tryz.prog 160 [.d (.sl (cI xs)), .d (.fn g [])] [] (B (xs.any p)) [] := by
  refine Fn.intro (ks := [0,1,4]) hty rfl rfl rfl rfl rfl ?_
  conv => whnf
  refine VCall.of_data (fn_index g p xs hl hg) (fun j h => by cases h) ?_
  conv => whnf
  refine ⟨?_, trivial, rfl⟩
  unfold idx
  cases xs.any p <;> simp


def hoursB (xs : List Int) (n : Int) : Bool := ((decide (1 ≤ (xs.length : Int)) && decide ((xs.length : Int) ≤ 48)) && (decide (1 ≤ n) && decide (n ≤ xs.length))) && !(xs.any fun x => !(decide (0 ≤ x) && decide (x ≤ 1000)))

theorem fn_hoursOk (xs : List Int) (n : Int) (hl : xs.length ≤ 1000000) : Fn Tryz.prog 150 [.d (.sl (cI xs)), I n] [] (B (hoursB xs n)) [] := by
  refine Fn.intro (ks := [0,1,4,5]) hty rfl rfl rfl rfl rfl ?_
  conv => whnf
  rw [cI_len]
  have c1 := fn_in xs.length 1 48
  have c2 := fn_in n 1 xs.length
  have c3 := fn_contains 192 _ xs hl (fun x _ => fn_hours1 x)
  generalize h1 : (decide (1 ≤ (xs.length : Int)) && decide ((xs.length : Int) ≤ 48)) = b1 at c1
  generalize h2 : (decide (1 ≤ n) && decide (n ≤ (xs.length : Int))) = b2 at c2
  generalize h3 : (xs.any fun x => !(decide (0 ≤ x) && decide (x ≤ 1000))) = b3 at c3
  have hB : hoursB xs n = ((b1 && b2) && !b3) := by rw [hoursB, h1, h2, h3]
  refine VCall.of_data c1 (fun j h => by cases h) ?_
  conv => whnf
  refine Br.mk (fun e1 => ?_) (fun e1 => ?_)
  · conv => whnf
    refine VCall.of_data c2 (fun j h => by cases h) ?_
    conv => whnf
    subst e1
    conv => whnf
    refine Br.mk (fun e2 => ?_) (fun e2 => ?_)
    · conv => whnf
      refine VCall.of_data c3 (fun j h => by cases h) ?_
      conv => whnf
      exact ⟨by rw [hB, e2]; cases b3 <;> rfl, trivial, rfl⟩
    · conv => whnf
      exact ⟨by rw [hB, e2]; rfl, trivial, rfl⟩
  · conv => whnf
    exact ⟨by rw [hB, e1]; rfl, trivial, rfl⟩

theorem fn_starts1 (n : Int) : Fn Tryz.prog 161 [I n] [] (B (decide (0 < n))) [] := by
  refine Fn.intro (ks := [0,2]) hty rfl rfl rfl rfl rfl ?_
  conv => whnf
  exact ⟨rfl, trivial, rfl⟩

def startsB (xs : List Int) (n : Int) : Bool := hoursB xs n && !((xs.drop ((xs.length : Int) - n + 1).toNat).any fun x => decide (0 < x))

theorem hoursB_n {xs : List Int} {n : Int} (h : hoursB xs n = true) : 1 ≤ xs.length ∧ xs.length ≤ 48 ∧ 1 ≤ n ∧ n ≤ xs.length ∧ ∀ x, x ∈ xs → 0 ≤ x ∧ x ≤ 1000 := by
  simp [hoursB] at h
  obtain ⟨⟨⟨h1, h2⟩, h3, h4⟩, h5⟩ := h
  exact ⟨by omega, by omega, h3, h4, fun x hx => h5 x hx⟩

theorem fn_startsOk (xs : List Int) (n : Int) (hl : xs.length ≤ 1000000) : Fn Tryz.prog 90 [.d (.sl (cI xs)), I n] [] (B (startsB xs n)) [] := by
  refine Fn.intro (ks := [0,1,4,7,8]) hty rfl rfl rfl rfl rfl ?_
  conv => whnf
  have c1 := fn_hoursOk xs n hl
  generalize h1 : hoursB xs n = b1 at c1
  refine VCall.of_data c1 (fun j h => by cases h) ?_
  conv => whnf
  cases b1 with
  | false =>
    conv => whnf
    exact ⟨by rw [startsB, h1]; rfl, trivial, rfl⟩
  | true =>
    obtain ⟨g1, g2, g3, g4, g5⟩ := hoursB_n h1
    conv => whnf
    rw [cI_len]
    refine Wr.fit (wrap_i64 (by omega) (by omega)) ?_
    conv => whnf
    refine Wr.fit (wrap_i64 (by omega) (by omega)) ?_
    conv => whnf
    refine ⟨⟨by rw [cI_len]; omega, cI_sz xs⟩, ?_⟩
    conv => whnf
    have c2 := fn_contains 161 _ (xs.drop ((xs.length : Int) - n + 1).toNat) (by simp; omega) (fun x _ => fn_starts1 x)
    generalize h2 : ((xs.drop ((xs.length : Int) - n + 1).toNat).any fun x => decide (0 < x)) = b2 at c2
    have e : cI (xs.drop ((xs.length : Int) - n + 1).toNat) = List.drop ((xs.length : Int) - n + 1).toNat (List.take ((cI xs).length : Int).toNat (cI xs)) := by
      rw [List.take_of_length_le (by simp)]; simp [cI, List.map_drop]
    rw [e] at c2
    refine VCall.of_data c2 (fun j h => by cases h) ?_
    conv => whnf
    exact ⟨by rw [startsB, h1, h2]; rfl, trivial, rfl⟩


theorem fn_l00In (n a b : Int) : Fn Tryz.prog 148 [I n, I a, I b] [] (B (decide (a ≤ n) && decide (n ≤ b))) [] := by
  refine Fn.intro (ks := [0,1,2,6]) hty rfl rfl rfl rfl rfl ?_
  conv => whnf
  refine Br.mk (fun h => ?_) (fun h => ?_)
  · conv => whnf
    exact ⟨by rw [h]; rfl, trivial, rfl⟩
  · conv => whnf
    exact ⟨by rw [h]; rfl, trivial, rfl⟩

theorem fn_l00Max (a b : Int) : Fn Tryz.prog 152 [I a, I b] [] (I (max a b)) [] := by
  refine Fn.intro (ks := [0,1,4,7]) hty rfl rfl rfl rfl rfl ?_
  conv => whnf
  refine Br.mk (fun h => ?_) (fun h => ?_)
  · conv => whnf
    have : b < a := by simpa using h
    exact ⟨by rw [show max a b = a by omega], trivial, rfl⟩
  · conv => whnf
    have : ¬ b < a := by simpa using h
    exact ⟨by rw [show max a b = b by omega], trivial, rfl⟩

def numsB (xs : List Int) : Bool := (decide (1 ≤ (xs.length : Int)) && decide ((xs.length : Int) ≤ 48)) && xs.all fun x => (decide (0 ≤ x) && decide (x ≤ 1000))

theorem fn_l10Numbers (xs : List Int) (hl : xs.length ≤ 1000000) : Fn Tryz.prog 147 [.d (.sl (cI xs))] [] (B (numsB xs)) [] := by
  refine Fn.intro (ks := [0,2,3,11,15,23]) hty rfl rfl rfl rfl rfl ?_
  conv => whnf
  rw [cI_len]
  have small : ¬ (1 ≤ (xs.length : Int) ∧ (xs.length : Int) ≤ 48) → numsB xs = false := fun h => by
    have : (decide (1 ≤ (xs.length : Int)) && decide ((xs.length : Int) ≤ 48)) = false := by
      simp only [Bool.and_eq_false_iff, decide_eq_false_iff_not]; omega
    rw [numsB, this]; rfl
  have loop : 1 ≤ (xs.length : Int) → (xs.length : Int) ≤ 48 → ∀ Q : Ex → TL → LL → Prop, True := fun _ _ _ => trivial
  refine Br.mk (fun h => ?_) (fun h => ?_)
  · conv => whnf
    have h : (xs.length : Int) < 1 := by simpa using h
    exact ⟨by rw [small (by omega)], trivial, rfl⟩
  · have h : ¬ (xs.length : Int) < 1 := by simpa using h
    conv => whnf
    rw [cI_len]
    refine Br.mk (fun h2 => ?_) (fun h2 => ?_)
    · conv => whnf
      have h2 : 48 < (xs.length : Int) := by simpa using h2
      exact ⟨by rw [small (by omega)], trivial, rfl⟩
    · have h2 : ¬ 48 < (xs.length : Int) := by simpa using h2
      conv => whnf
      refine VLoop.inv hty (S := Nat) (fun k => [(3, I k), (0, .d (.sl (cI xs)))]) (fun _ => []) (fun k => k ≤ xs.length ∧ ∀ j (h : j < xs.length), j < k → (decide (0 ≤ xs[j]) && decide (xs[j] ≤ 1000)) = true) (fun k => xs.length - k) 0 ⟨Nat.zero_le _, fun j _ h => by omega⟩ ⟨rfl, rfl, trivial⟩ trivial ?_
      rintro k ⟨hk, hp⟩
      conv => whnf
      rw [cI_len]
      refine Br.mk (fun h3 => ?_) (fun h3 => ?_)
      · have hk' : k < xs.length := by simp at h3; omega
        conv => whnf
        refine ⟨⟨⟨by omega, by rw [cI_len]; omega⟩, cI_sz xs⟩, ?_⟩
        conv => whnf
        refine ⟨[.s (.int .i64 xs[k])], by simp [cI, hk'], ?_⟩
        conv => whnf
        have c1 := fn_l00In xs[k] 0 1000
        generalize h4 : (decide (0 ≤ xs[k]) && decide (xs[k] ≤ 1000)) = b at c1
        refine VCall.of_data c1 (fun j h => by cases h) ?_
        conv => whnf
        cases b with
        | false =>
          conv => whnf
          refine ⟨?_, trivial, rfl⟩
          have : (xs.all fun x => (decide (0 ≤ x) && decide (x ≤ 1000))) = false := by
            rw [List.all_eq_false]; exact ⟨xs[k], by simp, by rw [h4]; simp⟩
          rw [numsB, this, Bool.and_false]
        | true =>
          conv => whnf
          refine Wr.fit (wrap_i64 (by omega) (by omega)) ?_
          conv => whnf
          refine ⟨k + 1, ⟨hk', fun j hj hjk => ?_⟩, by omega, ⟨rfl, rfl, trivial⟩, trivial⟩
          rcases Nat.lt_or_ge j k with h5 | h5
          · exact hp j hj h5
          · have : j = k := by omega
            subst this; exact h4
      · have hk' : k = xs.length := by simp at h3; omega
        conv => whnf
        refine ⟨?_, trivial, rfl⟩
        have e1 : (xs.all fun x => (decide (0 ≤ x) && decide (x ≤ 1000))) = true := List.all_eq_true.2 fun x hx => by
          obtain ⟨j, hj, rfl⟩ := List.mem_iff_getElem.1 hx
          exact hp j hj (by omega)
        have e2 : (decide (1 ≤ (xs.length : Int)) && decide ((xs.length : Int) ≤ 48)) = true := by simp; omega
        rw [numsB, e1, e2]; rfl

def zerosFrom (xs : List Int) (i : Nat) : Bool := (List.range xs.length).all fun j => decide (j < i) || decide (xs.getD j 0 = 0)
def startsS (xs : List Int) (n : Int) : Bool := (numsB xs && (decide (1 ≤ n) && decide (n ≤ (xs.length : Int)))) && zerosFrom xs ((xs.length : Int) - n + 1).toNat

theorem numsB_n {xs : List Int} (h : numsB xs = true) : 1 ≤ xs.length ∧ xs.length ≤ 48 ∧ ∀ x, x ∈ xs → 0 ≤ x ∧ x ≤ 1000 := by
  simp [numsB] at h
  obtain ⟨⟨h1, h2⟩, h5⟩ := h
  exact ⟨by omega, by omega, fun x hx => h5 x hx⟩

theorem fn_l10Starts (xs : List Int) (n : Int) (hl : xs.length ≤ 1000000) : Fn Tryz.prog 83 [.d (.sl (cI xs)), I n] [] (B (startsS xs n)) [] := by
  refine Fn.intro (ks := [0,1,4,5,6,17,24,31]) hty rfl rfl rfl rfl rfl ?_
  conv => whnf
  have c1 := fn_l10Numbers xs hl
  have c2 := fn_l00In n 1 xs.length
  generalize h1 : numsB xs = b1 at c1
  generalize h2 : (decide (1 ≤ n) && decide (n ≤ (xs.length : Int))) = b2 at c2
  refine VCall.of_data c1 (fun j h => by cases h) ?_
  conv => whnf
  cases b1 with
  | false =>
    conv => whnf
    exact ⟨by rw [startsS, h1]; rfl, trivial, rfl⟩
  | true =>
    obtain ⟨g1, g2, g5⟩ := numsB_n h1
    conv => whnf
    rw [cI_len]
    refine VCall.of_data c2 (fun j h => by cases h) ?_
    conv => whnf
    cases b2 with
    | false =>
      conv => whnf
      exact ⟨by rw [startsS, h1, h2]; rfl, trivial, rfl⟩
    | true =>
      have hn : 1 ≤ n ∧ n ≤ xs.length := by simpa using h2
      conv => whnf
      refine Wr.fit (wrap_i64 (by omega) (by omega)) ?_
      conv => whnf
      refine Wr.fit (wrap_i64 (by omega) (by omega)) ?_
      conv => whnf
      refine VLoop.inv hty (S := Nat) (fun k => [(6, I k), (5, I xs.length), (0, .d (.sl (cI xs)))]) (fun _ => []) (fun k => k ≤ xs.length ∧ ((xs.length : Int) - n + 1).toNat ≤ k ∧ ∀ j, j < k → ((xs.length : Int) - n + 1).toNat ≤ j → xs.getD j 0 = 0) (fun k => xs.length - k) ((xs.length : Int) - n + 1).toNat ⟨by omega, Nat.le_refl _, fun j h h' => by omega⟩ ⟨by show I _ = I _; rw [Int.toNat_of_nonneg (by omega)], rfl, rfl, trivial⟩ trivial ?_
      rintro k ⟨hk, hk0, hp⟩
      conv => whnf
      refine Br.mk (fun h3 => ?_) (fun h3 => ?_)
      · have hk' : k < xs.length := by simp at h3; omega
        have hx : xs.getD k 0 = xs[k] := by simp [List.getD_eq_getElem?_getD, hk']
        conv => whnf
        refine ⟨⟨⟨by omega, by rw [cI_len]; omega⟩, cI_sz xs⟩, ?_⟩
        conv => whnf
        refine ⟨[.s (.int .i64 xs[k])], by simp [cI, hk'], ?_⟩
        conv => whnf
        refine Br.mk (fun h4 => ?_) (fun h4 => ?_)
        · have h4 : xs[k] ≠ 0 := by simpa using h4
          conv => whnf
          refine ⟨?_, trivial, rfl⟩
          have : zerosFrom xs ((xs.length : Int) - n + 1).toNat = false := by
            rw [zerosFrom, List.all_eq_false]
            exact ⟨k, by simpa using hk', by rw [hx]; simp; exact ⟨by omega, h4⟩⟩
          rw [startsS, this, Bool.and_false]
        · have h4 : xs[k] = 0 := by simpa using h4
          conv => whnf
          refine Wr.fit (wrap_i64 (by omega) (by omega)) ?_
          conv => whnf
          refine ⟨k + 1, ⟨hk', by omega, fun j hj hj0 => ?_⟩, by omega, ⟨rfl, rfl, rfl, trivial⟩, trivial⟩
          rcases Nat.lt_or_ge j k with h5 | h5
          · exact hp j h5 hj0
          · have : j = k := by omega
            subst this; rw [hx]; exact h4
      · have hk' : k = xs.length := by simp at h3; omega
        conv => whnf
        refine ⟨?_, trivial, rfl⟩
        have : zerosFrom xs ((xs.length : Int) - n + 1).toNat = true := by
          rw [zerosFrom, List.all_eq_true]
          intro j hj
          simp at hj
          rcases Nat.lt_or_ge j ((xs.length : Int) - n + 1).toNat with h5 | h5
          · simp [h5]
          · simp only [Bool.or_eq_true, decide_eq_true_eq]; exact .inr (hp j (by omega) h5)
        rw [startsS, h1, h2, this]; rfl

theorem part_succ (xs : List Int) (a i : Nat) (ha : a ≤ i) (hi : i < xs.length) : ((xs.take (i + 1)).drop a).sum = ((xs.take i).drop a).sum + xs[i] := by
  rw [List.take_succ_eq_append_getElem hi, List.drop_append_of_le_length (by simp; omega), List.sum_append]; simp

theorem part_bound (xs : List Int) (hs : ∀ x, x ∈ xs → 0 ≤ x ∧ x ≤ 1000000) (a i : Nat) : 0 ≤ ((xs.take i).drop a).sum ∧ ((xs.take i).drop a).sum ≤ 1000000 * xs.length := by
  have h := sum_take ((xs.take i).drop a) (fun x hx => hs x (List.mem_of_mem_take (List.mem_of_mem_drop hx))) _ (Nat.le_refl _)
  rw [List.take_length] at h
  have : ((xs.take i).drop a).length ≤ xs.length := by simp; omega
  omega

theorem fn_l10Staff (xs : List Int) (n : Int) (hs : ∀ x, x ∈ xs → 0 ≤ x ∧ x ≤ 1000000) (hl : xs.length ≤ 1000000) (hn : 1 ≤ n ∧ n ≤ 1000000) :
    Fn Tryz.prog 84 [.d (.sl (cI xs)), I n] [] (.ls 0 0 xs.length 1) [(0, .row true 1 (cI ((List.range xs.length).map (staff xs n))))] := by
  refine Fn.intro (ks := [0,1,4,5,6,7,8,13,23]) hty rfl rfl rfl rfl rfl ?_
  conv => whnf
  refine VLoop.ren 9 35 rfl ?_
  refine VLoop.inv hty (S := Nat) (fun k => [(6, I k), (0, .d (.sl (cI xs))), (1, I n), (5, .ls 35 0 k 1)])
    (fun k => [(35, .row true 1 (cI ((List.range k).map (staff xs n))))]) (fun k => k ≤ xs.length) (fun k => xs.length - k) 0 (Nat.zero_le _) ⟨rfl, rfl, rfl, rfl, trivial⟩ ⟨rfl, trivial⟩ ?_
  intro k hk
  conv => whnf
  rw [cI_len]
  refine Br.mk (fun h => ?_) (fun h => ?_)
  · have hk' : k < xs.length := by simp at h; omega
    conv => whnf
    refine Wr.fit (wrap_i64 (by omega) (by omega)) ?_
    conv => whnf
    refine Wr.fit (wrap_i64 (by omega) (by omega)) ?_
    conv => whnf
    refine VCall.of_data (fn_l00Max 0 ((k : Int) - n + 1)) (fun j h => by cases h) ?_
    conv => whnf
    refine VLoop.inv hty (S := Nat) (fun i => [(8, I i), (7, I ((xs.take i).drop (max ((k : Int) - n + 1) 0).toNat).sum), (6, I k), (0, .d (.sl (cI xs))), (1, I n), (5, .ls 35 0 k 1)])
      (fun _ => [(35, .row true 1 (cI ((List.range k).map (staff xs n))))]) (fun i => i ≤ k + 1 ∧ (max ((k : Int) - n + 1) 0).toNat ≤ i) (fun i => k + 1 - i) (max ((k : Int) - n + 1) 0).toNat ⟨by omega, Nat.le_refl _⟩
      ⟨by show I _ = I _; congr 3; omega, by show I 0 = I _; rw [List.drop_of_length_le (by simp; omega)]; rfl, rfl, rfl, rfl, rfl, trivial⟩ ⟨rfl, trivial⟩ ?_
    rintro i ⟨hi, ha⟩
    conv => whnf
    refine Br.mk (fun h2 => ?_) (fun h2 => ?_)
    · have hi' : i ≤ k := by simp at h2; omega
      conv => whnf
      refine ⟨⟨⟨by omega, by rw [cI_len]; omega⟩, cI_sz xs⟩, ?_⟩
      conv => whnf
      refine ⟨[.s (.int .i64 xs[i])], by simp [cI], ?_⟩
      conv => whnf
      have e := part_succ xs (max ((k : Int) - n + 1) 0).toNat i ha (by omega)
      have b := part_bound xs hs (max ((k : Int) - n + 1) 0).toNat (i + 1)
      refine Wr.fit (wrap_i64 (by omega) (by omega)) ?_
      conv => whnf
      refine Wr.fit (wrap_i64 (by omega) (by omega)) ?_
      conv => whnf
      refine ⟨i + 1, ⟨by omega, by omega⟩, by omega, ⟨rfl, ?_, rfl, rfl, rfl, rfl, trivial⟩, ⟨rfl, trivial⟩⟩
      rw [e]; rfl
    · have hi' : i = k + 1 := by simp at h2; omega
      subst hi'
      conv => whnf
      refine ⟨_, rfl, Nat.le_refl _, ?_⟩
      conv => whnf
      refine ⟨_, rfl, by simp [cI], ?_⟩
      conv => whnf
      refine ⟨by show (k + 1) * 8 ≤ _; omega, ?_⟩
      conv => whnf
      refine Wr.fit (wrap_i64 (by omega) (by omega)) ?_
      conv => whnf
      refine ⟨k + 1, hk', by omega, ⟨rfl, rfl, rfl, rfl, trivial⟩, ?_, trivial⟩
      show Ob.row true 1 (List.take k (cI (List.map (staff xs n) (List.range k))) ++ [[C.s (Value.int IntKind.i64 (staff xs n k))]]) = _
      have h1 : List.take k (cI (List.map (staff xs n) (List.range k))) = cI (List.map (staff xs n) (List.range k)) := List.take_of_length_le (by simp [cI])
      rw [h1]
      congr 1
      simp [cI, List.range_succ]
  · have hk' : k = xs.length := by simp at h; omega
    subst hk'
    conv => whnf
    exact ⟨⟨rfl, rfl, rfl, rfl, rfl, rfl⟩, [], rfl, trivial, rfl⟩


theorem hoursB_iff (xs : List Int) (n : Int) : hoursB xs n = true ↔ (1 ≤ xs.length ∧ xs.length ≤ 48) ∧ (1 ≤ n ∧ n ≤ xs.length) ∧ ∀ x, x ∈ xs → 0 ≤ x ∧ x ≤ 1000 := by
  simp only [hoursB, Bool.and_eq_true, decide_eq_true_eq, Bool.not_eq_true', List.any_eq_false]
  constructor
  · rintro ⟨⟨⟨h1, h2⟩, h3, h4⟩, h5⟩
    exact ⟨⟨by omega, by omega⟩, ⟨h3, h4⟩, fun x hx => by have := h5 x hx; simp at this; exact this⟩
  · rintro ⟨⟨h1, h2⟩, ⟨h3, h4⟩, h5⟩
    exact ⟨⟨⟨by omega, by omega⟩, h3, h4⟩, fun x hx => by have := h5 x hx; simp; exact this⟩

theorem numsB_iff (xs : List Int) : numsB xs = true ↔ (1 ≤ xs.length ∧ xs.length ≤ 48) ∧ ∀ x, x ∈ xs → 0 ≤ x ∧ x ≤ 1000 := by
  simp only [numsB, Bool.and_eq_true, decide_eq_true_eq, List.all_eq_true]
  constructor
  · rintro ⟨⟨h1, h2⟩, h5⟩
    exact ⟨⟨by omega, by omega⟩, h5⟩
  · rintro ⟨⟨h1, h2⟩, h5⟩
    exact ⟨⟨by omega, by omega⟩, h5⟩

theorem starts_eq (ys : List Int) (n : Int) : startsB ys n = startsS ys n := by
  rw [Bool.eq_iff_iff]
  unfold startsB startsS
  simp only [Bool.and_eq_true, hoursB_iff, numsB_iff, decide_eq_true_eq, Bool.not_eq_true', List.any_eq_false, zerosFrom, List.all_eq_true, List.mem_range, Bool.or_eq_true]
  constructor
  · rintro ⟨⟨h1, h2, h3⟩, h4⟩
    refine ⟨⟨⟨h1, h3⟩, h2⟩, fun j hj => ?_⟩
    by_cases hlt : j < ((ys.length : Int) - n + 1).toNat
    · exact .inl hlt
    · refine .inr ?_
      have hm : ys[j] ∈ ys.drop ((ys.length : Int) - n + 1).toNat := by
        rw [List.mem_iff_getElem]
        exact ⟨j - ((ys.length : Int) - n + 1).toNat, by simp; omega, by rw [List.getElem_drop]; congr 1; omega⟩
      have h5 := h4 _ hm
      have h6 := h3 ys[j] (by simp)
      have e : ys.getD j 0 = ys[j] := by simp [List.getD_eq_getElem?_getD, hj]
      rw [e]
      omega
  · rintro ⟨⟨⟨h1, h3⟩, h2⟩, h4⟩
    refine ⟨⟨h1, h2, h3⟩, fun x hx => ?_⟩
    rw [List.mem_iff_getElem] at hx
    obtain ⟨k, hk, rfl⟩ := hx
    rw [List.getElem_drop]
    have hk' : ((ys.length : Int) - n + 1).toNat + k < ys.length := by simp at hk; omega
    have := h4 _ hk'
    rw [show ys.getD (((ys.length : Int) - n + 1).toNat + k) 0 = ys[((ys.length : Int) - n + 1).toNat + k] by simp [List.getD_eq_getElem?_getD, hk']] at this
    rcases this with h | h
    · omega
    · omega


/-- All hours' staff. -/
def staffs (xs : List Int) (n : Int) : List Int := (List.range xs.length).map (staff xs n)
theorem staffs_len (xs : List Int) (n : Int) : (staffs xs n).length = xs.length := by simp [staffs]

theorem startsB_n {xs : List Int} {n : Int} (h : startsB xs n = true) : 1 ≤ xs.length ∧ xs.length ≤ 48 ∧ 1 ≤ n ∧ n ≤ xs.length ∧ ∀ x, x ∈ xs → 0 ≤ x ∧ x ≤ 1000 := by
  unfold startsB at h
  simp only [Bool.and_eq_true] at h
  exact hoursB_n h.1


theorem sum_le {xs : List Int} {m : Int} (h : ∀ x, x ∈ xs → 0 ≤ x ∧ x ≤ m) : 0 ≤ xs.sum ∧ xs.sum ≤ m * xs.length := by
  induction xs with
  | nil => simp
  | cons x r ih =>
    obtain ⟨h1, h2⟩ := ih fun y hy => h y (by simp [hy])
    obtain ⟨h3, h4⟩ := h x (by simp)
    simp only [List.sum_cons, List.length_cons]
    refine ⟨by omega, ?_⟩
    have : m * ((r.length + 1 : Nat) : Int) = m * r.length + m := by rw [Int.natCast_add, Int.mul_add]; simp
    omega

theorem staff_le {ys : List Int} {n : Int} (h : ∀ x, x ∈ ys → 0 ≤ x ∧ x ≤ 1000) (hl : ys.length ≤ 48) (k : Nat) : 0 ≤ staff ys n k ∧ staff ys n k ≤ 48000 := by
  unfold staff
  have h1 := sum_le (xs := (ys.take (k + 1)).drop (max ((k : Int) - n + 1) 0).toNat) (m := 1000) fun x hx => h x (List.mem_of_mem_take (List.mem_of_mem_drop hx))
  have h2 : ((ys.take (k + 1)).drop (max ((k : Int) - n + 1) 0).toNat).length ≤ 48 := by simp; omega
  omega

theorem staffs_mem {ys : List Int} {n : Int} (h : ∀ x, x ∈ ys → 0 ≤ x ∧ x ≤ 1000) (hl : ys.length ≤ 48) : ∀ x, x ∈ staffs ys n → 0 ≤ x ∧ x ≤ 48000 := by
  intro x hx
  obtain ⟨k, _, rfl⟩ := List.mem_map.1 hx
  exact staff_le h hl k

end Go.V
/- Contracts taken over from the earlier seat. -/
namespace Go.V
open Go.Proofs Go.RowKit
set_option maxRecDepth 10000
set_option maxHeartbeats 1000000

abbrev sp : Int := -7000000000000000101

/-- What is behind a list that a law makes. -/
def withRoom (xs : List Int) : List Int := xs ++ List.replicate (room xs.length) sp

theorem fn_toI (xs : List Int) (b : Bool) (hb : b = false ∨ xs ≠ []) (hl : xs.length ≤ 1000000) :
    Fn Tryz.prog 27 [.d (.sl (cI xs)), B b] [] (.ls 0 0 xs.length 1) [(0, .row true 1 (cI (withRoom xs)))] := by
  have hr := room_le xs.length
  generalize hm : room xs.length = m at hr
  have hwl : withRoom xs = xs ++ List.replicate m sp := by rw [withRoom, hm]
  have k1 : (xs ++ List.replicate m 0).length = (List.replicate (xs.length + m) (0 : Int)).length := by simp
  have k2 : (xs ++ List.replicate m sp).length = (xs ++ List.replicate m 0).length := by simp
  have k3 : (xs ++ List.replicate m sp).length = xs.length + m := by simp
  have c1 := fn_room xs.length hl
  rw [hm] at c1
  refine Fn.intro (ks := [0,1,4,5,6,7,13,24,39]) hty rfl rfl rfl rfl rfl ?_
  cases b
  case' true =>
    conv => whnf
    refine Br.mk (fun h => absurd h ?_) (fun _ => ?_)
    · have hne : xs ≠ [] := by rcases hb with hb | hb; cases hb; exact hb
      have := List.length_pos_iff.2 hne
      rw [cI_len]; simp; exact hne
  all_goals
    clear hb
    conv => whnf
    rw [cI_len]
    refine VCall.of_data c1 (nd _) ?_
    conv => whnf
    refine Wr.fit (wrap_i64 (by omega) (by omega)) ?_
    conv => whnf
    refine ⟨⟨by omega, by omega, by show ((xs.length : Int) + m) * ((8 : Nat) : Int) ≤ _; omega, by omega⟩, ?_⟩
    conv => whnf
    refine VLoop.inv hty (S := Nat) (fun k => [(6, I k), (5, .ls 20 0 (xs.length + m) 1), (0, .d (.sl (cI xs)))])
      (fun k => [(20, .row true 1 (cI (fillL (xs ++ List.replicate m 0) (List.replicate (xs.length + m) 0) k)))]) (fun k => k ≤ xs.length) (fun k => xs.length - k) 0 (Nat.zero_le _)
      ⟨rfl, by show AV.ls _ _ _ _ = _; congr 1, rfl, trivial⟩ ⟨by show Ob.row true 1 (List.replicate ((xs.length : Int) + m).toNat [.s (.int .i64 0)]) = _; rw [fill_zero, show ((xs.length : Int) + m).toNat = xs.length + m by omega]; simp [cI], trivial⟩ ?_
    intro k hk
    conv => whnf
    rw [cI_len]
    refine Br.mk (fun h => ?_) (fun h => ?_)
    · have hk' : k < xs.length := by simp at h; omega
      conv => whnf
      refine ⟨⟨⟨by omega, by rw [cI_len]; omega⟩, cI_sz xs⟩, ?_⟩
      conv => whnf
      refine ⟨[.s (.int .i64 xs[k])], by simp [cI, hk'], ?_⟩
      conv => whnf
      refine ⟨by omega, ?_⟩
      conv => whnf
      refine ⟨[.s (.int .i64 (fillL (xs ++ List.replicate m 0) (List.replicate (xs.length + m) 0) k)[k]!)], by
        have : k < (fillL (xs ++ List.replicate m 0) (List.replicate (xs.length + m) 0) k).length := by rw [fill_len k1]; simp; omega
        simp [cI, this], ?_⟩
      conv => whnf
      refine Wr.fit (wrap_i64 (by omega) (by omega)) ?_
      conv => whnf
      refine ⟨k + 1, hk', by omega, ⟨rfl, rfl, rfl, trivial⟩, ?_, trivial⟩
      show Ob.row true 1 ((cI _).set k [.s (.int .i64 xs[k])]) = _
      rw [cI_set, ← fill_set k1 (by simp; omega)]
      congr 3
      rw [List.getElem_append_left hk']
    · have hk' : k = xs.length := by simp at h; omega
      subst hk'
      conv => whnf
      rw [cI_len]
      have e0 : fillL (xs ++ List.replicate m 0) (List.replicate (xs.length + m) 0) xs.length = fillL (xs ++ List.replicate m sp) (xs ++ List.replicate m 0) xs.length := by
        simp [fillL]
      rw [e0]
      refine VLoop.inv hty (S := Nat) (fun k => [(7, I k), (5, .ls 20 0 (xs.length + m) 1), (0, .d (.sl (cI xs)))])
        (fun k => [(20, .row true 1 (cI (fillL (xs ++ List.replicate m sp) (xs ++ List.replicate m 0) k)))]) (fun k => xs.length ≤ k ∧ k ≤ xs.length + m) (fun k => xs.length + m - k) xs.length ⟨Nat.le_refl _, by omega⟩
        ⟨rfl, rfl, rfl, trivial⟩ ⟨rfl, trivial⟩ ?_
      rintro k ⟨hk1, hk2⟩
      conv => whnf
      refine Br.mk (fun h => ?_) (fun h => ?_)
      · have hk' : k < xs.length + m := by simp at h; omega
        conv => whnf
        refine ⟨by omega, ?_⟩
        conv => whnf
        refine ⟨[.s (.int .i64 (fillL (xs ++ List.replicate m sp) (xs ++ List.replicate m 0) k)[k]!)], by
          have : k < (fillL (xs ++ List.replicate m sp) (xs ++ List.replicate m 0) k).length := by rw [fill_len k2]; simp; omega
          simp [cI, this], ?_⟩
        conv => whnf
        refine Wr.fit (wrap_i64 (by omega) (by omega)) ?_
        conv => whnf
        refine ⟨k + 1, ⟨by omega, by omega⟩, by omega, ⟨rfl, rfl, rfl, trivial⟩, ?_, trivial⟩
        show Ob.row true 1 ((cI _).set k [.s (.int .i64 sp)]) = _
        rw [cI_set, ← fill_set k2 (by simp; omega)]
        congr 3
        rw [List.getElem_append_right (by omega)]; simp
      · have hk' : k = xs.length + m := by simp at h; omega
        subst hk'
        conv => whnf
        rw [cI_len, fill_end k2 (by simp), ← hwl]
        refine ⟨⟨by omega, by omega, by rw [cI_len, hwl, k3]; omega⟩, ?_⟩
        conv => whnf
        exact ⟨⟨rfl, rfl, rfl, rfl, by omega, rfl⟩, [], rfl, trivial, rfl⟩

theorem fn_toI0 : Fn Tryz.prog 27 [.d (.sl (cI [])), B true] [] (.d (.sl [])) [] := by
  refine Fn.intro (ks := [0,1,4,5,6,7,13,24,39]) hty rfl rfl rfl rfl rfl ?_
  conv => whnf
  exact ⟨trivial, rfl⟩

/-- The same, told as data. -/
theorem fn_toId (xs : List Int) (b : Bool) (hl : xs.length ≤ 1000000) : Fn Tryz.prog 27 [.d (.sl (cI xs)), B b] [] (.d (.sl (cI xs))) [] := by
  by_cases h : b = false ∨ xs ≠ []
  · have := (fn_toI xs b h hl).freeze (by rw [cI_len]; simp [withRoom])
    have e : (List.drop 0 (cI (withRoom xs))).take xs.length = cI xs := by simp [cI, withRoom]
    rwa [e] at this
  · have hb : b = true := by cases b; exact absurd (.inl rfl) h; rfl
    have hx : xs = [] := Classical.byContradiction fun e => h (.inr e)
    subst hb; subst hx
    exact fn_toI0

theorem fn_intactI (xs : List Int) (hl : xs.length ≤ 1000000) :
    Fn Tryz.prog 29 [.ls 1000000 0 xs.length 1, .ls 1000001 0 xs.length 1] [(1000000, .row true 1 (cI (withRoom xs))), (1000001, .row true 1 (cI (withRoom xs)))] (B true)
      [(1000000, .row true 1 (cI (withRoom xs))), (1000001, .row true 1 (cI (withRoom xs)))] := by
  have hr := room_le xs.length
  have hw : (withRoom xs).length = xs.length + room xs.length := by simp [withRoom]
  refine Fn.intro (ks := [0,1,4,5]) hty rfl rfl rfl rfl rfl ?_
  conv => whnf
  refine VCall.of_data (fn_room xs.length (by omega)) (nd _) ?_
  conv => whnf
  refine Wr.fit (wrap_i64 (by omega) (by omega)) ?_
  conv => whnf
  refine VDraw.go hmo hty 15 [] rfl ?_
  conv => whnf
  rw [decide_eq_true rfl]
  conv => whnf
  refine ⟨⟨by omega, by omega, by rw [cI_len, hw]; omega⟩, ?_⟩
  conv => whnf
  refine ⟨⟨by omega, by omega, by rw [cI_len, hw]; omega⟩, ?_⟩
  conv => whnf
  refine QCall.lend (fn_eqI (withRoom xs) (withRoom xs) (by omega) (by omega)) ⟨⟨rfl, ?_, ?_⟩, ⟨rfl, ?_, ?_⟩, trivial⟩ rfl ?_
  iterate 2
    · simp only [cI_len, hw]; omega
    · show ((cI _).drop (Int.toNat 0 + 0)).take _ = _
      rw [List.take_of_length_le (by simp [cI_len, hw]; omega)]; rfl
  conv => whnf
  exact ⟨by simp, ⟨rfl, rfl, trivial⟩, rfl⟩

end Go.V
/- CostOf. -/
namespace Go.V
open Go.Proofs Go.RowKit
set_option maxRecDepth 10000
set_option maxHeartbeats 1000000

theorem fn_l02Give (q : Rat) (hs : sz q ≤ 100000000000) : Fn Tryz.prog 89 [rS q] [] (.tup [Str (toldT q), B (fitsQ q)]) [] := by
  have c := fn_sGive q hs
  refine Fn.intro (ks := [0,1,2,3,4,5,12]) hty rfl rfl rfl rfl rfl ?_
  conv => whnf
  refine VCall.of_data c (ndT (fun k => rfl)) ?_
  conv => whnf
  unfold toldT
  cases fitsQ q
  · conv => whnf
    exact ⟨rfl, rfl, trivial, rfl⟩
  · conv => whnf
    exact ⟨rfl, rfl, trivial, rfl⟩

def prodL (ss : List Int) (xs : List Rat) : List Rat := (List.range xs.length).map fun i => ((ss.getD i 0 : Int) : Rat) * xs.getD i 0
theorem prodL_len (ss : List Int) (xs : List Rat) : (prodL ss xs).length = xs.length := by simp [prodL]
theorem prodL_at (ss : List Int) (xs : List Rat) {i : Nat} (h : i < xs.length) : (prodL ss xs).getD i 0 = ((ss.getD i 0 : Int) : Rat) * xs.getD i 0 := by
  rw [List.getD_eq_getElem?_getD, List.getElem?_eq_getElem (by rw [prodL_len]; exact h)]
  simp [prodL]
theorem prodL_sz {ss : List Int} {xs : List Rat} (hs : ∀ i, 0 ≤ ss.getD i 0 ∧ ss.getD i 0 ≤ 1000000) (hx : ∀ q, q ∈ xs → sz q ≤ 800) : ∀ q, q ∈ prodL ss xs → sz q ≤ 821 := by
  intro q hq
  obtain ⟨i, hi, rfl⟩ := List.mem_map.1 hq
  have hi : i < xs.length := by simpa using hi
  have h1 : sz ((ss.getD i 0 : Int) : Rat) ≤ 20 := sz_small (by have := hs i; omega) (by decide)
  have h2 := getD_sz hx i (by decide)
  have := sz_mul ((ss.getD i 0 : Int) : Rat) (xs.getD i 0)
  omega

/-- What is paid for the staff, if that can be told. -/
def costQ (ss : List Int) (n : Int) (ps : List (List UInt8)) : Option Rat := match rdRats ps with
  | some xs => if startsB ss n && decide (xs.length = ss.length) then some (rsum (prodL (staffs ss n) xs)) else none
  | none => none
def toldO : Option Rat → List UInt8 × Bool
  | some q => (toldT q, fitsQ q)
  | none => ([], false)

theorem cI_as {l : List Int} {i : Nat} {x : Int} (h : i < l.length) (e : l.getD i 0 = x) : (cI l)[i]? = some [.s (.int .i64 x)] := by
  subst e; rw [List.getD_eq_getElem?_getD, List.getElem?_eq_getElem h]; simp [cI, h]

theorem staffs_nn {ss : List Int} {n : Int} (h : startsB ss n = true) (i : Nat) : 0 ≤ (staffs ss n).getD i 0 ∧ (staffs ss n).getD i 0 ≤ 1000000 := by
  obtain ⟨h1, h2, h3, h4, h5⟩ := startsB_n h
  rw [List.getD_eq_getElem?_getD]
  by_cases hi : i < (staffs ss n).length
  · rw [List.getElem?_eq_getElem hi]
    have := staffs_mem h5 h2 _ (List.getElem_mem hi)
    show 0 ≤ (staffs ss n)[i] ∧ (staffs ss n)[i] ≤ 1000000
    omega
  · rw [List.getElem?_eq_none (by omega)]; decide

theorem costQ_none1 {ss : List Int} {n : Int} {ps : List (List UInt8)} (h : rdRats ps = none) : costQ ss n ps = none := by unfold costQ; rw [h]
theorem costQ_none2 {ss : List Int} {n : Int} {ps : List (List UInt8)} (h : startsB ss n = false) : costQ ss n ps = none := by unfold costQ; rw [h]; split <;> rfl
theorem costQ_none3 {ss : List Int} {n : Int} {ps : List (List UInt8)} {xs : List Rat} (h : rdRats ps = some xs) (h2 : ¬ xs.length = ss.length) : costQ ss n ps = none := by unfold costQ; rw [h]; simp [h2]
theorem costQ_some {ss : List Int} {n : Int} {ps : List (List UInt8)} {xs : List Rat} (h : rdRats ps = some xs) (h1 : startsB ss n = true) (h2 : xs.length = ss.length) : costQ ss n ps = some (rsum (prodL (staffs ss n) xs)) := by unfold costQ; rw [h, h1]; simp [h2]

theorem fn_CostOf (ss : List Int) (n : Int) (ps : List (List UInt8)) (hl : ss.length ≤ 1000000) (hp : ps.length ≤ 1000000) (hs : ∀ x, x ∈ ps → x.length ≤ 1000000) :
    Fn Tryz.prog 28 [.d (.sl (cI ss)), I n, lT ps] [] (.tup [Str (toldO (costQ ss n ps)).1, B (toldO (costQ ss n ps)).2]) [] := by
  have cr := fn_rats ps (by omega) (fun x hx => by have := hs x hx; omega)
  have cs := fn_startsOk ss n hl
  refine Fn.intro (ks := [0,1,2,6,7,8,9,10,11,12,32,36,37,38,39]) hty rfl rfl rfl rfl rfl ?_
  cases hr : rdRats ps with
  | none =>
    rw [hr] at cr
    rw [costQ_none1 hr]
    conv => whnf
    refine VCall.of_data cr (ndT (fun k => rfl)) ?_
    conv => whnf
    exact ⟨rfl, rfl, trivial, rfl⟩
  | some xs =>
    replace cr : Fn Tryz.prog 72 [lT ps] [] (.tup [lQ xs, B true]) [] := by rw [hr] at cr; exact cr
    obtain ⟨x1, x2, x3⟩ := rdRats_sz hr
    cases hb : startsB ss n
    · rw [hb] at cs
      rw [costQ_none2 hb]
      conv => whnf
      refine VCall.of_data cr (ndT (fun k => rfl)) ?_
      conv => whnf
      refine VCall.of_data cs (nd _) ?_
      conv => whnf
      exact ⟨rfl, rfl, trivial, rfl⟩
    · rw [hb] at cs
      by_cases hxl : xs.length = ss.length
      · have hstaff : Fn Tryz.prog 92 [.d (.sl (cI ss)), I n] [] (.d (.sl (cI (staffs ss n)))) [] := by
          have h := (fn_staffAt ss n (fun x hx => by have := (startsB_n hb).2.2.2.2 x hx; omega) hl (by have := startsB_n hb; omega)).freeze (by rw [cI_len]; simp)
          rwa [List.drop_zero, List.take_of_length_le (by rw [cI_len]; simp)] at h
        have hsl := staffs_len ss n
        have hnn := staffs_nn hb
        rw [costQ_some hr hb hxl]
        generalize staffs ss n = st at hstaff hsl hnn ⊢
        have hps := prodL_sz (ss := st) hnn x3
        have hpl := prodL_len st xs
        have hat : ∀ i, i < xs.length → (prodL st xs).getD i 0 = ((st.getD i 0 : Int) : Rat) * xs.getD i 0 := fun i h => prodL_at st xs h
        generalize prodL st xs = pr at hps hpl hat ⊢
        conv => whnf
        refine VCall.of_data cr (ndT (fun k => rfl)) ?_
        conv => whnf
        refine VCall.of_data cs (nd _) ?_
        conv => whnf
        rw [decide_eq_true (by rw [cQ_len, cI_len, hxl])]
        conv => whnf
        refine VCall.of_data (fn_whole 0 (by decide) (by decide)) (ndA fun k => rfl) ?_
        conv => whnf
        refine VCall.of_data hstaff (nd _) ?_
        conv => whnf
        refine VLoop.inv hty (S := Nat) (fun i => [(38, I i), (37, I xs.length), (36, .d (.sl (cI st))), (10, .lp 10 0), (8, lQ xs)]) (fun i => [(10, .box true [B (ng (psum pr i)), nI (tp (psum pr i)), nI (psum pr i).den])])
          (fun i => i ≤ xs.length) (fun i => xs.length - i) 0 (Nat.zero_le _) ⟨rfl, by show I ((cI st).length : Nat) = _; rw [cI_len, hsl, hxl], rfl, rfl, rfl, trivial⟩ ⟨rfl, trivial⟩ ?_
        intro i hi
        conv => whnf
        have sp := sz_psum hps (by decide) i
        refine Br.mk (fun h2 => ?_) (fun h2 => ?_)
        · have h2 : i < xs.length := by simp only [decide_eq_true_eq] at h2; omega
          obtain ⟨x, ex⟩ : ∃ x, xs.getD i 0 = x := ⟨_, rfl⟩
          obtain ⟨s, es⟩ : ∃ s, st.getD i 0 = s := ⟨_, rfl⟩
          have sx := getD_sz x3 i (by decide)
          have hs1 := hnn i
          have er : psum pr (i + 1) = psum pr i + ((s : Int) : Rat) * x := by rw [← ex, ← es, ← hat i h2]; rfl
          rw [ex] at sx
          rw [es] at hs1
          have sz1 : sz ((s : Int) : Rat) ≤ 20 := sz_small (by omega) (by decide)
          have sz2 := sz_mul ((s : Int) : Rat) x
          have cw := fn_whole s (by omega) (by omega)
          have cm := fn_rmul (s : Rat) x (by omega) (by omega)
          have ca := fn_radd (psum pr i) ((s : Rat) * x) (by omega)
          rw [← er] at ca
          conv => whnf
          refine ⟨⟨⟨by omega, by rw [cI_len]; omega⟩, cI_sz _⟩, ?_⟩
          conv => whnf
          refine ⟨_, cI_as (x := s) (by omega) es, ?_⟩
          conv => whnf
          refine VDraw.go hmo hty 9 [] rfl ?_
          conv => whnf
          refine QCall.of_data cw (ndA fun k => rfl) ?_
          conv => whnf
          refine ⟨⟨⟨by omega, by rw [cQ_len]; omega⟩, cQ_sz _⟩, ?_⟩
          conv => whnf
          refine ⟨_, cQ_as (x := x) h2 ex, ?_⟩
          conv => whnf
          refine QCall.of_data cm (ndA fun k => rfl) ?_
          conv => whnf
          refine QCall.of_data ca (ndA fun k => rfl) ?_
          conv => whnf
          refine Wr.i64 (y := ((i + 1 : Nat) : Int)) rfl (by omega) (by omega) ?_
          conv => whnf
          exact ⟨i + 1, h2, by show xs.length - (i + 1) < xs.length - i; omega, ⟨rfl, rfl, rfl, rfl, rfl, trivial⟩, ⟨rfl, trivial⟩⟩
        · have h2 : i = xs.length := by simp only [decide_eq_false_iff_not] at h2; omega
          have ct := fn_told (psum pr i) (by omega)
          have e : rsum pr = psum pr i := by rw [h2, ← hpl]; rfl
          rw [e]
          conv => whnf
          refine VCall.of_data ct (ndT (fun k => rfl)) ?_
          conv => whnf
          exact ⟨rfl, rfl, trivial, rfl⟩
      · rw [costQ_none3 hr hxl]
        conv => whnf
        refine VCall.of_data cr (ndT (fun k => rfl)) ?_
        conv => whnf
        refine VCall.of_data cs (nd _) ?_
        conv => whnf
        rw [decide_eq_false (by rw [cQ_len, cI_len]; omega)]
        conv => whnf
        exact ⟨rfl, rfl, trivial, rfl⟩
end Go.V
/- The reference's CostOf, and the law. -/
namespace Go.V
open Go.Proofs Go.RowKit
set_option maxRecDepth 10000
set_option maxHeartbeats 1000000

theorem fn_sCostOf (ss : List Int) (n : Int) (ps : List (List UInt8)) (hl : ss.length ≤ 1000000) (hp : ps.length ≤ 1000000) (hs : ∀ x, x ∈ ps → x.length ≤ 1000000) :
    Fn Tryz.prog 26 [.d (.sl (cI ss)), I n, lT ps] [] (.tup [Str (toldO (costQ ss n ps)).1, B (toldO (costQ ss n ps)).2]) [] := by
  have cr := fn_sList ps (by omega) (fun x hx => by have := hs x hx; omega)
  have cs : Fn Tryz.prog 83 [.d (.sl (cI ss)), I n] [] (B (startsB ss n)) [] := by rw [starts_eq]; exact fn_l10Starts ss n hl
  refine Fn.intro (ks := [0,1,2,6,7,8,9,10,11,12,32,40]) hty rfl rfl rfl rfl rfl ?_
  cases hr : rdRats ps with
  | none =>
    rw [hr] at cr
    rw [costQ_none1 hr]
    conv => whnf
    refine VCall.of_data cr (ndT (fun k => rfl)) ?_
    conv => whnf
    exact ⟨rfl, rfl, trivial, rfl⟩
  | some xs =>
    replace cr : Fn Tryz.prog 82 [lT ps] [] (.tup [lS xs, B true]) [] := by rw [hr] at cr; exact cr
    obtain ⟨x1, x2, x3⟩ := rdRats_sz hr
    cases hb : startsB ss n
    · rw [hb] at cs
      rw [costQ_none2 hb]
      conv => whnf
      refine VCall.of_data cr (ndT (fun k => rfl)) ?_
      conv => whnf
      refine VCall.of_data cs (nd _) ?_
      conv => whnf
      exact ⟨rfl, rfl, trivial, rfl⟩
    · rw [hb] at cs
      by_cases hxl : xs.length = ss.length
      · have hstaff : Fn Tryz.prog 84 [.d (.sl (cI ss)), I n] [] (.d (.sl (cI (staffs ss n)))) [] := by
          have h := (fn_l10Staff ss n (fun x hx => by have := (startsB_n hb).2.2.2.2 x hx; omega) hl (by have := startsB_n hb; omega)).freeze (by rw [cI_len]; simp)
          rwa [List.drop_zero, List.take_of_length_le (by rw [cI_len]; simp)] at h
        have hsl := staffs_len ss n
        have hnn := staffs_nn hb
        rw [costQ_some hr hb hxl]
        generalize staffs ss n = st at hstaff hsl hnn ⊢
        have hps := prodL_sz (ss := st) hnn x3
        have hpl := prodL_len st xs
        have hat : ∀ i, i < xs.length → (prodL st xs).getD i 0 = ((st.getD i 0 : Int) : Rat) * xs.getD i 0 := fun i h => prodL_at st xs h
        generalize prodL st xs = pr at hps hpl hat ⊢
        conv => whnf
        refine VCall.of_data cr (ndT (fun k => rfl)) ?_
        conv => whnf
        refine VCall.of_data cs (nd _) ?_
        conv => whnf
        rw [decide_eq_true (by rw [cS_len, cI_len, hxl])]
        conv => whnf
        refine VCall.of_data hstaff (nd _) ?_
        conv => whnf
        refine VCall.of_data fn_sNone (ndA fun k => rfl) ?_
        conv => whnf
        refine VLoop.inv hty (S := Nat) (fun i => [(12, I i), (11, .lp 11 0), (10, .d (.sl (cI st))), (8, lS xs)]) (fun i => [(11, .box true [B (ng (psum pr i)), nS (tp (psum pr i)), nS (psum pr i).den])])
          (fun i => i ≤ xs.length) (fun i => xs.length - i) 0 (Nat.zero_le _) ⟨rfl, rfl, rfl, rfl, trivial⟩ ⟨rfl, trivial⟩ ?_
        intro i hi
        conv => whnf
        rw [cS_len]
        have sp := sz_psum hps (by decide) i
        refine Br.mk (fun h2 => ?_) (fun h2 => ?_)
        · have h2 : i < xs.length := by simp only [decide_eq_true_eq] at h2; omega
          obtain ⟨x, ex⟩ : ∃ x, xs.getD i 0 = x := ⟨_, rfl⟩
          obtain ⟨s, es⟩ : ∃ s, st.getD i 0 = s := ⟨_, rfl⟩
          have sx := getD_sz x3 i (by decide)
          have hs1 := hnn i
          have er : psum pr (i + 1) = psum pr i + ((s : Int) : Rat) * x := by rw [← ex, ← es, ← hat i h2]; rfl
          rw [ex] at sx
          rw [es] at hs1
          have sz1 : sz ((s : Int) : Rat) ≤ 20 := sz_small (by omega) (by decide)
          have sz2 := sz_mul ((s : Int) : Rat) x
          have cw := fn_sInt s (by omega) (by omega)
          have cm := fn_sTimes (s : Rat) x (by omega)
          have ca := fn_sSum (psum pr i) ((s : Rat) * x) (by omega)
          rw [← er] at ca
          conv => whnf
          refine VDraw.go hmo hty 12 [] rfl ?_
          conv => whnf
          refine ⟨⟨⟨by omega, by rw [cI_len]; omega⟩, cI_sz _⟩, ?_⟩
          conv => whnf
          refine ⟨_, cI_as (x := s) (by omega) es, ?_⟩
          conv => whnf
          refine QCall.of_data cw (ndA fun k => rfl) ?_
          conv => whnf
          refine ⟨⟨⟨by omega, by rw [cS_len]; omega⟩, cS_sz _⟩, ?_⟩
          conv => whnf
          refine ⟨_, cS_as (x := x) h2 ex, ?_⟩
          conv => whnf
          refine QCall.of_data cm (ndA fun k => rfl) ?_
          conv => whnf
          refine QCall.of_data ca (ndA fun k => rfl) ?_
          conv => whnf
          refine Wr.i64 (y := ((i + 1 : Nat) : Int)) rfl (by omega) (by omega) ?_
          conv => whnf
          exact ⟨i + 1, h2, by show xs.length - (i + 1) < xs.length - i; omega, ⟨rfl, rfl, rfl, rfl, trivial⟩, ⟨rfl, trivial⟩⟩
        · have h2 : i = xs.length := by simp only [decide_eq_false_iff_not] at h2; omega
          have ct := fn_l02Give (psum pr i) (by omega)
          have e : rsum pr = psum pr i := by rw [h2, ← hpl]; rfl
          rw [e]
          conv => whnf
          refine VCall.of_data ct (ndT (fun k => rfl)) ?_
          conv => whnf
          exact ⟨rfl, rfl, trivial, rfl⟩
      · rw [costQ_none3 hr hxl]
        conv => whnf
        refine VCall.of_data cr (ndT (fun k => rfl)) ?_
        conv => whnf
        refine VCall.of_data cs (nd _) ?_
        conv => whnf
        rw [decide_eq_false (by rw [cS_len, cI_len]; omega)]
        conv => whnf
        exact ⟨rfl, rfl, trivial, rfl⟩

theorem law_costOf (ss : List Int) (n : Int) (ps : List (List UInt8)) (hl0 : ss.length < 2 ^ 47) (hp0 : ps.length < 2 ^ 47) (hs0 : ∀ x, x ∈ ps → x.length < 2 ^ 47) : Fn Tryz.prog 5 [.d (.sl (cI ss)), I n, lT ps] [] (B true) [] := by
  have c0 := fn_szT ps (1000000 - (ss.length : Int)) (by omega) (fun x hx => by have := hs0 x hx; omega) (by omega) (by omega)
  refine Fn.intro (ks := [0,1,2,6,7,8,9,10,11,12,13,14,15,23,51,56,61,78]) hty rfl rfl rfl rfl rfl ?_
  conv => whnf
  rw [cI_len]
  obtain ⟨m1, e1⟩ : ∃ m1, 1000000 - (ss.length : Int) = m1 := ⟨_, rfl⟩
  rw [e1] at c0
  rw [e1]
  refine Wr.fit (wrap_i64 (by omega) (by omega)) ?_
  conv => whnf
  refine VCall.of_data c0 (nd _) ?_
  obtain ⟨m2, e2⟩ : ∃ m2, szTT m1 ps = m2 := ⟨_, rfl⟩
  rw [e2]
  conv => whnf
  refine Br.mk (fun h => ?_) (fun h => ?_)
  · conv => whnf
    exact ⟨rfl, trivial, rfl⟩
  · have h : 0 ≤ m2 := by simpa using h
    have hf := szTT_fits (e2 ▸ h)
    have hl : ss.length ≤ 1000000 := by omega
    have hp : ps.length ≤ 1000000 := by omega
    have hs : ∀ x, x ∈ ps → x.length ≤ 1000000 := fun x hx => by have := hf.2 x hx; omega
    have cs := fn_sCostOf ss n ps hl hp hs
    have ci := fn_CostOf ss n ps hl hp hs
    generalize toldO (costQ ss n ps) = r at cs ci
    obtain ⟨r1, r2⟩ := r
    replace cs : Fn Tryz.prog 26 [.d (.sl (cI ss)), I n, lT ps] [] (.tup [Str r1, B r2]) [] := cs
    replace ci : Fn Tryz.prog 28 [.d (.sl (cI ss)), I n, lT ps] [] (.tup [Str r1, B r2]) [] := ci
    conv => whnf
    refine VCall.of_data (fn_toId ss false hl) (nd _) ?_
    conv => whnf
    refine VCall.of_data (fn_toTd ps false hp) (nd _) ?_
    conv => whnf
    refine VCall.of_data cs (ndT fun _ => rfl) ?_
    conv => whnf
    refine VCall.of_ls (k := 34) (fn_toI ss false (.inl rfl) hl) rfl ?_
    conv => whnf
    refine VCall.of_ls (k := 36) (fn_toT ps false (.inl rfl) hp) rfl ?_
    conv => whnf
    refine VCall.lend ci ⟨lend_whole rfl, rfl, lend_wholeT rfl, trivial⟩ rfl ?_
    conv => whnf
    rw [show ((⟨r1.toArray⟩ : ByteArray).toList == (⟨r1.toArray⟩ : ByteArray).toList) = true by simp]
    conv => whnf
    rw [show (r2 == r2) = true by simp]
    conv => whnf
    refine VCall.of_ls (k := 54) (fn_toI ss false (.inl rfl) hl) rfl ?_
    conv => whnf
    refine VCall.par2 34 54 rfl (fn_intactI ss hl) ⟨⟨rfl, rfl, rfl, rfl⟩, ⟨rfl, rfl, rfl, rfl⟩, trivial⟩ rfl rfl ?_
    conv => whnf
    refine VCall.of_ls (k := 59) (fn_toT ps false (.inl rfl) hp) rfl ?_
    conv => whnf
    refine VCall.par2 36 59 rfl (fn_intactT ps hp) ⟨⟨rfl, rfl, rfl, rfl⟩, ⟨rfl, rfl, rfl, rfl⟩, trivial⟩ rfl rfl ?_
    conv => whnf
    refine VCall.of_data (fn_toId ss true hl) (nd _) ?_
    conv => whnf
    refine VCall.of_data (fn_toTd ps true hp) (nd _) ?_
    conv => whnf
    refine VCall.of_data ci (ndT fun _ => rfl) ?_
    conv => whnf
    rw [show ((⟨r1.toArray⟩ : ByteArray).toList == (⟨r1.toArray⟩ : ByteArray).toList) = true by simp]
    conv => whnf
    rw [show (r2 == r2) = true by simp]
    conv => whnf
    exact ⟨rfl, trivial, rfl⟩

end Go.V
