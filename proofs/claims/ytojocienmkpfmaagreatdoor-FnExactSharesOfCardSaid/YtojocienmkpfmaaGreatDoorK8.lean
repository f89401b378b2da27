/- Part 8: the abstract machine, its soundness, contracts of functions. -/
import Derived.Test.YtojocienmkpfmaaGreatDoorK7
set_option linter.unusedVariables false
set_option linter.unusedSimpArgs false
namespace Go.V
open Go.Proofs Go.RowKit
set_option maxRecDepth 10000
set_option maxHeartbeats 1000000
theorem ng_iff {q : Rat} : ng q = true ↔ q < 0 := by
 rw [← sgI_neg]
 unfold sgI
 by_cases h : tp q = 0
 ·rw [ng_zero h, if_pos h]; simp
 ·rw [if_neg h]
  cases ng q <;> simp
theorem fn_sAbove (xs : List Rat) (hn : xs.length ≤ 1000000) (hs : ∀ q, q ∈ xs → sz q ≤ 1000000) : Fn Tryz.prog 166 [lS xs] [] (B (!xs.any fun q => decide (q ≤ 0))) [] := by
 refine Fn.intro (ks := [0,2,3,7,21]) hty rfl rfl rfl rfl rfl ?_
 conv => whnf
 refine VLoop.inv hty (S := Nat) (fun i => [(3, I (i : Nat)), (0, lS xs)]) (fun _ => []) (fun i => i ≤ xs.length ∧ ∀ k, k < i → ¬ xs.getD k 0 ≤ 0) (fun i => xs.length - i) 0 ⟨Nat.zero_le _, fun k h => absurd h (Nat.not_lt_zero k)⟩ ⟨rfl, rfl, trivial⟩ trivial ?_
 rintro i ⟨hi, hk⟩
 conv => whnf
 rw [cS_len]
 refine Br.mk (fun h2 => ?_) (fun h2 => ?_)
 ·have h2 : i < xs.length := by simp only [decide_eq_true_eq] at h2; omega
  obtain ⟨x, ex⟩ : ∃ x, xs.getD i 0 = x := ⟨_, rfl⟩
  have hxm : x ∈ xs := by rw [← ex, List.getD_eq_getElem?_getD, List.getElem?_eq_getElem h2]; exact List.getElem_mem h2
  have cz := fn_sZero x (by have := hs x hxm; omega)
  have bad : x ≤ 0 → (!xs.any fun q => decide (q ≤ 0)) = false := fun h => by
   rw [List.any_eq_true.2 ⟨x, hxm, by simpa using h⟩]; rfl
  have next : ¬ x ≤ 0 → ∀ k, k < i + 1 → ¬ xs.getD k 0 ≤ 0 := fun h k hki => by
   rcases Nat.lt_or_ge k i with h4 | h4
   ·exact hk k h4
   ·rw [show k = i by omega, ex]; exact h
  conv => whnf
  refine ⟨⟨⟨by omega, by rw [cS_len]; omega⟩, cS_sz _⟩, ?_⟩
  conv => whnf
  refine ⟨_, cS_as (x := x) h2 ex, ?_⟩
  conv => whnf
  refine VCall.of_data cz (nd _) ?_
  by_cases hz : x = 0
  ·rw [decide_eq_true hz, bad (by rw [hz]; exact Rat.le_refl)]
   conv => whnf
   exact ⟨rfl, trivial, rfl⟩
  ·rw [decide_eq_false hz]
   conv => whnf
   refine ⟨⟨⟨by omega, by rw [cS_len]; omega⟩, cS_sz _⟩, ?_⟩
   conv => whnf
   refine ⟨_, cS_as (x := x) h2 ex, ?_⟩
   conv => whnf
   refine VCall.of_data (fn_sNeg x) (nd _) ?_
   cases hng : ng x
   ·have h0 : ¬ x < 0 := fun h => by rw [ng_iff.2 h] at hng; cases hng
    conv => whnf
    refine Wr.i64 (y := ((i + 1 : Nat) : Int)) rfl (by omega) (by omega) ?_
    conv => whnf
    exact ⟨i + 1, ⟨h2, next (by grind)⟩, by show xs.length - (i + 1) < xs.length - i; omega, ⟨rfl, rfl, trivial⟩, trivial⟩
   ·rw [bad (Rat.le_of_lt (ng_iff.1 hng))]
    conv => whnf
    exact ⟨rfl, trivial, rfl⟩
 ·have h2 : i = xs.length := by simp only [decide_eq_false_iff_not] at h2; omega
  have e : (!xs.any fun q => decide (q ≤ 0)) = true := by
   rw [Bool.not_eq_true', List.any_eq_false]
   intro q hq
   obtain ⟨k, hk1, hk2⟩ := List.mem_iff_getElem.1 hq
   have := hk k (by omega)
   rw [List.getD_eq_getElem?_getD, List.getElem?_eq_getElem hk1] at this
   simp at this
   rw [hk2] at this
   simpa using this
  rw [e]
  conv => whnf
  exact ⟨rfl, trivial, rfl⟩
abbrev lnP (us ds : List (List UInt8)) : AV := .pp [.sl (cT us), .sl (cT ds)] 0
abbrev lqS (x y : List Rat) : AV := .ag [lS x, lS y]
abbrev lqP (x y : List Rat) : AV := .pp [.sl (cS x), .sl (cS y)] 0
theorem fn_sLine (us ds : List (List UInt8)) (hu : us.length ≤ 1000000) (hd : ds.length ≤ 1000000) (su : ∀ x, x ∈ us → x.length ≤ 1000000) (sd : ∀ x, x ∈ ds → x.length ≤ 1000000) :
  Fn Tryz.prog 96 [lnP us ds] [] (.tup [lqS ((lineQ us ds).getD ([], [])).1 ((lineQ us ds).getD ([], [])).2, B (lineQ us ds).isSome]) [] := by
 have c1 := fn_sList us (by omega) (fun x hx => by have := su x hx; omega)
 have c2 := fn_sList ds (by omega) (fun x hx => by have := sd x hx; omega)
 refine Fn.intro (ks := [0,2,3,4,5,6,7,34,67]) hty rfl rfl rfl rfl rfl ?_
 by_cases h1 : us.length < 1
 ·rw [lineQ_none (.inl h1)]
  conv => whnf
  refine VDraw.go hmo hty 27 [] rfl ?_
  conv => whnf
  rw [cT_len, decide_eq_true (by omega)]
  conv => whnf
  exact ⟨rfl, trivial, rfl⟩
 by_cases h2 : 20 < us.length
 ·rw [lineQ_none (.inr (.inl h2))]
  conv => whnf
  refine VDraw.go hmo hty 27 [] rfl ?_
  conv => whnf
  rw [cT_len, decide_eq_false (by omega)]
  conv => whnf
  rw [cT_len, decide_eq_true (by omega)]
  conv => whnf
  exact ⟨rfl, trivial, rfl⟩
 by_cases h3 : ds.length = us.length
 case neg =>
  rw [lineQ_none (.inr (.inr h3))]
  conv => whnf
  refine VDraw.go hmo hty 27 [] rfl ?_
  conv => whnf
  rw [cT_len, decide_eq_false (by omega)]
  conv => whnf
  rw [cT_len, decide_eq_false (by omega)]
  conv => whnf
  rw [cT_len, cT_len, decide_eq_false (by omega)]
  conv => whnf
  exact ⟨rfl, trivial, rfl⟩
 have hl : ¬ (us.length < 1 ∨ 20 < us.length ∨ ds.length ≠ us.length) := by omega
 have n1 : decide ((us.length : Int) < 1) = false := decide_eq_false (by omega)
 have n2 : decide (20 < (us.length : Int)) = false := decide_eq_false (by omega)
 have n3 : decide ((ds.length : Int) = (us.length : Int)) = true := decide_eq_true (by omega)
 cases ha : rdRats us with
 | none =>
  rw [ha] at c1
  rw [lineQ_none1 ha]
  conv => whnf
  refine VDraw.go hmo hty 27 [] rfl ?_
  conv => whnf
  rw [cT_len, n1]
  conv => whnf
  rw [cT_len, n2]
  conv => whnf
  rw [cT_len, cT_len, n3]
  conv => whnf
  refine VCall.of_data c1 (ndT (fun k => rfl)) ?_
  conv => whnf
  refine VCall.of_data c2 (ndT (fun k => rfl)) ?_
  conv => whnf
  exact ⟨rfl, trivial, rfl⟩
 | some x =>
  replace c1 : Fn Tryz.prog 82 [lT us] [] (.tup [lS x, B true]) [] := by rw [ha] at c1; exact c1
  cases hb : rdRats ds with
  | none =>
   rw [hb] at c2
   rw [lineQ_none2 hb]
   conv => whnf
   refine VDraw.go hmo hty 27 [] rfl ?_
   conv => whnf
   rw [cT_len, n1]
   conv => whnf
   rw [cT_len, n2]
   conv => whnf
   rw [cT_len, cT_len, n3]
   conv => whnf
   refine VCall.of_data c1 (ndT (fun k => rfl)) ?_
   conv => whnf
   refine VCall.of_data c2 (ndT (fun k => rfl)) ?_
   conv => whnf
   exact ⟨rfl, trivial, rfl⟩
  | some y =>
   replace c2 : Fn Tryz.prog 82 [lT ds] [] (.tup [lS y, B true]) [] := by rw [hb] at c2; exact c2
   obtain ⟨a1, a2, a3⟩ := rdRats_sz ha
   obtain ⟨b1, b2, b3⟩ := rdRats_sz hb
   have k1 := fn_sAbove x (by omega) (fun q hq => by have := a3 q hq; omega)
   have k2 := fn_sAbove y (by omega) (fun q hq => by have := b3 q hq; omega)
   have e := lineQ_at hl ha hb
   generalize x.any (fun q => decide (q ≤ 0)) = p1 at k1 e
   generalize y.any (fun q => decide (q ≤ 0)) = p2 at k2 e
   rw [e]
   conv => whnf
   refine VDraw.go hmo hty 27 [] rfl ?_
   conv => whnf
   rw [cT_len, n1]
   conv => whnf
   rw [cT_len, n2]
   conv => whnf
   rw [cT_len, cT_len, n3]
   conv => whnf
   refine VCall.of_data c1 (ndT (fun k => rfl)) ?_
   conv => whnf
   refine VCall.of_data c2 (ndT (fun k => rfl)) ?_
   conv => whnf
   refine VCall.of_data k1 (nd _) ?_
   cases p1
   ·conv => whnf
    refine VCall.of_data k2 (nd _) ?_
    cases p2
    ·conv => whnf
     exact ⟨rfl, rfl, rfl, trivial, rfl⟩
    ·conv => whnf
     exact ⟨rfl, trivial, rfl⟩
   ·conv => whnf
    exact ⟨rfl, trivial, rfl⟩
theorem fn_sNorm (xs : List Rat) (m : Nat) (h : ∀ q, q ∈ xs → sz q ≤ m) (h1 : 1 ≤ m) (hl : xs.length ≤ 1000) (hm : m ≤ 1000000) (h0 : rsum xs ≠ 0) : Fn Tryz.prog 169 [lS xs] [] (.ls 0 0 xs.length 3) [(0, .row true 3 (cS (xs.map (· / rsum xs))))] := by
 have hps := sz_psum h h1 xs.length
 have hle : xs.length * (m + 1) ≤ 1000 * (m + 1) := mul_le hl (Nat.le_refl _)
 have ct := fn_sTotal xs m h h1 (by omega) (by omega)
 have hsz : sz (rsum xs) ≤ 1000 * (m + 1) + 1 := by unfold rsum; omega
 generalize rsum xs = b at ct h0 hsz ⊢
 refine Fn.intro (ks := [0,2,3,4,5,10,11,12]) hty rfl rfl rfl rfl rfl ?_
 conv => whnf
 refine VCall.of_data ct (ndA fun k => rfl) ?_
 conv => whnf
 refine VLoop.ren 8 22 rfl ?_
 refine VLoop.inv hty (S := Nat) (fun i => [(11, I (i : Nat)), (10, I xs.length), (4, .ls 22 0 i 3), (3, .lp 3 0), (0, lS xs)]) (fun i => [(22, .row true 3 (cS ((xs.take i).map (· / b)))), (3, .box true [B (ng b), nS (tp b), nS b.den])])
  (fun i => i ≤ xs.length) (fun i => xs.length - i) 0 (Nat.zero_le _) ⟨rfl, by show I ((cS xs).length : Nat) = _; rw [cS_len], rfl, rfl, rfl, trivial⟩ ⟨rfl, rfl, trivial⟩ ?_
 intro i hi
 conv => whnf
 refine Br.mk (fun h2 => ?_) (fun h2 => ?_)
 ·have h2 : i < xs.length := by simp only [decide_eq_true_eq] at h2; omega
  have sx := getD_sz h i h1
  have et : xs.take (i + 1) = xs.take i ++ [xs.getD i 0] := by rw [List.take_succ_eq_append_getElem h2, List.getD_eq_getElem?_getD, List.getElem?_eq_getElem h2]; rfl
  obtain ⟨x, ex⟩ : ∃ x, xs.getD i 0 = x := ⟨_, rfl⟩
  rw [ex] at sx et
  have co := fn_sOver x b (by omega) h0
  conv => whnf
  refine VDraw.go hmo hty 8 [[21], [21], [21], [21], [21], [21], [21], []] rfl ?_
  conv => whnf
  refine ⟨⟨⟨by omega, by rw [cS_len]; omega⟩, cS_sz _⟩, ?_⟩
  conv => whnf
  refine ⟨_, cS_as (x := x) h2 ex, ?_⟩
  conv => whnf
  refine QCall.of_data co (ndA fun k => rfl) ?_
  conv => whnf
  refine Sub.full rfl ?_
  conv => whnf
  refine Sub.full (by rw [cS_len, List.length_map, List.length_take]; omega) ?_
  conv => whnf
  refine ⟨by show (i + 1) * 56 ≤ _; omega, ?_⟩
  conv => whnf
  refine Wr.i64 (y := ((i + 1 : Nat) : Int)) rfl (by omega) (by omega) ?_
  conv => whnf
  refine ⟨i + 1, h2, by show xs.length - (i + 1) < xs.length - i; omega, ⟨rfl, rfl, rfl, rfl, rfl, trivial⟩, ?_, rfl, trivial⟩
  show Ob.row true 3 (cS _ ++ cS [x / b]) = _
  rw [et, List.map_append]
  simp [cS]
 ·have h2 : i = xs.length := by simp only [decide_eq_false_iff_not] at h2; omega
  subst h2
  rw [List.take_length]
  conv => whnf
  exact ⟨⟨rfl, rfl, rfl, rfl, rfl, rfl⟩, [], rfl, trivial, rfl⟩
end Go.V
namespace Go.V
open Go.Proofs Go.RowKit
set_option maxRecDepth 10000
set_option maxHeartbeats 1000000
theorem fn_sShares (x y : List Rat) (h : LineOk x y) : Fn Tryz.prog 98 [lqP x y] [] (lS (shQ x y)) [] := by
 have hl1 := h.n2
 have hl2 := h.eq
 have hwp := wt_sum_pos h
 have hwl := wtL_sz h
 refine Fn.intro (ks := [0,2,3,4,13]) hty rfl rfl rfl rfl rfl ?_
 conv => whnf
 refine VCall.of_data fn_sOne (ndA fun k => rfl) ?_
 conv => whnf
 refine VLoop.ren 6 38 rfl ?_
 refine VLoop.inv hty (S := Nat) (fun n => [(4, I (n : Nat)), (3, .ls 38 0 (n + 1) 3), (0, lqP x y)]) (fun n => [(38, .row true 3 (cS (wtL x y (n + 1))))])
  (fun n => n ≤ x.length) (fun n => x.length - n) 0 (Nat.zero_le _) ⟨rfl, rfl, rfl, trivial⟩ ⟨rfl, trivial⟩ ?_
 intro n hn
 have hll := wtL_len x y (n + 1)
 conv => whnf
 rw [cS_len]
 refine Br.mk (fun h2 => ?_) (fun h2 => ?_)
 ·have h2 : n < x.length := by simp only [decide_eq_true_eq] at h2; omega
  have hg := wtL_at x y (n := n + 1) (k := n) (by omega)
  have hs := wtL_szAll h n (by omega)
  have hlc := wtL_succ x y (n + 1)
  have enext : wtQ x y (n + 1) = wtQ x y n * x.getD n 0 / y.getD n 0 := rfl
  have sa := getD_sz h.sx n (by decide)
  have sb := getD_sz h.sy n (by decide)
  have hb := getD_pos h.py (i := n) (by omega)
  obtain ⟨w, ew⟩ : ∃ w, wtQ x y n = w := ⟨_, rfl⟩
  obtain ⟨a, ea⟩ : ∃ a, x.getD n 0 = a := ⟨_, rfl⟩
  obtain ⟨b, eb⟩ : ∃ b, y.getD n 0 = b := ⟨_, rfl⟩
  rw [ew] at hg hs enext
  rw [ea] at sa enext
  rw [eb] at sb hb enext
  have cm := fn_sTimes w a (by omega)
  have sm := sz_mul w a
  obtain ⟨p, ep⟩ : ∃ p, w * a = p := ⟨_, rfl⟩
  rw [ep] at cm sm enext
  have co := fn_sOver p b (by omega) (by grind)
  rw [← enext] at co
  conv => whnf
  refine VDraw.go hmo hty 22 [[37], [37], [37], [37], [37], [37], [37], [37], [37], [37], [37], [37], [37], [37], [37], [37], [37], [37], [37], [37], [37], []] rfl ?_
  conv => whnf
  refine ⟨by omega, ?_⟩
  conv => whnf
  refine ⟨_, cS_as (x := w) (by omega) hg, ?_⟩
  conv => whnf
  refine ⟨⟨⟨by omega, by rw [cS_len]; omega⟩, cS_sz _⟩, ?_⟩
  conv => whnf
  refine ⟨_, cS_as (x := a) h2 ea, ?_⟩
  conv => whnf
  refine QCall.of_data cm (ndA fun k => rfl) ?_
  conv => whnf
  refine ⟨⟨⟨by omega, by rw [cS_len]; omega⟩, cS_sz _⟩, ?_⟩
  conv => whnf
  refine ⟨_, cS_as (x := b) (by omega) eb, ?_⟩
  conv => whnf
  refine QCall.of_data co (ndA fun k => rfl) ?_
  conv => whnf
  refine Sub.full rfl ?_
  conv => whnf
  refine Sub.full (by rw [cS_len, hll]) ?_
  conv => whnf
  refine ⟨by show (n + 1 + 1) * 56 ≤ _; omega, ?_⟩
  conv => whnf
  refine Wr.i64 (y := ((n + 1 : Nat) : Int)) rfl (by omega) (by omega) ?_
  conv => whnf
  refine ⟨n + 1, h2, by show x.length - (n + 1) < x.length - n; omega, ⟨rfl, rfl, rfl, trivial⟩, ?_, trivial⟩
  show Ob.row true 3 (cS _ ++ cS [wtQ x y (n + 1)]) = _
  rw [hlc]; simp [cS]
 ·have h2 : n = x.length := by simp only [decide_eq_false_iff_not] at h2; omega
  subst h2
  have cs := (fn_sNorm (wtL x y (x.length + 1)) 32001 hwl (by decide) (by omega) (by decide) (by grind)).freeze (by rw [cS_len, List.length_map]; exact Nat.le_refl _)
  rw [List.drop_zero, List.take_of_length_le (by rw [cS_len, List.length_map]; exact Nat.le_refl _)] at cs
  conv => whnf
  refine VCall.frzD 38 (n := x.length + 1) (sz := 3) (D := cS (wtL x y (x.length + 1))) ⟨rfl, rfl⟩ (by rw [cS_len, hll]) (by repeat first | exact trivial | refine ⟨⟨rfl, rfl, rfl⟩, ?_⟩) ⟨⟨rfl, rfl, rfl⟩, trivial⟩ ?_
  refine VCall.of_data cs (nd _) ?_
  conv => whnf
  exact ⟨rfl, trivial, rfl⟩
theorem fn_sMoment (xs : List Rat) (n m : Nat) (h : ∀ q, q ∈ xs → sz q ≤ m) (h1 : 1 ≤ m) (hl : xs.length ≤ 1000) (hn : n ≤ 10) (hm : m ≤ 1000000) : Fn Tryz.prog 102 [lS xs, I n] [] (rS (momQ xs n)) [] := by
 have hsz := mom_sz h h1 hl hn
 have e0 : momQ xs n = psum (tab xs.length fun k => xs.getD k 0 * (((k : Nat) : Int) : Rat) ^ n) xs.length := rsum_tab _ _
 have est : ∀ i, i < xs.length → psum (tab xs.length fun k => xs.getD k 0 * (((k : Nat) : Int) : Rat) ^ n) (i + 1) = psum (tab xs.length fun k => xs.getD k 0 * (((k : Nat) : Int) : Rat) ^ n) i + xs.getD i 0 * (((i : Nat) : Int) : Rat) ^ n := fun i hi => psum_tab hi
 rw [e0]
 clear e0
 generalize (tab xs.length fun k => xs.getD k 0 * (((k : Nat) : Int) : Rat) ^ n) = L at hsz est ⊢
 refine Fn.intro (ks := [0,1,4,5,6,9,10,11]) hty rfl rfl rfl rfl rfl ?_
 conv => whnf
 refine VCall.of_data fn_sNone (ndA fun k => rfl) ?_
 conv => whnf
 refine VLoop.inv hty (S := Nat) (fun i => [(10, I (i : Nat)), (9, I xs.length), (5, .lp 5 0), (4, .lp 4 0), (1, I n), (0, lS xs)]) (fun i => [(5, .box true [B (ng (psum L i)), nS (tp (psum L i)), nS (psum L i).den]), (4, .box true [B false, .d (.s (.slice none 0 0)), .d (.s (.slice none 0 0))])])
  (fun i => i ≤ xs.length) (fun i => xs.length - i) 0 (Nat.zero_le _) ⟨rfl, by show I ((cS xs).length : Nat) = _; rw [cS_len], rfl, rfl, rfl, rfl, trivial⟩ ⟨rfl, rfl, trivial⟩ ?_
 intro i hi
 conv => whnf
 have sp := hsz i hi
 refine Br.mk (fun h2 => ?_) (fun h2 => ?_)
 ·have h2 : i < xs.length := by simp only [decide_eq_true_eq] at h2; omega
  have er := est i h2
  have sx := getD_sz h i h1
  obtain ⟨x, ex⟩ : ∃ x, xs.getD i 0 = x := ⟨_, rfl⟩
  rw [ex] at er sx
  have cw := fn_sInt (i : Nat) (by omega) (by omega)
  have sw := sz_nat (n := i) (by omega)
  obtain ⟨w, ew⟩ : ∃ w, (((i : Nat) : Int) : Rat) = w := ⟨_, rfl⟩
  rw [ew] at cw sw er
  have sn : n * sz w ≤ 10 * 20 := mul_le hn sw
  have cp := fn_sPower w n (by omega) (by omega)
  have spw := sz_pow w n
  obtain ⟨p, ep⟩ : ∃ p, w ^ n = p := ⟨_, rfl⟩
  rw [ep] at cp spw er
  have cm := fn_sTimes x p (by omega)
  have sm := sz_mul x p
  have ca := fn_sSum (psum L i) (x * p) (by omega)
  rw [← er] at ca
  conv => whnf
  refine VDraw.go hmo hty 11 [] rfl ?_
  conv => whnf
  refine ⟨⟨⟨by omega, by rw [cS_len]; omega⟩, cS_sz _⟩, ?_⟩
  conv => whnf
  refine ⟨_, cS_as (x := x) h2 ex, ?_⟩
  conv => whnf
  refine QCall.of_data cw (ndA fun k => rfl) ?_
  conv => whnf
  refine QCall.of_data cp (ndA fun k => rfl) ?_
  conv => whnf
  refine QCall.of_data cm (ndA fun k => rfl) ?_
  conv => whnf
  refine QCall.of_data ca (ndA fun k => rfl) ?_
  conv => whnf
  refine Wr.i64 (y := ((i + 1 : Nat) : Int)) rfl (by omega) (by omega) ?_
  conv => whnf
  exact ⟨i + 1, h2, by show xs.length - (i + 1) < xs.length - i; omega, ⟨rfl, rfl, rfl, rfl, rfl, rfl, trivial⟩, rfl, rfl, trivial⟩
 ·have h2 : i = xs.length := by simp only [decide_eq_false_iff_not] at h2; omega
  subst h2
  conv => whnf
  exact ⟨rfl, rfl, rfl, trivial, rfl⟩
theorem fn_sThrough (x y : List Rat) (h : LineOk x y) : Fn Tryz.prog 108 [lqP x y, lS (shQ x y)] [] (rS (thrQ x y)) [] := by
 have hl1 := h.n2
 have hsz := thr_sz h
 have hwl := shQ_len x y
 have hws := shQ_sz h
 have e0 : thrQ x y = psum (tab x.length (thrF x y)) x.length := rsum_tab _ _
 have est : ∀ i, i < x.length → psum (tab x.length (thrF x y)) (i + 1) = psum (tab x.length (thrF x y)) i + x.getD i 0 * (shQ x y).getD i 0 := fun i hi => psum_tab hi
 rw [e0]
 clear e0
 generalize tab x.length (thrF x y) = L at hsz est ⊢
 generalize shQ x y = w at hwl hws est ⊢
 refine Fn.intro (ks := [0,1,4,5,6,14]) hty rfl rfl rfl rfl rfl ?_
 conv => whnf
 refine VCall.of_data fn_sNone (ndA fun k => rfl) ?_
 conv => whnf
 refine VLoop.inv hty (S := Nat) (fun i => [(6, I (i : Nat)), (5, .lp 5 0), (4, .lp 4 0), (1, lS w), (0, lqP x y)]) (fun i => [(5, .box true [B (ng (psum L i)), nS (tp (psum L i)), nS (psum L i).den]), (4, .box true [B false, .d (.s (.slice none 0 0)), .d (.s (.slice none 0 0))])])
  (fun i => i ≤ x.length) (fun i => x.length - i) 0 (Nat.zero_le _) ⟨rfl, rfl, rfl, rfl, rfl, trivial⟩ ⟨rfl, rfl, trivial⟩ ?_
 intro i hi
 conv => whnf
 rw [cS_len]
 have sp := hsz i hi
 refine Br.mk (fun h2 => ?_) (fun h2 => ?_)
 ·have h2 : i < x.length := by simp only [decide_eq_true_eq] at h2; omega
  have er := est i h2
  have sx := getD_sz h.sx i (by decide)
  have sw := getD_sz hws i (by decide)
  obtain ⟨a, ea⟩ : ∃ a, x.getD i 0 = a := ⟨_, rfl⟩
  obtain ⟨b, eb⟩ : ∃ b, w.getD i 0 = b := ⟨_, rfl⟩
  rw [ea] at er sx
  rw [eb] at er sw
  have cm := fn_sTimes a b (by omega)
  have sm := sz_mul a b
  have ca := fn_sSum (psum L i) (a * b) (by omega)
  rw [← er] at ca
  conv => whnf
  refine VDraw.go hmo hty 14 [] rfl ?_
  conv => whnf
  refine ⟨⟨⟨by omega, by rw [cS_len]; omega⟩, cS_sz _⟩, ?_⟩
  conv => whnf
  refine ⟨_, cS_as (x := a) h2 ea, ?_⟩
  conv => whnf
  refine ⟨⟨⟨by omega, by rw [cS_len]; omega⟩, cS_sz _⟩, ?_⟩
  conv => whnf
  refine ⟨_, cS_as (x := b) (by omega) eb, ?_⟩
  conv => whnf
  refine QCall.of_data cm (ndA fun k => rfl) ?_
  conv => whnf
  refine QCall.of_data ca (ndA fun k => rfl) ?_
  conv => whnf
  refine Wr.i64 (y := ((i + 1 : Nat) : Int)) rfl (by omega) (by omega) ?_
  conv => whnf
  exact ⟨i + 1, h2, by show x.length - (i + 1) < x.length - i; omega, ⟨rfl, rfl, rfl, rfl, rfl, trivial⟩, rfl, rfl, trivial⟩
 ·have h2 : i = x.length := by simp only [decide_eq_false_iff_not] at h2; omega
  subst h2
  conv => whnf
  exact ⟨rfl, rfl, rfl, trivial, rfl⟩
theorem fn_sWaiting (w : List Rat) (hws : ∀ q, q ∈ w → sz q ≤ 800000) (hl : w.length ≤ 21) (s : Nat) (h2' : s ≤ 1000) : Fn Tryz.prog 111 [lS w, I s] [] (rS (waitQ w s)) [] := by
 have hsz := wait_sz hws hl (s := s) (by omega)
 have e0 : waitQ w s = psum (tab w.length (waitF w s)) w.length := rsum_tab _ _
 have est : ∀ i, i < w.length → psum (tab w.length (waitF w s)) (i + 1) = psum (tab w.length (waitF w s)) i + (if (s : Int) < (i : Int) then w.getD i 0 * (((i : Int) - s : Int) : Rat) else 0) := fun i hi => psum_tab hi
 have ez : ∀ i, i ≤ w.length → i ≤ s + 1 → psum (tab w.length (waitF w s)) i = 0 := fun i => by
  induction i with
  | zero => intro _ _; rfl
  | succ i ih =>
   intro h1 h2
   rw [est i (by omega), ih (by omega) (by omega), if_neg (by omega), Rat.add_zero]
 rw [e0]
 clear e0
 generalize tab w.length (waitF w s) = L at hsz est ez ⊢
 refine Fn.intro (ks := [0,1,4,5,6,13]) hty rfl rfl rfl rfl rfl ?_
 conv => whnf
 refine VCall.of_data fn_sNone (ndA fun k => rfl) ?_
 conv => whnf
 refine Wr.i64 (y := ((s + 1 : Nat) : Int)) rfl (by omega) (by omega) ?_
 conv => whnf
 refine VLoop.inv hty (S := Nat) (fun i => [(6, I (i : Nat)), (5, .lp 5 0), (4, .lp 4 0), (1, I s), (0, lS w)]) (fun i => [(5, .box true [B (ng (psum L (min i w.length))), nS (tp (psum L (min i w.length))), nS (psum L (min i w.length)).den]), (4, .box true [B false, .d (.s (.slice none 0 0)), .d (.s (.slice none 0 0))])])
  (fun i => s + 1 ≤ i) (fun i => w.length - i) (s + 1) (Nat.le_refl _) ⟨rfl, rfl, rfl, rfl, rfl, trivial⟩ ⟨by rw [ez (min (s + 1) w.length) (Nat.min_le_right _ _) (Nat.min_le_left _ _)]; rfl, rfl, trivial⟩ ?_
 intro i hi
 conv => whnf
 rw [cS_len]
 refine Br.mk (fun h2 => ?_) (fun h2 => ?_)
 ·have h2 : i < w.length := by simp only [decide_eq_true_eq] at h2; omega
  rw [Nat.min_eq_left (by omega)]
  have sp := hsz i (by omega)
  have er := est i h2
  rw [if_pos (by omega)] at er
  have sw := getD_sz hws i (by decide)
  obtain ⟨a, ea⟩ : ∃ a, w.getD i 0 = a := ⟨_, rfl⟩
  obtain ⟨d, ed⟩ : ∃ d, (i : Int) - s = d := ⟨_, rfl⟩
  rw [ea] at er sw
  rw [ed, Rat.mul_comm] at er
  have cw := fn_sInt d (by omega) (by omega)
  have sd : sz (d : Rat) ≤ 20 := sz_small (by omega) (by decide)
  have cm := fn_sTimes d a (by omega)
  have sm := sz_mul d a
  have ca := fn_sSum (psum L i) (d * a) (by omega)
  rw [← er] at ca
  conv => whnf
  refine VDraw.go hmo hty 11 [] rfl ?_
  conv => whnf
  refine Wr.i64 (y := d) ed (by omega) (by omega) ?_
  conv => whnf
  refine QCall.of_data cw (ndA fun k => rfl) ?_
  conv => whnf
  refine ⟨⟨⟨by omega, by rw [cS_len]; omega⟩, cS_sz _⟩, ?_⟩
  conv => whnf
  refine ⟨_, cS_as (x := a) (by omega) ea, ?_⟩
  conv => whnf
  refine QCall.of_data cm (ndA fun k => rfl) ?_
  conv => whnf
  refine QCall.of_data ca (ndA fun k => rfl) ?_
  conv => whnf
  refine Wr.i64 (y := ((i + 1 : Nat) : Int)) rfl (by omega) (by omega) ?_
  conv => whnf
  refine ⟨i + 1, by omega, by show w.length - (i + 1) < w.length - i; omega, ⟨rfl, rfl, rfl, rfl, rfl, trivial⟩, ?_, rfl, trivial⟩
  rw [Nat.min_eq_left (by omega)]; rfl
 ·have h2 : w.length ≤ i := by simp only [decide_eq_false_iff_not] at h2; omega
  rw [Nat.min_eq_right h2]
  conv => whnf
  exact ⟨rfl, rfl, rfl, trivial, rfl⟩
end Go.V
namespace Go.V
open Go.Proofs Go.RowKit
set_option maxRecDepth 10000
set_option maxHeartbeats 1000000
theorem fn_sSrv (s : Int) : Fn Tryz.prog 110 [I s] [] (B (decide (1 ≤ s) && decide (s ≤ 20))) [] := by
 have c := fn_l00In s 1 20
 refine Fn.intro (ks := [0,2]) hty rfl rfl rfl rfl rfl ?_
 conv => whnf
 refine VCall.of_data c (nd _) ?_
 conv => whnf
 exact ⟨rfl, trivial, rfl⟩
theorem fn_sMeanLength (us ds : List (List UInt8)) (hu : us.length ≤ 1000000) (hd : ds.length ≤ 1000000) (su : ∀ x, x ∈ us → x.length ≤ 1000000) (sd : ∀ x, x ∈ ds → x.length ≤ 1000000) :
  Fn Tryz.prog 38 [lnI us ds] [] (.tup [Str (toldO (lnO us ds meanF)).1, B (toldO (lnO us ds meanF)).2]) [] := by
 have cl := fn_sLine us ds hu hd su sd
 refine Fn.intro (ks := [0,1,2,3,4,5,11]) hty rfl rfl rfl rfl rfl ?_
 conv => whnf
 unfold lnO
 cases hq : lineQ us ds with
 | none =>
  rw [hq] at cl
  refine VCall.thaw 1 (cs := [.sl (cT us), .sl (cT ds)]) rfl ?_
  refine VCall.of_data cl (ndT (fun k => rfl)) ?_
  conv => whnf
  exact ⟨rfl, rfl, trivial, rfl⟩
 | some p =>
  obtain ⟨x, y⟩ := p
  replace cl : Fn Tryz.prog 96 [lnP us ds] [] (.tup [lqS x y, B true]) [] := by rw [hq] at cl; exact cl
  have hok := lineQ_ok hq
  have hl20 := hok.n2
  have hwl := shQ_len x y
  have hws := shQ_sz hok
  have cs := fn_sShares x y hok
  have cm := fn_sMoment (shQ x y) 1 800000 hws (by decide) (by omega) (by decide) (by decide)
  have ct := fn_sThrough x y hok
  have z1 := meanF_sz hok
  have z2 := thrQ_sz hok
  have z3 := thr_pos hok
  have z4 := lossF_sz hok
  refine VCall.thaw 1 (cs := [.sl (cT us), .sl (cT ds)]) rfl ?_
  refine VCall.of_data cl (ndT (fun k => rfl)) ?_
  conv => whnf
  refine VCall.thaw 4 (cs := [.sl (cS x), .sl (cS y)]) rfl ?_
  refine VCall.of_data cs (nd _) ?_
  conv => whnf
  refine VCall.of_data cm (ndA fun k => rfl) ?_
  conv => whnf
  refine VCall.of_data (fn_l02Give (meanF x y) (by omega)) (ndT (fun k => rfl)) ?_
  conv => whnf
  exact ⟨rfl, rfl, trivial, rfl⟩
theorem fn_sLineLoss (us ds : List (List UInt8)) (hu : us.length ≤ 1000000) (hd : ds.length ≤ 1000000) (su : ∀ x, x ∈ us → x.length ≤ 1000000) (sd : ∀ x, x ∈ ds → x.length ≤ 1000000) :
  Fn Tryz.prog 40 [lnI us ds] [] (.tup [Str (toldO (lnO us ds lossF)).1, B (toldO (lnO us ds lossF)).2]) [] := by
 have cl := fn_sLine us ds hu hd su sd
 refine Fn.intro (ks := [0,1,2,3,4,5,6,12]) hty rfl rfl rfl rfl rfl ?_
 conv => whnf
 unfold lnO
 cases hq : lineQ us ds with
 | none =>
  rw [hq] at cl
  refine VCall.thaw 1 (cs := [.sl (cT us), .sl (cT ds)]) rfl ?_
  refine VCall.of_data cl (ndT (fun k => rfl)) ?_
  conv => whnf
  exact ⟨rfl, rfl, trivial, rfl⟩
 | some p =>
  obtain ⟨x, y⟩ := p
  replace cl : Fn Tryz.prog 96 [lnP us ds] [] (.tup [lqS x y, B true]) [] := by rw [hq] at cl; exact cl
  have hok := lineQ_ok hq
  have hl20 := hok.n2
  have hwl := shQ_len x y
  have hws := shQ_sz hok
  have cs := fn_sShares x y hok
  have cm := fn_sMoment (shQ x y) 1 800000 hws (by decide) (by omega) (by decide) (by decide)
  have ct := fn_sThrough x y hok
  have z1 := meanF_sz hok
  have z2 := thrQ_sz hok
  have z3 := thr_pos hok
  have z4 := lossF_sz hok
  refine VCall.thaw 1 (cs := [.sl (cT us), .sl (cT ds)]) rfl ?_
  refine VCall.of_data cl (ndT (fun k => rfl)) ?_
  conv => whnf
  refine VCall.thaw 4 (cs := [.sl (cS x), .sl (cS y)]) rfl ?_
  refine VCall.of_data cs (nd _) ?_
  conv => whnf
  rw [cS_len]
  refine Wr.i64 (y := ((x.length : Nat) : Int)) (by omega) (by omega) (by omega) ?_
  conv => whnf
  refine ⟨⟨⟨by omega, by rw [cS_len]; omega⟩, cS_sz _⟩, ?_⟩
  conv => whnf
  refine ⟨_, cS_as (x := lossF x y) (by omega) rfl, ?_⟩
  conv => whnf
  refine VCall.of_data (fn_l02Give (lossF x y) (by omega)) (ndT (fun k => rfl)) ?_
  conv => whnf
  exact ⟨rfl, rfl, trivial, rfl⟩
theorem fn_sThroughOf (us ds : List (List UInt8)) (hu : us.length ≤ 1000000) (hd : ds.length ≤ 1000000) (su : ∀ x, x ∈ us → x.length ≤ 1000000) (sd : ∀ x, x ∈ ds → x.length ≤ 1000000) :
  Fn Tryz.prog 42 [lnI us ds] [] (.tup [Str (toldO (lnO us ds thrQ)).1, B (toldO (lnO us ds thrQ)).2]) [] := by
 have cl := fn_sLine us ds hu hd su sd
 refine Fn.intro (ks := [0,1,2,3,4,5,11]) hty rfl rfl rfl rfl rfl ?_
 conv => whnf
 unfold lnO
 cases hq : lineQ us ds with
 | none =>
  rw [hq] at cl
  refine VCall.thaw 1 (cs := [.sl (cT us), .sl (cT ds)]) rfl ?_
  refine VCall.of_data cl (ndT (fun k => rfl)) ?_
  conv => whnf
  exact ⟨rfl, rfl, trivial, rfl⟩
 | some p =>
  obtain ⟨x, y⟩ := p
  replace cl : Fn Tryz.prog 96 [lnP us ds] [] (.tup [lqS x y, B true]) [] := by rw [hq] at cl; exact cl
  have hok := lineQ_ok hq
  have hl20 := hok.n2
  have hwl := shQ_len x y
  have hws := shQ_sz hok
  have cs := fn_sShares x y hok
  have cm := fn_sMoment (shQ x y) 1 800000 hws (by decide) (by omega) (by decide) (by decide)
  have ct := fn_sThrough x y hok
  have z1 := meanF_sz hok
  have z2 := thrQ_sz hok
  have z3 := thr_pos hok
  have z4 := lossF_sz hok
  refine VCall.thaw 1 (cs := [.sl (cT us), .sl (cT ds)]) rfl ?_
  refine VCall.of_data cl (ndT (fun k => rfl)) ?_
  conv => whnf
  refine VCall.thaw 4 (cs := [.sl (cS x), .sl (cS y)]) rfl ?_
  refine VCall.of_data cs (nd _) ?_
  conv => whnf
  refine VCall.of_data ct (ndA fun k => rfl) ?_
  conv => whnf
  refine VCall.of_data (fn_l02Give (thrQ x y) (by omega)) (ndT (fun k => rfl)) ?_
  conv => whnf
  exact ⟨rfl, rfl, trivial, rfl⟩
theorem fn_sTimeIn (us ds : List (List UInt8)) (hu : us.length ≤ 1000000) (hd : ds.length ≤ 1000000) (su : ∀ x, x ∈ us → x.length ≤ 1000000) (sd : ∀ x, x ∈ ds → x.length ≤ 1000000) :
  Fn Tryz.prog 46 [lnI us ds] [] (.tup [Str (toldO (lnO us ds timeF)).1, B (toldO (lnO us ds timeF)).2]) [] := by
 have cl := fn_sLine us ds hu hd su sd
 refine Fn.intro (ks := [0,1,2,3,4,5,6,12]) hty rfl rfl rfl rfl rfl ?_
 conv => whnf
 unfold lnO
 cases hq : lineQ us ds with
 | none =>
  rw [hq] at cl
  refine VCall.thaw 1 (cs := [.sl (cT us), .sl (cT ds)]) rfl ?_
  refine VCall.of_data cl (ndT (fun k => rfl)) ?_
  conv => whnf
  exact ⟨rfl, rfl, trivial, rfl⟩
 | some p =>
  obtain ⟨x, y⟩ := p
  replace cl : Fn Tryz.prog 96 [lnP us ds] [] (.tup [lqS x y, B true]) [] := by rw [hq] at cl; exact cl
  have hok := lineQ_ok hq
  have hl20 := hok.n2
  have hwl := shQ_len x y
  have hws := shQ_sz hok
  have cs := fn_sShares x y hok
  have cm := fn_sMoment (shQ x y) 1 800000 hws (by decide) (by omega) (by decide) (by decide)
  have ct := fn_sThrough x y hok
  have z1 := meanF_sz hok
  have z2 := thrQ_sz hok
  have z3 := thr_pos hok
  have z4 := lossF_sz hok
  refine VCall.thaw 1 (cs := [.sl (cT us), .sl (cT ds)]) rfl ?_
  refine VCall.of_data cl (ndT (fun k => rfl)) ?_
  conv => whnf
  refine VCall.thaw 4 (cs := [.sl (cS x), .sl (cS y)]) rfl ?_
  refine VCall.of_data cs (nd _) ?_
  conv => whnf
  refine VCall.of_data cm (ndA fun k => rfl) ?_
  conv => whnf
  refine VCall.of_data ct (ndA fun k => rfl) ?_
  conv => whnf
  refine VCall.of_data (fn_sOver (meanF x y) (thrQ x y) (by omega) (by grind)) (ndA fun k => rfl) ?_
  conv => whnf
  refine VCall.of_data (fn_l02Give (timeF x y) (by have := sz_div (meanF x y) (b := thrQ x y) (by grind); unfold timeF; omega)) (ndT (fun k => rfl)) ?_
  conv => whnf
  exact ⟨rfl, rfl, trivial, rfl⟩
theorem fn_sWaitingOf (us ds : List (List UInt8)) (s : Int) (hu : us.length ≤ 1000000) (hd : ds.length ≤ 1000000) (su : ∀ x, x ∈ us → x.length ≤ 1000000) (sd : ∀ x, x ∈ ds → x.length ≤ 1000000) :
  Fn Tryz.prog 44 [lnI us ds, I s] [] (.tup [Str (toldO (lnS us ds s (waitL s))).1, B (toldO (lnS us ds s (waitL s))).2]) [] := by
 have cl := fn_sLine us ds hu hd su sd
 have ci := fn_sSrv s
 refine Fn.intro (ks := [0,1,2,4,5,6,7,18]) hty rfl rfl rfl rfl rfl ?_
 conv => whnf
 unfold lnS lnO
 cases hq : lineQ us ds with
 | none =>
  rw [hq] at cl
  rw [show (if (decide (1 ≤ s) && decide (s ≤ 20)) = true then Option.map (fun p : List Rat × List Rat => waitL s p.1 p.2) none else none) = none by split <;> rfl]
  refine VCall.thaw 2 (cs := [.sl (cT us), .sl (cT ds)]) rfl ?_
  refine VCall.of_data cl (ndT (fun k => rfl)) ?_
  conv => whnf
  exact ⟨rfl, rfl, trivial, rfl⟩
 | some p =>
  obtain ⟨x, y⟩ := p
  replace cl : Fn Tryz.prog 96 [lnP us ds] [] (.tup [lqS x y, B true]) [] := by rw [hq] at cl; exact cl
  have hok := lineQ_ok hq
  have hl20 := hok.n2
  have hwl := shQ_len x y
  have hws := shQ_sz hok
  have cs := fn_sShares x y hok
  have ct := fn_sThrough x y hok
  have z2 := thrQ_sz hok
  have z3 := thr_pos hok
  refine VCall.thaw 2 (cs := [.sl (cT us), .sl (cT ds)]) rfl ?_
  refine VCall.of_data cl (ndT (fun k => rfl)) ?_
  conv => whnf
  refine VCall.of_data ci (nd _) ?_
  cases hb : (decide (1 ≤ s) && decide (s ≤ 20))
  ·conv => whnf
   exact ⟨rfl, rfl, trivial, rfl⟩
  ·simp only [Bool.and_eq_true, decide_eq_true_eq] at hb
   rw [if_pos rfl]
   have z1 := waitL_sz hok (s := s) (by omega)
   obtain ⟨n, rfl⟩ : ∃ n : Nat, s = n := ⟨s.toNat, by omega⟩
   have cw := fn_sWaiting (shQ x y) hws (by omega) n (by omega)
   conv => whnf
   refine VCall.thaw 6 (cs := [.sl (cS x), .sl (cS y)]) rfl ?_
   refine VCall.of_data cs (nd _) ?_
   conv => whnf
   refine VCall.of_data cw (ndA fun k => rfl) ?_
   conv => whnf
   refine VCall.of_data (fn_l02Give (waitL n x y) (by omega)) (ndT (fun k => rfl)) ?_
   conv => whnf
   exact ⟨rfl, rfl, trivial, rfl⟩
theorem fn_sTimeWaiting (us ds : List (List UInt8)) (s : Int) (hu : us.length ≤ 1000000) (hd : ds.length ≤ 1000000) (su : ∀ x, x ∈ us → x.length ≤ 1000000) (sd : ∀ x, x ∈ ds → x.length ≤ 1000000) :
  Fn Tryz.prog 48 [lnI us ds, I s] [] (.tup [Str (toldO (lnS us ds s (timeW s))).1, B (toldO (lnS us ds s (timeW s))).2]) [] := by
 have cl := fn_sLine us ds hu hd su sd
 have ci := fn_sSrv s
 refine Fn.intro (ks := [0,1,2,4,5,6,7,8,19]) hty rfl rfl rfl rfl rfl ?_
 conv => whnf
 unfold lnS lnO
 cases hq : lineQ us ds with
 | none =>
  rw [hq] at cl
  rw [show (if (decide (1 ≤ s) && decide (s ≤ 20)) = true then Option.map (fun p : List Rat × List Rat => timeW s p.1 p.2) none else none) = none by split <;> rfl]
  refine VCall.thaw 2 (cs := [.sl (cT us), .sl (cT ds)]) rfl ?_
  refine VCall.of_data cl (ndT (fun k => rfl)) ?_
  conv => whnf
  exact ⟨rfl, rfl, trivial, rfl⟩
 | some p =>
  obtain ⟨x, y⟩ := p
  replace cl : Fn Tryz.prog 96 [lnP us ds] [] (.tup [lqS x y, B true]) [] := by rw [hq] at cl; exact cl
  have hok := lineQ_ok hq
  have hl20 := hok.n2
  have hwl := shQ_len x y
  have hws := shQ_sz hok
  have cs := fn_sShares x y hok
  have ct := fn_sThrough x y hok
  have z2 := thrQ_sz hok
  have z3 := thr_pos hok
  refine VCall.thaw 2 (cs := [.sl (cT us), .sl (cT ds)]) rfl ?_
  refine VCall.of_data cl (ndT (fun k => rfl)) ?_
  conv => whnf
  refine VCall.of_data ci (nd _) ?_
  cases hb : (decide (1 ≤ s) && decide (s ≤ 20))
  ·conv => whnf
   exact ⟨rfl, rfl, trivial, rfl⟩
  ·simp only [Bool.and_eq_true, decide_eq_true_eq] at hb
   rw [if_pos rfl]
   have z1 := waitL_sz hok (s := s) (by omega)
   obtain ⟨n, rfl⟩ : ∃ n : Nat, s = n := ⟨s.toNat, by omega⟩
   have cw := fn_sWaiting (shQ x y) hws (by omega) n (by omega)
   conv => whnf
   refine VCall.thaw 6 (cs := [.sl (cS x), .sl (cS y)]) rfl ?_
   refine VCall.of_data cs (nd _) ?_
   conv => whnf
   refine VCall.of_data cw (ndA fun k => rfl) ?_
   conv => whnf
   refine VCall.of_data ct (ndA fun k => rfl) ?_
   conv => whnf
   refine VCall.of_data (fn_sOver (waitL n x y) (thrQ x y) (by omega) (by grind)) (ndA fun k => rfl) ?_
   conv => whnf
   refine VCall.of_data (fn_l02Give (timeW n x y) (by have := sz_div (waitL n x y) (b := thrQ x y) (by grind); unfold timeW; omega)) (ndT (fun k => rfl)) ?_
   conv => whnf
   exact ⟨rfl, rfl, trivial, rfl⟩
theorem fn_sGiveAll2 (qs : List Rat) (hl : qs.length ≤ 1000000) (hs : ∀ q, q ∈ qs → sz q ≤ 100000000000) : Fn Tryz.prog 97 [lS qs] [] (ansT (toldTs qs)).1 (ansT (toldTs qs)).2 := by
 have ct := fn_sGiveAll qs hl hs
 refine Fn.intro (ks := [0,2,3,4,5,12]) hty rfl rfl rfl rfl rfl ?_
 conv => whnf
 generalize toldTs qs = r at ct ⊢
 cases r with
 | none =>
  refine VCall.of_data (x := .tup [.d (.sl []), B false]) ct (ndT (fun k => rfl)) ?_
  conv => whnf
  first | exact ⟨rfl, trivial, rfl⟩ | exact ⟨rfl, rfl, trivial, rfl⟩
 | some ts =>
  refine VCall.of_fnT (k := 8) (show Fn Tryz.prog 167 [lS qs] [] (.tup [.ls 0 0 ts.length 1, B true]) [(0, .row true 1 (cT ts))] from ct) rfl rfl ?_
  conv => whnf
  exact ⟨⟨rfl, rfl, rfl, rfl, rfl, rfl⟩, [], rfl, rfl, trivial, rfl⟩
theorem fn_sSharesOf (us ds : List (List UInt8)) (hu : us.length ≤ 1000000) (hd : ds.length ≤ 1000000) (su : ∀ x, x ∈ us → x.length ≤ 1000000) (sd : ∀ x, x ∈ ds → x.length ≤ 1000000) :
  Fn Tryz.prog 31 [lnI us ds] [] (ansT (sharesO us ds)).1 (ansT (sharesO us ds)).2 := by
 have cl := fn_sLine us ds hu hd su sd
 refine Fn.intro (ks := [0,1,2,3,4,5,11]) hty rfl rfl rfl rfl rfl ?_
 conv => whnf
 unfold sharesO
 cases hq : lineQ us ds with
 | none =>
  rw [hq] at cl
  refine VCall.thaw 1 (cs := [.sl (cT us), .sl (cT ds)]) rfl ?_
  refine VCall.of_data cl (ndT (fun k => rfl)) ?_
  conv => whnf
  first | exact ⟨rfl, trivial, rfl⟩ | exact ⟨rfl, rfl, trivial, rfl⟩
 | some p =>
  obtain ⟨x, y⟩ := p
  replace cl : Fn Tryz.prog 96 [lnP us ds] [] (.tup [lqS x y, B true]) [] := by rw [hq] at cl; exact cl
  have hok := lineQ_ok hq
  have cs := fn_sShares x y hok
  have ct := fn_sGiveAll2 (shQ x y) (by rw [shQ_len]; have := hok.n2; omega) (fun q hq => by have := shQ_sz hok q hq; omega)
  refine VCall.thaw 1 (cs := [.sl (cT us), .sl (cT ds)]) rfl ?_
  refine VCall.of_data cl (ndT (fun k => rfl)) ?_
  conv => whnf
  refine VCall.thaw 4 (cs := [.sl (cS x), .sl (cS y)]) rfl ?_
  refine VCall.of_data cs (nd _) ?_
  conv => whnf
  rw [show ((some (x, y)).bind fun p : List Rat × List Rat => toldTs (shQ p.1 p.2)) = toldTs (shQ x y) from rfl]
  generalize toldTs (shQ x y) = r at ct ⊢
  cases r with
  | none =>
   refine VCall.of_data (x := .tup [.d (.sl []), B false]) ct (ndT (fun k => rfl)) ?_
   conv => whnf
   first | exact ⟨rfl, trivial, rfl⟩ | exact ⟨rfl, rfl, trivial, rfl⟩
  | some ts =>
   refine VCall.of_fnT (k := 13) (show Fn Tryz.prog 97 [lS (shQ x y)] [] (.tup [.ls 0 0 ts.length 1, B true]) [(0, .row true 1 (cT ts))] from ct) rfl rfl ?_
   conv => whnf
   exact ⟨⟨rfl, rfl, rfl, rfl, rfl, rfl⟩, [], rfl, rfl, trivial, rfl⟩
end Go.V
namespace Go.V
open Go.Proofs Go.RowKit
set_option maxRecDepth 10000
set_option maxHeartbeats 1000000
theorem namesLn {us ds : List (List UInt8)} {n m : Nat} : namesIn [(0, .row true 1 (cT us)), (1, .row true 1 (cT ds))] (.ag [.ls 0 0 n 1, .ls 1 0 m 1]) := fun j hj => by
 have h : j = 0 ∨ j = 1 := by
  simp only [AV.ment, AV.ments, Bool.or_false, Bool.or_eq_true] at hj
  exact hj.imp (fun h => (Nat.eq_of_beq_eq_true h).symm) (fun h => (Nat.eq_of_beq_eq_true h).symm)
 rcases h with rfl | rfl <;> exact fun e => by cases e
theorem law_meanLength (us ds : List (List UInt8))  (hu0 : us.length < 2 ^ 47) (hd0 : ds.length < 2 ^ 47) (su0 : ∀ x, x ∈ us → x.length < 2 ^ 47) (sd0 : ∀ x, x ∈ ds → x.length < 2 ^ 47) : Fn Tryz.prog 7 [lnI us ds] [] (B true) [] := by
 have c0 := fn_szLine us ds (by omega) (by omega) (fun x hx => by have := su0 x hx; omega) (fun x hx => by have := sd0 x hx; omega)
 refine Fn.intro (ks := [0,1,2,3,4,5,6,7,8,9,10,15,36,41,55]) hty rfl rfl rfl rfl rfl ?_
 conv => whnf
 refine VCall.of_data c0 (nd _) ?_
 obtain ⟨m, em⟩ : ∃ m, szLn 1000000 us ds = m := ⟨_, rfl⟩
 rw [em]
 conv => whnf
 refine Br.mk (fun h => ?_) (fun h => ?_)
 ·conv => whnf
  exact ⟨rfl, trivial, rfl⟩
 ·have h : 0 ≤ m := by simpa using h
  obtain ⟨hu, hd, su, sd⟩ := szLn_fits (em ▸ h)
  have cs := fn_sMeanLength us ds  hu hd su sd
  have ci := fn_MeanLength us ds  hu hd su sd
  generalize toldO (lnO us ds meanF) = r at cs ci
  obtain ⟨r1, r2⟩ := r
  replace cs : Fn Tryz.prog 38 [lnI us ds] [] (.tup [Str r1, B r2]) [] := cs
  replace ci : Fn Tryz.prog 39 [lnI us ds] [] (.tup [Str r1, B r2]) [] := ci
  conv => whnf
  refine VCall.of_data (fn_toLined us ds false hu hd) (ndA fun k => rfl) ?_
  conv => whnf
  refine VCall.of_data cs (ndT fun _ => rfl) ?_
  conv => whnf
  refine VCall.of_fn (k := 23) (fn_toLine us ds hu hd) namesLn rfl ?_
  conv => whnf
  refine VCall.lend ci ⟨⟨lend_wholeT rfl, lend_wholeT rfl, trivial⟩, trivial⟩ rfl ?_
  conv => whnf
  rw [show ((⟨r1.toArray⟩ : ByteArray).toList == (⟨r1.toArray⟩ : ByteArray).toList) = true by simp]
  conv => whnf
  rw [show (r2 == r2) = true by simp]
  conv => whnf
  refine VDraw.canon [(41, B false), (5, B r2), (4, Str r1), (1, .lp 1 0)] [(1, .box true [lT us, lT ds])] ?_ ?_
  ·refine VDraw.go hmo hty 0 [] rfl ?_
   conv => whnf
   refine ⟨?_, ?_⟩
   ·
    conv => whnf
    refine VCall.of_fn (k := 39) (fn_toLine us ds hu hd) namesLn rfl ?_
    conv => whnf
    refine VCall.parN [(1000000, 23), (1000001, 1023), (1000002, 39), (1000003, 1039)] (fn_intactLine us ds hu hd) ⟨⟨⟨rfl, rfl, rfl, rfl⟩, ⟨rfl, rfl, rfl, rfl⟩, trivial⟩, ⟨⟨rfl, rfl, rfl, rfl⟩, ⟨rfl, rfl, rfl, rfl⟩, trivial⟩, trivial⟩ ⟨⟨rfl, rfl⟩, ⟨rfl, rfl⟩, ⟨rfl, rfl⟩, ⟨rfl, rfl⟩, trivial⟩ rfl rfl rfl rfl ?_
    conv => whnf
    exact ⟨⟨rfl, rfl, rfl, rfl, trivial⟩, rfl, trivial⟩
   ·conv => whnf
    refine ⟨?_, ?_⟩
    ·
     conv => whnf
     refine VCall.of_fn (k := 39) (fn_toLine us ds hu hd) namesLn rfl ?_
     conv => whnf
     refine VCall.parN [(1000000, 23), (1000001, 1023), (1000002, 39), (1000003, 1039)] (fn_intactLine us ds hu hd) ⟨⟨⟨rfl, rfl, rfl, rfl⟩, ⟨rfl, rfl, rfl, rfl⟩, trivial⟩, ⟨⟨rfl, rfl, rfl, rfl⟩, ⟨rfl, rfl, rfl, rfl⟩, trivial⟩, trivial⟩ ⟨⟨rfl, rfl⟩, ⟨rfl, rfl⟩, ⟨rfl, rfl⟩, ⟨rfl, rfl⟩, trivial⟩ rfl rfl rfl rfl ?_
     conv => whnf
     exact ⟨⟨rfl, rfl, rfl, rfl, trivial⟩, rfl, trivial⟩
    ·
     conv => whnf
     refine VCall.of_fn (k := 39) (fn_toLine us ds hu hd) namesLn rfl ?_
     conv => whnf
     refine VCall.parN [(1000000, 23), (1000001, 1023), (1000002, 39), (1000003, 1039)] (fn_intactLine us ds hu hd) ⟨⟨⟨rfl, rfl, rfl, rfl⟩, ⟨rfl, rfl, rfl, rfl⟩, trivial⟩, ⟨⟨rfl, rfl, rfl, rfl⟩, ⟨rfl, rfl, rfl, rfl⟩, trivial⟩, trivial⟩ ⟨⟨rfl, rfl⟩, ⟨rfl, rfl⟩, ⟨rfl, rfl⟩, ⟨rfl, rfl⟩, trivial⟩ rfl rfl rfl rfl ?_
     conv => whnf
     exact ⟨⟨rfl, rfl, rfl, rfl, trivial⟩, rfl, trivial⟩
  conv => whnf
  refine VCall.of_data (fn_toLined us ds true hu hd) (ndA fun k => rfl) ?_
  conv => whnf
  refine VCall.of_data ci (ndT fun _ => rfl) ?_
  conv => whnf
  rw [show ((⟨r1.toArray⟩ : ByteArray).toList == (⟨r1.toArray⟩ : ByteArray).toList) = true by simp]
  conv => whnf
  rw [show (r2 == r2) = true by simp]
  conv => whnf
  exact ⟨rfl, trivial, rfl⟩
theorem law_lineLoss (us ds : List (List UInt8))  (hu0 : us.length < 2 ^ 47) (hd0 : ds.length < 2 ^ 47) (su0 : ∀ x, x ∈ us → x.length < 2 ^ 47) (sd0 : ∀ x, x ∈ ds → x.length < 2 ^ 47) : Fn Tryz.prog 8 [lnI us ds] [] (B true) [] := by
 have c0 := fn_szLine us ds (by omega) (by omega) (fun x hx => by have := su0 x hx; omega) (fun x hx => by have := sd0 x hx; omega)
 refine Fn.intro (ks := [0,1,2,3,4,5,6,7,8,9,10,15,36,41,55]) hty rfl rfl rfl rfl rfl ?_
 conv => whnf
 refine VCall.of_data c0 (nd _) ?_
 obtain ⟨m, em⟩ : ∃ m, szLn 1000000 us ds = m := ⟨_, rfl⟩
 rw [em]
 conv => whnf
 refine Br.mk (fun h => ?_) (fun h => ?_)
 ·conv => whnf
  exact ⟨rfl, trivial, rfl⟩
 ·have h : 0 ≤ m := by simpa using h
  obtain ⟨hu, hd, su, sd⟩ := szLn_fits (em ▸ h)
  have cs := fn_sLineLoss us ds  hu hd su sd
  have ci := fn_LineLoss us ds  hu hd su sd
  generalize toldO (lnO us ds lossF) = r at cs ci
  obtain ⟨r1, r2⟩ := r
  replace cs : Fn Tryz.prog 40 [lnI us ds] [] (.tup [Str r1, B r2]) [] := cs
  replace ci : Fn Tryz.prog 41 [lnI us ds] [] (.tup [Str r1, B r2]) [] := ci
  conv => whnf
  refine VCall.of_data (fn_toLined us ds false hu hd) (ndA fun k => rfl) ?_
  conv => whnf
  refine VCall.of_data cs (ndT fun _ => rfl) ?_
  conv => whnf
  refine VCall.of_fn (k := 23) (fn_toLine us ds hu hd) namesLn rfl ?_
  conv => whnf
  refine VCall.lend ci ⟨⟨lend_wholeT rfl, lend_wholeT rfl, trivial⟩, trivial⟩ rfl ?_
  conv => whnf
  rw [show ((⟨r1.toArray⟩ : ByteArray).toList == (⟨r1.toArray⟩ : ByteArray).toList) = true by simp]
  conv => whnf
  rw [show (r2 == r2) = true by simp]
  conv => whnf
  refine VDraw.canon [(41, B false), (5, B r2), (4, Str r1), (1, .lp 1 0)] [(1, .box true [lT us, lT ds])] ?_ ?_
  ·refine VDraw.go hmo hty 0 [] rfl ?_
   conv => whnf
   refine ⟨?_, ?_⟩
   ·
    conv => whnf
    refine VCall.of_fn (k := 39) (fn_toLine us ds hu hd) namesLn rfl ?_
    conv => whnf
    refine VCall.parN [(1000000, 23), (1000001, 1023), (1000002, 39), (1000003, 1039)] (fn_intactLine us ds hu hd) ⟨⟨⟨rfl, rfl, rfl, rfl⟩, ⟨rfl, rfl, rfl, rfl⟩, trivial⟩, ⟨⟨rfl, rfl, rfl, rfl⟩, ⟨rfl, rfl, rfl, rfl⟩, trivial⟩, trivial⟩ ⟨⟨rfl, rfl⟩, ⟨rfl, rfl⟩, ⟨rfl, rfl⟩, ⟨rfl, rfl⟩, trivial⟩ rfl rfl rfl rfl ?_
    conv => whnf
    exact ⟨⟨rfl, rfl, rfl, rfl, trivial⟩, rfl, trivial⟩
   ·conv => whnf
    refine ⟨?_, ?_⟩
    ·
     conv => whnf
     refine VCall.of_fn (k := 39) (fn_toLine us ds hu hd) namesLn rfl ?_
     conv => whnf
     refine VCall.parN [(1000000, 23), (1000001, 1023), (1000002, 39), (1000003, 1039)] (fn_intactLine us ds hu hd) ⟨⟨⟨rfl, rfl, rfl, rfl⟩, ⟨rfl, rfl, rfl, rfl⟩, trivial⟩, ⟨⟨rfl, rfl, rfl, rfl⟩, ⟨rfl, rfl, rfl, rfl⟩, trivial⟩, trivial⟩ ⟨⟨rfl, rfl⟩, ⟨rfl, rfl⟩, ⟨rfl, rfl⟩, ⟨rfl, rfl⟩, trivial⟩ rfl rfl rfl rfl ?_
     conv => whnf
     exact ⟨⟨rfl, rfl, rfl, rfl, trivial⟩, rfl, trivial⟩
    ·
     conv => whnf
     refine VCall.of_fn (k := 39) (fn_toLine us ds hu hd) namesLn rfl ?_
     conv => whnf
     refine VCall.parN [(1000000, 23), (1000001, 1023), (1000002, 39), (1000003, 1039)] (fn_intactLine us ds hu hd) ⟨⟨⟨rfl, rfl, rfl, rfl⟩, ⟨rfl, rfl, rfl, rfl⟩, trivial⟩, ⟨⟨rfl, rfl, rfl, rfl⟩, ⟨rfl, rfl, rfl, rfl⟩, trivial⟩, trivial⟩ ⟨⟨rfl, rfl⟩, ⟨rfl, rfl⟩, ⟨rfl, rfl⟩, ⟨rfl, rfl⟩, trivial⟩ rfl rfl rfl rfl ?_
     conv => whnf
     exact ⟨⟨rfl, rfl, rfl, rfl, trivial⟩, rfl, trivial⟩
  conv => whnf
  refine VCall.of_data (fn_toLined us ds true hu hd) (ndA fun k => rfl) ?_
  conv => whnf
  refine VCall.of_data ci (ndT fun _ => rfl) ?_
  conv => whnf
  rw [show ((⟨r1.toArray⟩ : ByteArray).toList == (⟨r1.toArray⟩ : ByteArray).toList) = true by simp]
  conv => whnf
  rw [show (r2 == r2) = true by simp]
  conv => whnf
  exact ⟨rfl, trivial, rfl⟩
theorem law_throughOf (us ds : List (List UInt8))  (hu0 : us.length < 2 ^ 47) (hd0 : ds.length < 2 ^ 47) (su0 : ∀ x, x ∈ us → x.length < 2 ^ 47) (sd0 : ∀ x, x ∈ ds → x.length < 2 ^ 47) : Fn Tryz.prog 9 [lnI us ds] [] (B true) [] := by
 have c0 := fn_szLine us ds (by omega) (by omega) (fun x hx => by have := su0 x hx; omega) (fun x hx => by have := sd0 x hx; omega)
 refine Fn.intro (ks := [0,1,2,3,4,5,6,7,8,9,10,15,36,41,55]) hty rfl rfl rfl rfl rfl ?_
 conv => whnf
 refine VCall.of_data c0 (nd _) ?_
 obtain ⟨m, em⟩ : ∃ m, szLn 1000000 us ds = m := ⟨_, rfl⟩
 rw [em]
 conv => whnf
 refine Br.mk (fun h => ?_) (fun h => ?_)
 ·conv => whnf
  exact ⟨rfl, trivial, rfl⟩
 ·have h : 0 ≤ m := by simpa using h
  obtain ⟨hu, hd, su, sd⟩ := szLn_fits (em ▸ h)
  have cs := fn_sThroughOf us ds  hu hd su sd
  have ci := fn_ThroughOf us ds  hu hd su sd
  generalize toldO (lnO us ds thrQ) = r at cs ci
  obtain ⟨r1, r2⟩ := r
  replace cs : Fn Tryz.prog 42 [lnI us ds] [] (.tup [Str r1, B r2]) [] := cs
  replace ci : Fn Tryz.prog 43 [lnI us ds] [] (.tup [Str r1, B r2]) [] := ci
  conv => whnf
  refine VCall.of_data (fn_toLined us ds false hu hd) (ndA fun k => rfl) ?_
  conv => whnf
  refine VCall.of_data cs (ndT fun _ => rfl) ?_
  conv => whnf
  refine VCall.of_fn (k := 23) (fn_toLine us ds hu hd) namesLn rfl ?_
  conv => whnf
  refine VCall.lend ci ⟨⟨lend_wholeT rfl, lend_wholeT rfl, trivial⟩, trivial⟩ rfl ?_
  conv => whnf
  rw [show ((⟨r1.toArray⟩ : ByteArray).toList == (⟨r1.toArray⟩ : ByteArray).toList) = true by simp]
  conv => whnf
  rw [show (r2 == r2) = true by simp]
  conv => whnf
  refine VDraw.canon [(41, B false), (5, B r2), (4, Str r1), (1, .lp 1 0)] [(1, .box true [lT us, lT ds])] ?_ ?_
  ·refine VDraw.go hmo hty 0 [] rfl ?_
   conv => whnf
   refine ⟨?_, ?_⟩
   ·
    conv => whnf
    refine VCall.of_fn (k := 39) (fn_toLine us ds hu hd) namesLn rfl ?_
    conv => whnf
    refine VCall.parN [(1000000, 23), (1000001, 1023), (1000002, 39), (1000003, 1039)] (fn_intactLine us ds hu hd) ⟨⟨⟨rfl, rfl, rfl, rfl⟩, ⟨rfl, rfl, rfl, rfl⟩, trivial⟩, ⟨⟨rfl, rfl, rfl, rfl⟩, ⟨rfl, rfl, rfl, rfl⟩, trivial⟩, trivial⟩ ⟨⟨rfl, rfl⟩, ⟨rfl, rfl⟩, ⟨rfl, rfl⟩, ⟨rfl, rfl⟩, trivial⟩ rfl rfl rfl rfl ?_
    conv => whnf
    exact ⟨⟨rfl, rfl, rfl, rfl, trivial⟩, rfl, trivial⟩
   ·conv => whnf
    refine ⟨?_, ?_⟩
    ·
     conv => whnf
     refine VCall.of_fn (k := 39) (fn_toLine us ds hu hd) namesLn rfl ?_
     conv => whnf
     refine VCall.parN [(1000000, 23), (1000001, 1023), (1000002, 39), (1000003, 1039)] (fn_intactLine us ds hu hd) ⟨⟨⟨rfl, rfl, rfl, rfl⟩, ⟨rfl, rfl, rfl, rfl⟩, trivial⟩, ⟨⟨rfl, rfl, rfl, rfl⟩, ⟨rfl, rfl, rfl, rfl⟩, trivial⟩, trivial⟩ ⟨⟨rfl, rfl⟩, ⟨rfl, rfl⟩, ⟨rfl, rfl⟩, ⟨rfl, rfl⟩, trivial⟩ rfl rfl rfl rfl ?_
     conv => whnf
     exact ⟨⟨rfl, rfl, rfl, rfl, trivial⟩, rfl, trivial⟩
    ·
     conv => whnf
     refine VCall.of_fn (k := 39) (fn_toLine us ds hu hd) namesLn rfl ?_
     conv => whnf
     refine VCall.parN [(1000000, 23), (1000001, 1023), (1000002, 39), (1000003, 1039)] (fn_intactLine us ds hu hd) ⟨⟨⟨rfl, rfl, rfl, rfl⟩, ⟨rfl, rfl, rfl, rfl⟩, trivial⟩, ⟨⟨rfl, rfl, rfl, rfl⟩, ⟨rfl, rfl, rfl, rfl⟩, trivial⟩, trivial⟩ ⟨⟨rfl, rfl⟩, ⟨rfl, rfl⟩, ⟨rfl, rfl⟩, ⟨rfl, rfl⟩, trivial⟩ rfl rfl rfl rfl ?_
     conv => whnf
     exact ⟨⟨rfl, rfl, rfl, rfl, trivial⟩, rfl, trivial⟩
  conv => whnf
  refine VCall.of_data (fn_toLined us ds true hu hd) (ndA fun k => rfl) ?_
  conv => whnf
  refine VCall.of_data ci (ndT fun _ => rfl) ?_
  conv => whnf
  rw [show ((⟨r1.toArray⟩ : ByteArray).toList == (⟨r1.toArray⟩ : ByteArray).toList) = true by simp]
  conv => whnf
  rw [show (r2 == r2) = true by simp]
  conv => whnf
  exact ⟨rfl, trivial, rfl⟩
theorem law_timeIn (us ds : List (List UInt8))  (hu0 : us.length < 2 ^ 47) (hd0 : ds.length < 2 ^ 47) (su0 : ∀ x, x ∈ us → x.length < 2 ^ 47) (sd0 : ∀ x, x ∈ ds → x.length < 2 ^ 47) : Fn Tryz.prog 11 [lnI us ds] [] (B true) [] := by
 have c0 := fn_szLine us ds (by omega) (by omega) (fun x hx => by have := su0 x hx; omega) (fun x hx => by have := sd0 x hx; omega)
 refine Fn.intro (ks := [0,1,2,3,4,5,6,7,8,9,10,15,36,41,55]) hty rfl rfl rfl rfl rfl ?_
 conv => whnf
 refine VCall.of_data c0 (nd _) ?_
 obtain ⟨m, em⟩ : ∃ m, szLn 1000000 us ds = m := ⟨_, rfl⟩
 rw [em]
 conv => whnf
 refine Br.mk (fun h => ?_) (fun h => ?_)
 ·conv => whnf
  exact ⟨rfl, trivial, rfl⟩
 ·have h : 0 ≤ m := by simpa using h
  obtain ⟨hu, hd, su, sd⟩ := szLn_fits (em ▸ h)
  have cs := fn_sTimeIn us ds  hu hd su sd
  have ci := fn_TimeIn us ds  hu hd su sd
  generalize toldO (lnO us ds timeF) = r at cs ci
  obtain ⟨r1, r2⟩ := r
  replace cs : Fn Tryz.prog 46 [lnI us ds] [] (.tup [Str r1, B r2]) [] := cs
  replace ci : Fn Tryz.prog 47 [lnI us ds] [] (.tup [Str r1, B r2]) [] := ci
  conv => whnf
  refine VCall.of_data (fn_toLined us ds false hu hd) (ndA fun k => rfl) ?_
  conv => whnf
  refine VCall.of_data cs (ndT fun _ => rfl) ?_
  conv => whnf
  refine VCall.of_fn (k := 23) (fn_toLine us ds hu hd) namesLn rfl ?_
  conv => whnf
  refine VCall.lend ci ⟨⟨lend_wholeT rfl, lend_wholeT rfl, trivial⟩, trivial⟩ rfl ?_
  conv => whnf
  rw [show ((⟨r1.toArray⟩ : ByteArray).toList == (⟨r1.toArray⟩ : ByteArray).toList) = true by simp]
  conv => whnf
  rw [show (r2 == r2) = true by simp]
  conv => whnf
  refine VDraw.canon [(41, B false), (5, B r2), (4, Str r1), (1, .lp 1 0)] [(1, .box true [lT us, lT ds])] ?_ ?_
  ·refine VDraw.go hmo hty 0 [] rfl ?_
   conv => whnf
   refine ⟨?_, ?_⟩
   ·
    conv => whnf
    refine VCall.of_fn (k := 39) (fn_toLine us ds hu hd) namesLn rfl ?_
    conv => whnf
    refine VCall.parN [(1000000, 23), (1000001, 1023), (1000002, 39), (1000003, 1039)] (fn_intactLine us ds hu hd) ⟨⟨⟨rfl, rfl, rfl, rfl⟩, ⟨rfl, rfl, rfl, rfl⟩, trivial⟩, ⟨⟨rfl, rfl, rfl, rfl⟩, ⟨rfl, rfl, rfl, rfl⟩, trivial⟩, trivial⟩ ⟨⟨rfl, rfl⟩, ⟨rfl, rfl⟩, ⟨rfl, rfl⟩, ⟨rfl, rfl⟩, trivial⟩ rfl rfl rfl rfl ?_
    conv => whnf
    exact ⟨⟨rfl, rfl, rfl, rfl, trivial⟩, rfl, trivial⟩
   ·conv => whnf
    refine ⟨?_, ?_⟩
    ·
     conv => whnf
     refine VCall.of_fn (k := 39) (fn_toLine us ds hu hd) namesLn rfl ?_
     conv => whnf
     refine VCall.parN [(1000000, 23), (1000001, 1023), (1000002, 39), (1000003, 1039)] (fn_intactLine us ds hu hd) ⟨⟨⟨rfl, rfl, rfl, rfl⟩, ⟨rfl, rfl, rfl, rfl⟩, trivial⟩, ⟨⟨rfl, rfl, rfl, rfl⟩, ⟨rfl, rfl, rfl, rfl⟩, trivial⟩, trivial⟩ ⟨⟨rfl, rfl⟩, ⟨rfl, rfl⟩, ⟨rfl, rfl⟩, ⟨rfl, rfl⟩, trivial⟩ rfl rfl rfl rfl ?_
     conv => whnf
     exact ⟨⟨rfl, rfl, rfl, rfl, trivial⟩, rfl, trivial⟩
    ·
     conv => whnf
     refine VCall.of_fn (k := 39) (fn_toLine us ds hu hd) namesLn rfl ?_
     conv => whnf
     refine VCall.parN [(1000000, 23), (1000001, 1023), (1000002, 39), (1000003, 1039)] (fn_intactLine us ds hu hd) ⟨⟨⟨rfl, rfl, rfl, rfl⟩, ⟨rfl, rfl, rfl, rfl⟩, trivial⟩, ⟨⟨rfl, rfl, rfl, rfl⟩, ⟨rfl, rfl, rfl, rfl⟩, trivial⟩, trivial⟩ ⟨⟨rfl, rfl⟩, ⟨rfl, rfl⟩, ⟨rfl, rfl⟩, ⟨rfl, rfl⟩, trivial⟩ rfl rfl rfl rfl ?_
     conv => whnf
     exact ⟨⟨rfl, rfl, rfl, rfl, trivial⟩, rfl, trivial⟩
  conv => whnf
  refine VCall.of_data (fn_toLined us ds true hu hd) (ndA fun k => rfl) ?_
  conv => whnf
  refine VCall.of_data ci (ndT fun _ => rfl) ?_
  conv => whnf
  rw [show ((⟨r1.toArray⟩ : ByteArray).toList == (⟨r1.toArray⟩ : ByteArray).toList) = true by simp]
  conv => whnf
  rw [show (r2 == r2) = true by simp]
  conv => whnf
  exact ⟨rfl, trivial, rfl⟩
theorem law_waitingOf (us ds : List (List UInt8)) (s : Int) (hu0 : us.length < 2 ^ 47) (hd0 : ds.length < 2 ^ 47) (su0 : ∀ x, x ∈ us → x.length < 2 ^ 47) (sd0 : ∀ x, x ∈ ds → x.length < 2 ^ 47) : Fn Tryz.prog 10 [lnI us ds, I s] [] (B true) [] := by
 have c0 := fn_szLine us ds (by omega) (by omega) (fun x hx => by have := su0 x hx; omega) (fun x hx => by have := sd0 x hx; omega)
 refine Fn.intro (ks := [0,1,2,4,5,6,7,8,9,10,11,12,17,40,45,60]) hty rfl rfl rfl rfl rfl ?_
 conv => whnf
 refine VCall.of_data c0 (nd _) ?_
 obtain ⟨m, em⟩ : ∃ m, szLn 1000000 us ds = m := ⟨_, rfl⟩
 rw [em]
 conv => whnf
 refine Br.mk (fun h => ?_) (fun h => ?_)
 ·conv => whnf
  exact ⟨rfl, trivial, rfl⟩
 ·have h : 0 ≤ m := by simpa using h
  obtain ⟨hu, hd, su, sd⟩ := szLn_fits (em ▸ h)
  have cs := fn_sWaitingOf us ds s hu hd su sd
  have ci := fn_WaitingOf us ds s hu hd su sd
  generalize toldO (lnS us ds s (waitL s)) = r at cs ci
  obtain ⟨r1, r2⟩ := r
  replace cs : Fn Tryz.prog 44 [lnI us ds, I s] [] (.tup [Str r1, B r2]) [] := cs
  replace ci : Fn Tryz.prog 45 [lnI us ds, I s] [] (.tup [Str r1, B r2]) [] := ci
  conv => whnf
  refine VCall.of_data (fn_toLined us ds false hu hd) (ndA fun k => rfl) ?_
  conv => whnf
  refine VCall.of_data cs (ndT fun _ => rfl) ?_
  conv => whnf
  refine VCall.of_fn (k := 26) (fn_toLine us ds hu hd) namesLn rfl ?_
  conv => whnf
  refine VCall.lend ci ⟨⟨lend_wholeT rfl, lend_wholeT rfl, trivial⟩, rfl, trivial⟩ rfl ?_
  conv => whnf
  rw [show ((⟨r1.toArray⟩ : ByteArray).toList == (⟨r1.toArray⟩ : ByteArray).toList) = true by simp]
  conv => whnf
  rw [show (r2 == r2) = true by simp]
  conv => whnf
  refine VDraw.canon [(45, B false), (7, B r2), (6, Str r1), (2, .lp 2 0), (1, I s)] [(2, .box true [lT us, lT ds])] ?_ ?_
  ·refine VDraw.go hmo hty 0 [] rfl ?_
   conv => whnf
   refine ⟨?_, ?_⟩
   ·
    conv => whnf
    refine VCall.of_fn (k := 43) (fn_toLine us ds hu hd) namesLn rfl ?_
    conv => whnf
    refine VCall.parN [(1000000, 26), (1000001, 1026), (1000002, 43), (1000003, 1043)] (fn_intactLine us ds hu hd) ⟨⟨⟨rfl, rfl, rfl, rfl⟩, ⟨rfl, rfl, rfl, rfl⟩, trivial⟩, ⟨⟨rfl, rfl, rfl, rfl⟩, ⟨rfl, rfl, rfl, rfl⟩, trivial⟩, trivial⟩ ⟨⟨rfl, rfl⟩, ⟨rfl, rfl⟩, ⟨rfl, rfl⟩, ⟨rfl, rfl⟩, trivial⟩ rfl rfl rfl rfl ?_
    conv => whnf
    exact ⟨⟨rfl, rfl, rfl, rfl, rfl, trivial⟩, rfl, trivial⟩
   ·conv => whnf
    refine ⟨?_, ?_⟩
    ·
     conv => whnf
     refine VCall.of_fn (k := 43) (fn_toLine us ds hu hd) namesLn rfl ?_
     conv => whnf
     refine VCall.parN [(1000000, 26), (1000001, 1026), (1000002, 43), (1000003, 1043)] (fn_intactLine us ds hu hd) ⟨⟨⟨rfl, rfl, rfl, rfl⟩, ⟨rfl, rfl, rfl, rfl⟩, trivial⟩, ⟨⟨rfl, rfl, rfl, rfl⟩, ⟨rfl, rfl, rfl, rfl⟩, trivial⟩, trivial⟩ ⟨⟨rfl, rfl⟩, ⟨rfl, rfl⟩, ⟨rfl, rfl⟩, ⟨rfl, rfl⟩, trivial⟩ rfl rfl rfl rfl ?_
     conv => whnf
     exact ⟨⟨rfl, rfl, rfl, rfl, rfl, trivial⟩, rfl, trivial⟩
    ·
     conv => whnf
     refine VCall.of_fn (k := 43) (fn_toLine us ds hu hd) namesLn rfl ?_
     conv => whnf
     refine VCall.parN [(1000000, 26), (1000001, 1026), (1000002, 43), (1000003, 1043)] (fn_intactLine us ds hu hd) ⟨⟨⟨rfl, rfl, rfl, rfl⟩, ⟨rfl, rfl, rfl, rfl⟩, trivial⟩, ⟨⟨rfl, rfl, rfl, rfl⟩, ⟨rfl, rfl, rfl, rfl⟩, trivial⟩, trivial⟩ ⟨⟨rfl, rfl⟩, ⟨rfl, rfl⟩, ⟨rfl, rfl⟩, ⟨rfl, rfl⟩, trivial⟩ rfl rfl rfl rfl ?_
     conv => whnf
     exact ⟨⟨rfl, rfl, rfl, rfl, rfl, trivial⟩, rfl, trivial⟩
  conv => whnf
  refine VCall.of_data (fn_toLined us ds true hu hd) (ndA fun k => rfl) ?_
  conv => whnf
  refine VCall.of_data ci (ndT fun _ => rfl) ?_
  conv => whnf
  rw [show ((⟨r1.toArray⟩ : ByteArray).toList == (⟨r1.toArray⟩ : ByteArray).toList) = true by simp]
  conv => whnf
  rw [show (r2 == r2) = true by simp]
  conv => whnf
  exact ⟨rfl, trivial, rfl⟩
theorem law_timeWaiting (us ds : List (List UInt8)) (s : Int) (hu0 : us.length < 2 ^ 47) (hd0 : ds.length < 2 ^ 47) (su0 : ∀ x, x ∈ us → x.length < 2 ^ 47) (sd0 : ∀ x, x ∈ ds → x.length < 2 ^ 47) : Fn Tryz.prog 12 [lnI us ds, I s] [] (B true) [] := by
 have c0 := fn_szLine us ds (by omega) (by omega) (fun x hx => by have := su0 x hx; omega) (fun x hx => by have := sd0 x hx; omega)
 refine Fn.intro (ks := [0,1,2,4,5,6,7,8,9,10,11,12,17,40,45,60]) hty rfl rfl rfl rfl rfl ?_
 conv => whnf
 refine VCall.of_data c0 (nd _) ?_
 obtain ⟨m, em⟩ : ∃ m, szLn 1000000 us ds = m := ⟨_, rfl⟩
 rw [em]
 conv => whnf
 refine Br.mk (fun h => ?_) (fun h => ?_)
 ·conv => whnf
  exact ⟨rfl, trivial, rfl⟩
 ·have h : 0 ≤ m := by simpa using h
  obtain ⟨hu, hd, su, sd⟩ := szLn_fits (em ▸ h)
  have cs := fn_sTimeWaiting us ds s hu hd su sd
  have ci := fn_TimeWaiting us ds s hu hd su sd
  generalize toldO (lnS us ds s (timeW s)) = r at cs ci
  obtain ⟨r1, r2⟩ := r
  replace cs : Fn Tryz.prog 48 [lnI us ds, I s] [] (.tup [Str r1, B r2]) [] := cs
  replace ci : Fn Tryz.prog 49 [lnI us ds, I s] [] (.tup [Str r1, B r2]) [] := ci
  conv => whnf
  refine VCall.of_data (fn_toLined us ds false hu hd) (ndA fun k => rfl) ?_
  conv => whnf
  refine VCall.of_data cs (ndT fun _ => rfl) ?_
  conv => whnf
  refine VCall.of_fn (k := 26) (fn_toLine us ds hu hd) namesLn rfl ?_
  conv => whnf
  refine VCall.lend ci ⟨⟨lend_wholeT rfl, lend_wholeT rfl, trivial⟩, rfl, trivial⟩ rfl ?_
  conv => whnf
  rw [show ((⟨r1.toArray⟩ : ByteArray).toList == (⟨r1.toArray⟩ : ByteArray).toList) = true by simp]
  conv => whnf
  rw [show (r2 == r2) = true by simp]
  conv => whnf
  refine VDraw.canon [(45, B false), (7, B r2), (6, Str r1), (2, .lp 2 0), (1, I s)] [(2, .box true [lT us, lT ds])] ?_ ?_
  ·refine VDraw.go hmo hty 0 [] rfl ?_
   conv => whnf
   refine ⟨?_, ?_⟩
   ·
    conv => whnf
    refine VCall.of_fn (k := 43) (fn_toLine us ds hu hd) namesLn rfl ?_
    conv => whnf
    refine VCall.parN [(1000000, 26), (1000001, 1026), (1000002, 43), (1000003, 1043)] (fn_intactLine us ds hu hd) ⟨⟨⟨rfl, rfl, rfl, rfl⟩, ⟨rfl, rfl, rfl, rfl⟩, trivial⟩, ⟨⟨rfl, rfl, rfl, rfl⟩, ⟨rfl, rfl, rfl, rfl⟩, trivial⟩, trivial⟩ ⟨⟨rfl, rfl⟩, ⟨rfl, rfl⟩, ⟨rfl, rfl⟩, ⟨rfl, rfl⟩, trivial⟩ rfl rfl rfl rfl ?_
    conv => whnf
    exact ⟨⟨rfl, rfl, rfl, rfl, rfl, trivial⟩, rfl, trivial⟩
   ·conv => whnf
    refine ⟨?_, ?_⟩
    ·
     conv => whnf
     refine VCall.of_fn (k := 43) (fn_toLine us ds hu hd) namesLn rfl ?_
     conv => whnf
     refine VCall.parN [(1000000, 26), (1000001, 1026), (1000002, 43), (1000003, 1043)] (fn_intactLine us ds hu hd) ⟨⟨⟨rfl, rfl, rfl, rfl⟩, ⟨rfl, rfl, rfl, rfl⟩, trivial⟩, ⟨⟨rfl, rfl, rfl, rfl⟩, ⟨rfl, rfl, rfl, rfl⟩, trivial⟩, trivial⟩ ⟨⟨rfl, rfl⟩, ⟨rfl, rfl⟩, ⟨rfl, rfl⟩, ⟨rfl, rfl⟩, trivial⟩ rfl rfl rfl rfl ?_
     conv => whnf
     exact ⟨⟨rfl, rfl, rfl, rfl, rfl, trivial⟩, rfl, trivial⟩
    ·
     conv => whnf
     refine VCall.of_fn (k := 43) (fn_toLine us ds hu hd) namesLn rfl ?_
     conv => whnf
     refine VCall.parN [(1000000, 26), (1000001, 1026), (1000002, 43), (1000003, 1043)] (fn_intactLine us ds hu hd) ⟨⟨⟨rfl, rfl, rfl, rfl⟩, ⟨rfl, rfl, rfl, rfl⟩, trivial⟩, ⟨⟨rfl, rfl, rfl, rfl⟩, ⟨rfl, rfl, rfl, rfl⟩, trivial⟩, trivial⟩ ⟨⟨rfl, rfl⟩, ⟨rfl, rfl⟩, ⟨rfl, rfl⟩, ⟨rfl, rfl⟩, trivial⟩ rfl rfl rfl rfl ?_
     conv => whnf
     exact ⟨⟨rfl, rfl, rfl, rfl, rfl, trivial⟩, rfl, trivial⟩
  conv => whnf
  refine VCall.of_data (fn_toLined us ds true hu hd) (ndA fun k => rfl) ?_
  conv => whnf
  refine VCall.of_data ci (ndT fun _ => rfl) ?_
  conv => whnf
  rw [show ((⟨r1.toArray⟩ : ByteArray).toList == (⟨r1.toArray⟩ : ByteArray).toList) = true by simp]
  conv => whnf
  rw [show (r2 == r2) = true by simp]
  conv => whnf
  exact ⟨rfl, trivial, rfl⟩
end Go.V
namespace Go.V
open Go.Proofs Go.RowKit
set_option maxRecDepth 10000
set_option maxHeartbeats 1000000
theorem cT_flat (xs : List (List UInt8)) : ∀ q, q ∈ cT xs → ∀ c, c ∈ q → flatC c = true := by
 intro q hq c hc
 unfold cT at hq
 obtain ⟨x, _, rfl⟩ := List.mem_map.1 hq
 cases hc with
 | head => rfl
 | tail _ h => cases h
theorem fn_markT0 (k0 : Int) : Fn Tryz.prog 21 [.d (.sl []), I k0] [] (I k0) [] := by
 refine Fn.intro (ks := [0,1,4,5,9]) hty rfl rfl rfl rfl rfl ?_
 conv => whnf
 refine VLoop.inv hty (S := Nat) (fun _ => [(5, I 0), (1, I k0), (0, .d (.sl []))]) (fun _ => []) (fun _ => True) (fun _ => 0) 0 trivial ⟨rfl, rfl, rfl, trivial⟩ trivial ?_
 intro k _
 conv => whnf
 exact ⟨rfl, trivial, rfl⟩
theorem fn_heldT (n k0 : Nat) (hl : n ≤ 1000000) (hk0 : k0 ≤ 2000000000) :
  Fn Tryz.prog 37 [.d (.sl (cT (marksT k0 n))), I k0] [] (I ((k0 + n : Nat) : Int)) [] := by
 refine Fn.intro (ks := [0,1,4,5,9,18]) hty rfl rfl rfl rfl rfl ?_
 conv => whnf
 refine VLoop.inv hty (S := Nat) (fun k => [(5, I k), (1, I ((k0 + k : Nat) : Int)), (0, .d (.sl (cT (marksT k0 n))))]) (fun _ => []) (fun k => k ≤ n) (fun k => n - k) 0 (Nat.zero_le _)
  ⟨rfl, rfl, rfl, trivial⟩ trivial ?_
 intro k hk
 conv => whnf
 rw [cT_len, marksT_len]
 refine Br.mk (fun h => ?_) (fun h => ?_)
 ·have hk' : k < n := by simp at h; omega
  conv => whnf
  refine VDraw.go hmo hty 7 [] rfl ?_
  conv => whnf
  refine ⟨⟨⟨by omega, by rw [cT_len, marksT_len]; omega⟩, cT_sz _⟩, ?_⟩
  conv => whnf
  refine ⟨[.s (.string ⟨(markQ (k0 + k)).toArray⟩)], by simp [cT, marksT, hk'], ?_⟩
  conv => whnf
  refine QCall.of_data (fn_markQ (k0 + k) (by omega)) (nd _) ?_
  conv => whnf
  rw [show ((⟨(markQ (k0 + k)).toArray⟩ : ByteArray).toList == (⟨(markQ (k0 + k)).toArray⟩ : ByteArray).toList) = true by simp]
  conv => whnf
  refine Wr.fit (wrap_i64 (by omega) (by omega)) ?_
  conv => whnf
  refine Wr.fit (wrap_i64 (by omega) (by omega)) ?_
  conv => whnf
  exact ⟨k + 1, hk', by omega, ⟨rfl, by congr 1, rfl, trivial⟩, trivial⟩
 ·have hk' : k = n := by simp at h; omega
  subst hk'
  conv => whnf
  exact ⟨rfl, trivial, rfl⟩
theorem fn_eqST (xs : List (List UInt8)) (hl : xs.length ≤ 3000000) : Fn Tryz.prog 34 [.d (.sl (cT xs)), .d (.sl (cT xs))] [] (B true) [] := by
 have := fn_eqS xs xs hl hl
 rwa [decide_eq_true rfl] at this
theorem sharesO_len {us ds ts : List (List UInt8)} (h : sharesO us ds = some ts) : ts.length ≤ 21 := by
 unfold sharesO at h
 cases hq : lineQ us ds with
 | none => rw [hq] at h; cases h
 | some p =>
  obtain ⟨x, y⟩ := p
  rw [hq] at h
  have hok := lineQ_ok hq
  have hn := hok.n2
  simp only [Option.bind_some, toldTs] at h
  split at h
  ·cases h; rw [List.length_map, shQ_len]; omega
  ·cases h
theorem law_sharesOf (us ds : List (List UInt8)) (hu0 : us.length < 2 ^ 47) (hd0 : ds.length < 2 ^ 47) (su0 : ∀ x, x ∈ us → x.length < 2 ^ 47) (sd0 : ∀ x, x ∈ ds → x.length < 2 ^ 47) : Fn Tryz.prog 6 [lnI us ds] [] (B true) [] := by
 have c0 := fn_szLine us ds (by omega) (by omega) (fun x hx => by have := su0 x hx; omega) (fun x hx => by have := sd0 x hx; omega)
 refine Fn.intro (ks := [0,1,2,3,4,5,6,7,8,9,10,11,12,13,18,40,45,61,69,72,87,92,95]) hty rfl rfl rfl rfl rfl ?_
 conv => whnf
 refine VCall.of_data c0 (nd _) ?_
 obtain ⟨m, em⟩ : ∃ m, szLn 1000000 us ds = m := ⟨_, rfl⟩
 rw [em]
 conv => whnf
 refine Br.mk (fun h => ?_) (fun h => ?_)
 ·conv => whnf
  exact ⟨rfl, trivial, rfl⟩
 ·have h : 0 ≤ m := by simpa using h
  obtain ⟨hu, hd, su, sd⟩ := szLn_fits (em ▸ h)
  have cs := fn_sSharesOf us ds hu hd su sd
  have ci := fn_SharesOf us ds hu hd su sd
  conv => whnf
  refine VCall.of_data (fn_toLined us ds false hu hd) (ndA fun k => rfl) ?_
  conv => whnf
  cases hr : sharesO us ds with
  | none =>
   rw [hr] at cs ci
   replace cs : Fn Tryz.prog 31 [lnI us ds] [] (.tup [.d (.sl []), B false]) [] := cs
   replace ci : Fn Tryz.prog 33 [lnI us ds] [] (.tup [.d (.sl []), B false]) [] := ci
   refine VCall.of_data cs (ndT fun _ => rfl) ?_
   conv => whnf
   refine VCall.of_fn (k := 26) (fn_toLine us ds hu hd) namesLn rfl ?_
   conv => whnf
   refine VCall.lend ci ⟨⟨lend_wholeT rfl, lend_wholeT rfl, trivial⟩, trivial⟩ rfl ?_
   conv => whnf
   refine VCall.of_data (fn_eqST [] (by simp)) (nd _) ?_
   conv => whnf
   refine VDraw.canon [(45, B false), (8, B false), (7, .d (.sl [])), (6, .lp 6 0), (5, B false), (4, .d (.sl [])), (1, .lp 1 0)]
    [(6, .box true [.ls 26 0 us.length 1, .ls 1026 0 ds.length 1]), (26, .row true 1 (cT (withRoomT us))), (1026, .row true 1 (cT (withRoomT ds))), (1, .box true [lT us, lT ds])] ?_ ?_
   ·refine VDraw.go hmo hty 0 [] rfl ?_
    conv => whnf
    refine ⟨?_, ?_⟩
    ·
     conv => whnf
     refine VCall.of_fn (k := 43) (fn_toLine us ds hu hd) namesLn rfl ?_
     conv => whnf
     refine VCall.parN [(1000000, 26), (1000001, 1026), (1000002, 43), (1000003, 1043)] (fn_intactLine us ds hu hd) ⟨⟨⟨rfl, rfl, rfl, rfl⟩, ⟨rfl, rfl, rfl, rfl⟩, trivial⟩, ⟨⟨rfl, rfl, rfl, rfl⟩, ⟨rfl, rfl, rfl, rfl⟩, trivial⟩, trivial⟩ ⟨⟨rfl, rfl⟩, ⟨rfl, rfl⟩, ⟨rfl, rfl⟩, ⟨rfl, rfl⟩, trivial⟩ rfl rfl rfl rfl ?_
     conv => whnf
     exact ⟨⟨rfl, rfl, rfl, rfl, rfl, rfl, rfl, trivial⟩, rfl, rfl, rfl, rfl, trivial⟩
    ·conv => whnf
     refine ⟨?_, ?_⟩
     ·
      conv => whnf
      refine VCall.of_fn (k := 43) (fn_toLine us ds hu hd) namesLn rfl ?_
      conv => whnf
      refine VCall.parN [(1000000, 26), (1000001, 1026), (1000002, 43), (1000003, 1043)] (fn_intactLine us ds hu hd) ⟨⟨⟨rfl, rfl, rfl, rfl⟩, ⟨rfl, rfl, rfl, rfl⟩, trivial⟩, ⟨⟨rfl, rfl, rfl, rfl⟩, ⟨rfl, rfl, rfl, rfl⟩, trivial⟩, trivial⟩ ⟨⟨rfl, rfl⟩, ⟨rfl, rfl⟩, ⟨rfl, rfl⟩, ⟨rfl, rfl⟩, trivial⟩ rfl rfl rfl rfl ?_
      conv => whnf
      exact ⟨⟨rfl, rfl, rfl, rfl, rfl, rfl, rfl, trivial⟩, rfl, rfl, rfl, rfl, trivial⟩
     ·
      conv => whnf
      refine VCall.of_fn (k := 43) (fn_toLine us ds hu hd) namesLn rfl ?_
      conv => whnf
      refine VCall.parN [(1000000, 26), (1000001, 1026), (1000002, 43), (1000003, 1043)] (fn_intactLine us ds hu hd) ⟨⟨⟨rfl, rfl, rfl, rfl⟩, ⟨rfl, rfl, rfl, rfl⟩, trivial⟩, ⟨⟨rfl, rfl, rfl, rfl⟩, ⟨rfl, rfl, rfl, rfl⟩, trivial⟩, trivial⟩ ⟨⟨rfl, rfl⟩, ⟨rfl, rfl⟩, ⟨rfl, rfl⟩, ⟨rfl, rfl⟩, trivial⟩ rfl rfl rfl rfl ?_
      conv => whnf
      exact ⟨⟨rfl, rfl, rfl, rfl, rfl, rfl, rfl, trivial⟩, rfl, rfl, rfl, rfl, trivial⟩
   conv => whnf
   refine VCall.parN [(1000000, 26), (1000001, 1026)] (fn_markLine us ds hu hd) ⟨⟨⟨rfl, rfl, rfl, rfl⟩, ⟨rfl, rfl, rfl, rfl⟩, trivial⟩, rfl, trivial⟩ ⟨⟨rfl, rfl⟩, ⟨rfl, rfl⟩, trivial⟩ rfl rfl rfl rfl ?_
   conv => whnf
   rw [decide_eq_false (show ¬ (((101 + us.length + ds.length : Nat) : Int) < 0) by omega)]
   conv => whnf
   refine VCall.of_data (fn_eqST [] (by simp)) (nd _) ?_
   conv => whnf
   refine VCall.of_data (fn_markT0 101) (nd _) ?_
   conv => whnf
   have ch := fn_heldT 0 101 (by omega) (by omega)
   rw [show cT (marksT 101 0) = [] from rfl] at ch
   refine VCall.of_data ch (nd _) ?_
   conv => whnf
   refine VCall.of_data (fn_toLined us ds true hu hd) (ndA fun k => rfl) ?_
   conv => whnf
   refine VCall.of_data ci (ndT fun _ => rfl) ?_
   conv => whnf
   refine VCall.of_data (fn_eqST [] (by simp)) (nd _) ?_
   conv => whnf
   refine VCall.of_data ch (nd _) ?_
   conv => whnf
   exact ⟨rfl, trivial, rfl⟩
  | some ts =>
   have hn := sharesO_len hr
   rw [hr] at cs ci
   replace cs : Fn Tryz.prog 31 [lnI us ds] [] (.tup [.ls 0 0 ts.length 1, B true]) [(0, .row true 1 (cT ts))] := cs
   replace ci : Fn Tryz.prog 33 [lnI us ds] [] (.tup [.ls 0 0 ts.length 1, B true]) [(0, .row true 1 (cT ts))] := ci
   have et : (List.drop 0 (cT ts)).take ts.length = cT ts := by rw [List.drop_zero, List.take_of_length_le (by rw [cT_len]; omega)]
   have c1 := cs.freezeT (by rw [cT_len]; omega) rfl
   rw [et] at c1
   have c2 := ci.freezeT (by rw [cT_len]; omega) rfl
   rw [et] at c2
   have c3 := fn_eqST ts (by omega)
   have hf : ∀ q, q ∈ cT ts → ∀ c, c ∈ q → flatC c = true := cT_flat ts
   clear cs hr su sd
   refine VCall.of_data c1 (ndT fun _ => rfl) ?_
   conv => whnf
   refine VCall.of_fn (k := 26) (fn_toLine us ds hu hd) namesLn rfl ?_
   conv => whnf
   refine VCall.lendT (k := 29) ci ⟨⟨lend_wholeT rfl, lend_wholeT rfl, trivial⟩, trivial⟩ hf rfl rfl ?_
   conv => whnf
   refine VCall.lend c3 ⟨lend_allT rfl rfl, rfl, trivial⟩ rfl ?_
   conv => whnf
   refine VDraw.canon [(45, B false), (8, B true), (7, .ls 29 0 ts.length 1), (6, .lp 6 0), (5, B true), (4, .d (.sl (cT ts))), (1, .lp 1 0)]
    [(6, .box true [.ls 26 0 us.length 1, .ls 1026 0 ds.length 1]), (26, .row true 1 (cT (withRoomT us))), (1026, .row true 1 (cT (withRoomT ds))), (1, .box true [lT us, lT ds]), (29, .row true 1 (cT ts))] ?_ ?_
   ·refine VDraw.go hmo hty 0 [] rfl ?_
    conv => whnf
    refine ⟨?_, ?_⟩
    ·
     conv => whnf
     refine VCall.of_fn (k := 43) (fn_toLine us ds hu hd) namesLn rfl ?_
     conv => whnf
     refine VCall.parN [(1000000, 26), (1000001, 1026), (1000002, 43), (1000003, 1043)] (fn_intactLine us ds hu hd) ⟨⟨⟨rfl, rfl, rfl, rfl⟩, ⟨rfl, rfl, rfl, rfl⟩, trivial⟩, ⟨⟨rfl, rfl, rfl, rfl⟩, ⟨rfl, rfl, rfl, rfl⟩, trivial⟩, trivial⟩ ⟨⟨rfl, rfl⟩, ⟨rfl, rfl⟩, ⟨rfl, rfl⟩, ⟨rfl, rfl⟩, trivial⟩ rfl rfl rfl rfl ?_
     conv => whnf
     exact ⟨⟨rfl, rfl, rfl, rfl, rfl, rfl, rfl, trivial⟩, rfl, rfl, rfl, rfl, rfl, trivial⟩
    ·conv => whnf
     refine ⟨?_, ?_⟩
     ·
      conv => whnf
      refine VCall.of_fn (k := 43) (fn_toLine us ds hu hd) namesLn rfl ?_
      conv => whnf
      refine VCall.parN [(1000000, 26), (1000001, 1026), (1000002, 43), (1000003, 1043)] (fn_intactLine us ds hu hd) ⟨⟨⟨rfl, rfl, rfl, rfl⟩, ⟨rfl, rfl, rfl, rfl⟩, trivial⟩, ⟨⟨rfl, rfl, rfl, rfl⟩, ⟨rfl, rfl, rfl, rfl⟩, trivial⟩, trivial⟩ ⟨⟨rfl, rfl⟩, ⟨rfl, rfl⟩, ⟨rfl, rfl⟩, ⟨rfl, rfl⟩, trivial⟩ rfl rfl rfl rfl ?_
      conv => whnf
      exact ⟨⟨rfl, rfl, rfl, rfl, rfl, rfl, rfl, trivial⟩, rfl, rfl, rfl, rfl, rfl, trivial⟩
     ·
      conv => whnf
      refine VCall.of_fn (k := 43) (fn_toLine us ds hu hd) namesLn rfl ?_
      conv => whnf
      refine VCall.parN [(1000000, 26), (1000001, 1026), (1000002, 43), (1000003, 1043)] (fn_intactLine us ds hu hd) ⟨⟨⟨rfl, rfl, rfl, rfl⟩, ⟨rfl, rfl, rfl, rfl⟩, trivial⟩, ⟨⟨rfl, rfl, rfl, rfl⟩, ⟨rfl, rfl, rfl, rfl⟩, trivial⟩, trivial⟩ ⟨⟨rfl, rfl⟩, ⟨rfl, rfl⟩, ⟨rfl, rfl⟩, ⟨rfl, rfl⟩, trivial⟩ rfl rfl rfl rfl ?_
      conv => whnf
      exact ⟨⟨rfl, rfl, rfl, rfl, rfl, rfl, rfl, trivial⟩, rfl, rfl, rfl, rfl, rfl, trivial⟩
   conv => whnf
   refine VCall.parN [(1000000, 26), (1000001, 1026)] (fn_markLine us ds hu hd) ⟨⟨⟨rfl, rfl, rfl, rfl⟩, ⟨rfl, rfl, rfl, rfl⟩, trivial⟩, rfl, trivial⟩ ⟨⟨rfl, rfl⟩, ⟨rfl, rfl⟩, trivial⟩ rfl rfl rfl rfl ?_
   conv => whnf
   rw [decide_eq_false (show ¬ (((101 + us.length + ds.length : Nat) : Int) < 0) by omega)]
   conv => whnf
   refine VCall.lend c3 ⟨lend_allT rfl rfl, rfl, trivial⟩ rfl ?_
   conv => whnf
   refine VCall.par1 29 (fn_markT ts ts.length 101 (Nat.le_refl _) (by omega) (by omega)) ⟨⟨rfl, rfl, rfl, rfl⟩, rfl, trivial⟩ rfl ?_
   conv => whnf
   have hm : ∀ l : LL, lget 29 l = .row true 1 (cT (marksT 101 ts.length ++ List.drop ts.length ts)) → lend1 l (.ls 29 0 ts.length 1) (.d (.sl (cT (marksT 101 ts.length)))) := fun l h => by
    have := lend_wholeT (xs := marksT 101 ts.length) h
    rwa [marksT_len] at this
   have ch := fn_heldT ts.length 101 (by omega) (by omega)
   refine VCall.lend ch ⟨hm _ rfl, rfl, trivial⟩ rfl ?_
   conv => whnf
   refine Br.mk (fun h => by simp at h) (fun _ => ?_)
   conv => whnf
   refine VCall.of_data (fn_toLined us ds true hu hd) (ndA fun k => rfl) ?_
   conv => whnf
   refine VCall.of_data c2 (ndT fun _ => rfl) ?_
   conv => whnf
   refine VCall.of_data c3 (nd _) ?_
   conv => whnf
   refine VCall.lend ch ⟨hm _ rfl, rfl, trivial⟩ rfl ?_
   conv => whnf
   refine Br.mk (fun h => by simp at h) (fun _ => ?_)
   conv => whnf
   exact ⟨rfl, trivial, rfl⟩
end Go.V
