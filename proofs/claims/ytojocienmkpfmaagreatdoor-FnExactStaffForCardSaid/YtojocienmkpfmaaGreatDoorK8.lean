/- Part 8: the abstract machine, its soundness, contracts of functions. -/
import Derived.Test.YtojocienmkpfmaaGreatDoorK7
/- The laws' own functions on lists of strings. -/
set_option linter.unusedVariables false
set_option linter.unusedSimpArgs false
namespace Go.V
open Go.Proofs Go.RowKit
set_option maxRecDepth 10000
set_option maxHeartbeats 1000000

abbrev spT : List UInt8 := [126, 115, 112, 97, 114, 101, 126]
def withRoomT (xs : List (List UInt8)) : List (List UInt8) := xs ++ List.replicate (room xs.length) spT
theorem cT_set (xs : List (List UInt8)) (k : Nat) (x : List UInt8) : (cT xs).set k [.s (.string ⟨x.toArray⟩)] = cT (xs.set k x) := by
  unfold cT; rw [List.map_set]

theorem fn_toT (xs : List (List UInt8)) (b : Bool) (hb : b = false ∨ xs ≠ []) (hl : xs.length ≤ 1000000) :
    Fn Tryz.prog 17 [.d (.sl (cT xs)), B b] [] (.ls 0 0 xs.length 1) [(0, .row true 1 (cT (withRoomT xs)))] := by
  have hr := room_le xs.length
  generalize hm : room xs.length = m at hr
  have hwl : withRoomT xs = xs ++ List.replicate m spT := by rw [withRoomT, hm]
  have k1 : (xs ++ List.replicate m []).length = (List.replicate (xs.length + m) ([] : List UInt8)).length := by simp
  have k2 : (xs ++ List.replicate m spT).length = (xs ++ List.replicate m []).length := by simp
  have k3 : (xs ++ List.replicate m spT).length = xs.length + m := by simp
  have c1 := fn_room xs.length hl
  rw [hm] at c1
  refine Fn.intro (ks := [0,1,4,5,6,7,13,24,39]) hty rfl rfl rfl rfl rfl ?_
  cases b
  case' true =>
    conv => whnf
    refine Br.mk (fun h => absurd h ?_) (fun _ => ?_)
    · have hne : xs ≠ [] := by rcases hb with hb | hb; cases hb; exact hb
      have := List.length_pos_iff.2 hne
      rw [cT_len]; simp; exact hne
  all_goals
    clear hb
    conv => whnf
    rw [cT_len]
    refine VCall.of_data c1 (nd _) ?_
    conv => whnf
    refine Wr.fit (wrap_i64 (by omega) (by omega)) ?_
    conv => whnf
    refine ⟨⟨by omega, by omega, by show ((xs.length : Int) + m) * ((16 : Nat) : Int) ≤ _; omega, by omega⟩, ?_⟩
    conv => whnf
    refine VLoop.inv hty (S := Nat) (fun k => [(6, I k), (5, .ls 20 0 (xs.length + m) 1), (0, .d (.sl (cT xs)))])
      (fun k => [(20, .row true 1 (cT (fillL (xs ++ List.replicate m []) (List.replicate (xs.length + m) []) k)))]) (fun k => k ≤ xs.length) (fun k => xs.length - k) 0 (Nat.zero_le _)
      ⟨rfl, by show AV.ls _ _ _ _ = _; congr 1, rfl, trivial⟩ ⟨by show Ob.row true 1 (List.replicate ((xs.length : Int) + m).toNat [.s (.string ByteArray.empty)]) = _; rw [fill_zero, show ((xs.length : Int) + m).toNat = xs.length + m by omega]; simp only [cT, List.map_replicate]; rfl, trivial⟩ ?_
    intro k hk
    conv => whnf
    rw [cT_len]
    refine Br.mk (fun h => ?_) (fun h => ?_)
    · have hk' : k < xs.length := by simp at h; omega
      conv => whnf
      refine ⟨⟨⟨by omega, by rw [cT_len]; omega⟩, cT_sz xs⟩, ?_⟩
      conv => whnf
      refine ⟨[.s (.string ⟨(xs[k]).toArray⟩)], by simp [cT, hk'], ?_⟩
      conv => whnf
      refine ⟨by omega, ?_⟩
      conv => whnf
      refine ⟨[.s (.string ⟨((fillL (xs ++ List.replicate m []) (List.replicate (xs.length + m) []) k)[k]!).toArray⟩)], by
        have : k < (fillL (xs ++ List.replicate m []) (List.replicate (xs.length + m) []) k).length := by rw [fill_len k1]; simp; omega
        simp [cT, this], ?_⟩
      conv => whnf
      refine Wr.fit (wrap_i64 (by omega) (by omega)) ?_
      conv => whnf
      refine ⟨k + 1, hk', by omega, ⟨rfl, rfl, rfl, trivial⟩, ?_, trivial⟩
      show Ob.row true 1 ((cT _).set k [.s (.string ⟨(xs[k]).toArray⟩)]) = _
      rw [cT_set, ← fill_set k1 (by simp; omega)]
      congr 3
      rw [List.getElem_append_left hk']
    · have hk' : k = xs.length := by simp at h; omega
      subst hk'
      conv => whnf
      rw [cT_len]
      have e0 : fillL (xs ++ List.replicate m []) (List.replicate (xs.length + m) []) xs.length = fillL (xs ++ List.replicate m spT) (xs ++ List.replicate m []) xs.length := by
        simp [fillL]
      rw [e0]
      refine VLoop.inv hty (S := Nat) (fun k => [(7, I k), (5, .ls 20 0 (xs.length + m) 1), (0, .d (.sl (cT xs)))])
        (fun k => [(20, .row true 1 (cT (fillL (xs ++ List.replicate m spT) (xs ++ List.replicate m []) k)))]) (fun k => xs.length ≤ k ∧ k ≤ xs.length + m) (fun k => xs.length + m - k) xs.length ⟨Nat.le_refl _, by omega⟩
        ⟨rfl, rfl, rfl, trivial⟩ ⟨rfl, trivial⟩ ?_
      rintro k ⟨hk1, hk2⟩
      conv => whnf
      refine Br.mk (fun h => ?_) (fun h => ?_)
      · have hk' : k < xs.length + m := by simp at h; omega
        conv => whnf
        refine ⟨by omega, ?_⟩
        conv => whnf
        refine ⟨[.s (.string ⟨((fillL (xs ++ List.replicate m spT) (xs ++ List.replicate m []) k)[k]!).toArray⟩)], by
          have : k < (fillL (xs ++ List.replicate m spT) (xs ++ List.replicate m []) k).length := by rw [fill_len k2]; simp; omega
          simp [cT, this], ?_⟩
        conv => whnf
        refine Wr.fit (wrap_i64 (by omega) (by omega)) ?_
        conv => whnf
        refine ⟨k + 1, ⟨by omega, by omega⟩, by omega, ⟨rfl, rfl, rfl, trivial⟩, ?_, trivial⟩
        show Ob.row true 1 ((cT _).set k [.s (.string ⟨spT.toArray⟩)]) = _
        rw [cT_set, ← fill_set k2 (by simp; omega)]
        congr 3
        rw [List.getElem_append_right (by omega)]; simp
      · have hk' : k = xs.length + m := by simp at h; omega
        subst hk'
        conv => whnf
        rw [cT_len, fill_end k2 (by simp), ← hwl]
        refine ⟨⟨by omega, by omega, by rw [cT_len, hwl, k3]; omega⟩, ?_⟩
        conv => whnf
        exact ⟨⟨rfl, rfl, rfl, rfl, by omega, rfl⟩, [], rfl, trivial, rfl⟩

theorem fn_toT0 : Fn Tryz.prog 17 [.d (.sl (cT [])), B true] [] (.d (.sl [])) [] := by
  refine Fn.intro (ks := [0,1,4,5,6,7,13,24,39]) hty rfl rfl rfl rfl rfl ?_
  conv => whnf
  exact ⟨trivial, rfl⟩

/-- The same, told as data. -/
theorem fn_toTd (xs : List (List UInt8)) (b : Bool) (hl : xs.length ≤ 1000000) : Fn Tryz.prog 17 [.d (.sl (cT xs)), B b] [] (.d (.sl (cT xs))) [] := by
  by_cases h : b = false ∨ xs ≠ []
  · have := (fn_toT xs b h hl).freeze (by rw [cT_len]; simp [withRoomT])
    have e : (List.drop 0 (cT (withRoomT xs))).take xs.length = cT xs := by simp [cT, withRoomT]
    rwa [e] at this
  · have hb : b = true := by cases b; exact absurd (.inl rfl) h; rfl
    have hx : xs = [] := Classical.byContradiction fun e => h (.inr e)
    subst hb; subst hx
    exact fn_toT0

theorem fn_eqS (xs ys : List (List UInt8)) (hl : xs.length ≤ 3000000) (hl' : ys.length ≤ 3000000) :
    Fn Tryz.prog 34 [.d (.sl (cT xs)), .d (.sl (cT ys))] [] (B (decide (xs = ys))) [] := by
  refine Fn.intro (ks := [0,1,4,5,10,14,25]) hty rfl rfl rfl rfl rfl ?_
  conv => whnf
  rw [cT_len, cT_len]
  refine Br.mk (fun h => ?_) (fun h => ?_)
  · have h : ¬ xs.length = ys.length := by simp at h; omega
    conv => whnf
    refine ⟨?_, trivial, rfl⟩
    rw [decide_eq_false fun e => h (by rw [e])]
  · have hxy : xs.length = ys.length := by simp at h; omega
    conv => whnf
    refine VLoop.inv hty (S := Nat) (fun k => [(5, I k), (1, .d (.sl (cT ys))), (0, .d (.sl (cT xs)))]) (fun _ => []) (fun k => k ≤ xs.length ∧ xs.take k = ys.take k) (fun k => xs.length - k) 0 ⟨Nat.zero_le _, rfl⟩
      ⟨rfl, rfl, rfl, trivial⟩ trivial ?_
    rintro k ⟨hk, hp⟩
    conv => whnf
    rw [cT_len]
    refine Br.mk (fun h => ?_) (fun h => ?_)
    · have hk' : k < xs.length := by simp at h; omega
      conv => whnf
      refine VDraw.go hmo hty 9 [] rfl ?_
      conv => whnf
      refine ⟨⟨⟨by omega, by rw [cT_len]; omega⟩, cT_sz xs⟩, ?_⟩
      conv => whnf
      refine ⟨[.s (.string ⟨(xs[k]).toArray⟩)], by simp [cT, hk'], ?_⟩
      conv => whnf
      refine ⟨⟨⟨by omega, by rw [cT_len]; omega⟩, cT_sz ys⟩, ?_⟩
      conv => whnf
      refine ⟨[.s (.string ⟨(ys[k]).toArray⟩)], by simp [cT, ← hxy, hk'], ?_⟩
      conv => whnf
      refine Br.mk (fun h2 => ?_) (fun h2 => ?_)
      · have h2 : ¬ xs[k] = ys[k] := by simpa using h2
        conv => whnf
        refine ⟨?_, trivial, rfl⟩
        rw [decide_eq_false fun e => h2 (by subst e; rfl)]
      · have h2 : xs[k] = ys[k] := by simpa using h2
        conv => whnf
        refine Wr.fit (wrap_i64 (by omega) (by omega)) ?_
        conv => whnf
        refine ⟨k + 1, ⟨hk', ?_⟩, by omega, ⟨rfl, rfl, rfl, trivial⟩, trivial⟩
        rw [List.take_succ_eq_append_getElem hk', List.take_succ_eq_append_getElem (by omega), hp, h2]
    · have hk' : k = xs.length := by simp at h; omega
      conv => whnf
      refine ⟨?_, trivial, rfl⟩
      subst hk'
      rw [List.take_length, List.take_of_length_le (by omega)] at hp
      rw [decide_eq_true hp]


theorem fn_intactT (xs : List (List UInt8)) (hl : xs.length ≤ 1000000) :
    Fn Tryz.prog 20 [.ls 1000000 0 xs.length 1, .ls 1000001 0 xs.length 1] [(1000000, .row true 1 (cT (withRoomT xs))), (1000001, .row true 1 (cT (withRoomT xs)))] (B true)
      [(1000000, .row true 1 (cT (withRoomT xs))), (1000001, .row true 1 (cT (withRoomT xs)))] := by
  have hr := room_le xs.length
  have hw : (withRoomT xs).length = xs.length + room xs.length := by simp [withRoomT]
  refine Fn.intro (ks := [0,1,4,5]) hty rfl rfl rfl rfl rfl ?_
  conv => whnf
  refine VCall.of_data (fn_room xs.length (by omega)) (nd _) ?_
  conv => whnf
  refine Wr.fit (wrap_i64 (by omega) (by omega)) ?_
  conv => whnf
  refine VDraw.go hmo hty 15 [] rfl ?_
  conv => whnf
  rw [decide_eq_true rfl]
  conv => whnf
  refine ⟨⟨by omega, by omega, by rw [cT_len, hw]; omega⟩, ?_⟩
  conv => whnf
  refine ⟨⟨by omega, by omega, by rw [cT_len, hw]; omega⟩, ?_⟩
  conv => whnf
  refine QCall.lend (fn_eqS (withRoomT xs) (withRoomT xs) (by omega) (by omega)) ⟨⟨rfl, ?_, ?_⟩, ⟨rfl, ?_, ?_⟩, trivial⟩ rfl ?_
  iterate 2
    · simp only [cT_len, hw]; omega
    · show ((cT _).drop (Int.toNat 0 + 0)).take _ = _
      rw [List.take_of_length_le (by simp [cT_len, hw]; omega)]; rfl
  conv => whnf
  exact ⟨by simp, ⟨rfl, rfl, trivial⟩, rfl⟩


def markF (r : Nat) (acc : List UInt8) : List UInt8 := if h : r = 0 then acc else markF (r / 10) (UInt8.ofNat (48 + r % 10) :: acc)

theorem fn_markText (k : Nat) (hk : k ≤ 3000000000) : ∃ m : List UInt8, Fn Tryz.prog 79 [I k] [] (.d (.s (.string ⟨m.toArray⟩))) [] := by
  by_cases h0 : k = 0
  · subst h0
    refine ⟨[109, 48], ?_⟩
    refine Fn.intro (ks := [0,2,3,5,7]) hty rfl rfl rfl rfl rfl ?_
    conv => whnf
    refine ⟨?_, trivial, rfl⟩
    rfl
  · refine ⟨109 :: markF k [], ?_⟩
    refine Fn.intro (ks := [0,2,3,5,7]) hty rfl rfl rfl rfl rfl ?_
    conv => whnf
    rw [decide_eq_false (by omega)]
    conv => whnf
    refine VLoop.inv hty (S := Nat × List UInt8) (fun s => [(3, .d (.s (.string ⟨s.2.toArray⟩))), (0, I s.1)]) (fun _ => []) (fun s => s.1 + s.2.length ≤ k ∧ markF s.1 s.2 = markF k []) (fun s => s.1) (k, []) ⟨Nat.le_refl _, rfl⟩
      ⟨rfl, rfl, trivial⟩ trivial ?_
    rintro s ⟨hk1, hp⟩
    conv => whnf
    refine Br.mk (fun h => ?_) (fun h => ?_)
    · have h : 0 < s.1 := by simpa using h
      rw [markF, dif_neg (by omega)] at hp
      conv => whnf
      refine ⟨by omega, ?_⟩
      conv => whnf
      obtain ⟨d, ed⟩ : ∃ d : Nat, s.1 % 10 = d := ⟨_, rfl⟩
      rw [show (s.1 : Int).tmod 10 = d by rw [Int.tmod_eq_emod_of_nonneg (by omega)]; omega]
      rw [ed] at hp
      refine Wr.fit (wrap_i64 (by omega) (by omega)) ?_
      conv => whnf
      refine Wr.is (y := ((UInt8.ofNat (48 + d)).toNat : Int)) (by rw [wrap_u8, UInt8.toNat_ofNat']; omega) ?_
      generalize UInt8.ofNat (48 + d) = c at hp ⊢
      conv => whnf
      refine Sub.full rfl ?_
      conv => whnf
      refine ⟨⟨[c].toArray⟩, by simp [cB], ?_⟩
      conv => whnf
      refine ⟨by simp [ByteArray.size]; omega, ?_⟩
      conv => whnf
      refine ⟨by omega, ?_⟩
      conv => whnf
      obtain ⟨r, er⟩ : ∃ r : Nat, s.1 / 10 = r := ⟨_, rfl⟩
      rw [show (s.1 : Int).tdiv 10 = r by rw [Int.tdiv_eq_ediv_of_nonneg (by omega)]; omega]
      rw [er] at hp
      refine Wr.fit (wrap_i64 (by omega) (by omega)) ?_
      conv => whnf
      refine ⟨(r, c :: s.2), ⟨by simp; omega, hp⟩, by simp; omega, ⟨?_, rfl, trivial⟩, trivial⟩
      show AV.d (C.s (Value.string (_ ++ _))) = _
      congr 3
    · have h : s.1 = 0 := by simpa using h
      rw [markF, dif_pos h] at hp
      conv => whnf
      refine ⟨?_, ?_, trivial, rfl⟩
      · simp [ByteArray.size]; omega
      · rw [← hp]; congr 2

noncomputable def markQ (k : Nat) : List UInt8 := if h : k ≤ 3000000000 then (fn_markText k h).choose else []
theorem fn_markQ (k : Nat) (h : k ≤ 3000000000) : Fn Tryz.prog 79 [I k] [] (.d (.s (.string ⟨(markQ k).toArray⟩))) [] := by
  unfold markQ; rw [dif_pos h]; exact (fn_markText k h).choose_spec

noncomputable def marksT (k n : Nat) : List (List UInt8) := (List.range n).map fun i => markQ (k + i)
theorem marksT_len (k n : Nat) : (marksT k n).length = n := by simp [marksT]

theorem fn_markT (zs : List (List UInt8)) (n k0 : Nat) (hn : n ≤ zs.length) (hl : n ≤ 1000000) (hk0 : k0 ≤ 2000000000) :
    Fn Tryz.prog 21 [.ls 1000000 0 n 1, I k0] [(1000000, .row true 1 (cT zs))] (I ((k0 + n : Nat) : Int)) [(1000000, .row true 1 (cT (marksT k0 n ++ zs.drop n)))] := by
  have k1 : (marksT k0 n ++ zs.drop n).length = zs.length := by simp [marksT_len]; omega
  refine Fn.intro (ks := [0,1,4,5,9]) hty rfl rfl rfl rfl rfl ?_
  conv => whnf
  refine VLoop.inv hty (S := Nat) (fun k => [(5, I k), (1, I ((k0 + k : Nat) : Int)), (0, .ls 1000000 0 n 1)]) (fun k => [(1000000, .row true 1 (cT (fillL (marksT k0 n ++ zs.drop n) zs k)))]) (fun k => k ≤ n) (fun k => n - k) 0 (Nat.zero_le _)
    ⟨rfl, rfl, rfl, trivial⟩ ⟨by rw [fill_zero]; rfl, trivial⟩ ?_
  intro k hk
  conv => whnf
  refine Br.mk (fun h => ?_) (fun h => ?_)
  · have hk' : k < n := by simp at h; omega
    conv => whnf
    refine VCall.of_data (fn_markQ (k0 + k) (by omega)) (nd _) ?_
    conv => whnf
    refine ⟨by omega, ?_⟩
    conv => whnf
    refine ⟨[.s (.string ⟨((fillL (marksT k0 n ++ zs.drop n) zs k)[k]!).toArray⟩)], by
      have : k < (fillL (marksT k0 n ++ zs.drop n) zs k).length := by rw [fill_len k1]; omega
      simp [cT, this], ?_⟩
    conv => whnf
    refine Wr.fit (wrap_i64 (by omega) (by omega)) ?_
    conv => whnf
    refine Wr.fit (wrap_i64 (by omega) (by omega)) ?_
    conv => whnf
    refine ⟨k + 1, hk', by omega, ⟨rfl, by congr 1, rfl, trivial⟩, ?_, trivial⟩
    show Ob.row true 1 ((cT _).set k [.s (.string ⟨(markQ (k0 + k)).toArray⟩)]) = _
    rw [cT_set, ← fill_set k1 (by omega)]
    congr 3
    rw [List.getElem_append_left (by rw [marksT_len]; exact hk')]; simp [marksT]
  · have hk' : k = n := by simp at h; omega
    subst hk'
    conv => whnf
    refine ⟨rfl, ⟨?_, trivial⟩, rfl⟩
    have : fillL (marksT k0 k ++ zs.drop k) zs k = marksT k0 k ++ zs.drop k := by
      unfold fillL; rw [List.take_append_of_le_length (by simp [marksT_len]), List.take_of_length_le (by simp [marksT_len])]
    rw [this]; rfl


/-- What is left of a room behind texts. -/
def szT : Int → List (List UInt8) → Int
  | n, [] => n
  | n, x :: xs => if n - x.length < 0 then -1 else szT (n - x.length) xs

theorem szT_fits : ∀ (xs : List (List UInt8)) (n : Int), 0 ≤ szT n xs → ∀ x, x ∈ xs → (x.length : Int) ≤ n
  | [], n, _, x, h => by cases h
  | y :: xs, n, h, x, hx => by
      unfold szT at h
      split at h
      · omega
      · rcases List.mem_cons.1 hx with rfl | hx
        · omega
        · have := szT_fits xs _ h x hx; omega

def szTT (n : Int) (xs : List (List UInt8)) : Int := if n - xs.length < 0 then -1 else szT (n - xs.length) xs

theorem fn_szT (xs : List (List UInt8)) (n : Int) (hl : xs.length ≤ 281474976710656) (hs : ∀ x, x ∈ xs → x.length ≤ 281474976710656) (hn : n ≤ 1000000) (hn0 : -281474976710656 ≤ n) : Fn Tryz.prog 15 [lT xs, I n] [] (I (szTT n xs)) [] := by
  refine Fn.intro (ks := [0,1,4,5,11,15,26]) hty rfl rfl rfl rfl rfl ?_
  conv => whnf
  rw [cT_len]
  refine Wr.fit (wrap_i64 (by omega) (by omega)) ?_
  conv => whnf
  unfold szTT
  refine Br.mk (fun h => ?_) (fun h => ?_)
  · have h : n - xs.length < 0 := by simpa using h
    conv => whnf
    refine ⟨?_, trivial, rfl⟩
    rw [if_pos h]
  · have h : ¬ n - (xs.length : Int) < 0 := by simpa using h
    rw [if_neg h]
    conv => whnf
    obtain ⟨m0, e0⟩ : ∃ m0, n - (xs.length : Int) = m0 := ⟨_, rfl⟩
    rw [e0] at h ⊢
    have hm : m0 ≤ n := by omega
    refine VLoop.inv hty (S := Nat × Int) (fun s => [(5, I s.1), (1, I s.2), (0, lT xs)]) (fun _ => []) (fun s => s.1 ≤ xs.length ∧ 0 ≤ s.2 ∧ s.2 ≤ n ∧ szT s.2 (xs.drop s.1) = szT m0 xs) (fun s => xs.length - s.1) (0, m0)
      ⟨Nat.zero_le _, by omega, by omega, rfl⟩ ⟨rfl, rfl, rfl, trivial⟩ trivial ?_
    rintro s ⟨hk, h0, h1, hp⟩
    conv => whnf
    rw [cT_len]
    refine Br.mk (fun h => ?_) (fun h => ?_)
    · have hk' : s.1 < xs.length := by simp at h; omega
      have hx := hs xs[s.1] (List.getElem_mem _)
      rw [List.drop_eq_getElem_cons hk', szT] at hp
      generalize hq : xs[s.1] = x at hp hx
      conv => whnf
      refine ⟨⟨⟨by omega, by rw [cT_len]; omega⟩, cT_sz xs⟩, ?_⟩
      conv => whnf
      refine ⟨[.s (.string ⟨x.toArray⟩)], by simp [cT, hk', hq], ?_⟩
      conv => whnf
      obtain ⟨m1, e1⟩ : ∃ m1, s.2 - (x.length : Int) = m1 := ⟨_, rfl⟩
      rw [show s.2 - (({ data := x.toArray } : ByteArray).size : Int) = m1 from e1]
      rw [e1] at hp
      refine Wr.fit (wrap_i64 (by omega) (by omega)) ?_
      conv => whnf
      refine Br.mk (fun h => ?_) (fun h => ?_)
      · have h : m1 < 0 := by simpa using h
        rw [if_pos h] at hp
        conv => whnf
        refine ⟨?_, trivial, rfl⟩
        rw [← hp]
      · have h : ¬ m1 < 0 := by simpa using h
        rw [if_neg h] at hp
        conv => whnf
        refine Wr.fit (wrap_i64 (by omega) (by omega)) ?_
        conv => whnf
        exact ⟨(s.1 + 1, m1), ⟨by omega, by omega, by omega, hp⟩, by omega, ⟨rfl, rfl, rfl, trivial⟩, trivial⟩
    · have hk' : s.1 = xs.length := by simp at h; omega
      conv => whnf
      refine ⟨?_, trivial, rfl⟩
      rw [← hp, hk', List.drop_length, szT]

end Go.V
/- The law of ServersFor. -/
namespace Go.V
open Go.Proofs Go.RowKit
set_option maxRecDepth 10000
set_option maxHeartbeats 1000000

theorem szTT_fits {n : Int} {xs : List (List UInt8)} (h : 0 ≤ szTT n xs) : (xs.length : Int) ≤ n ∧ ∀ x, x ∈ xs → (x.length : Int) ≤ n := by
  unfold szTT at h
  split at h
  · omega
  · exact ⟨by omega, fun x hx => by have := szT_fits xs _ h x hx; omega⟩

theorem lend_wholeT {id : Nat} {l : LL} {xs ys : List (List UInt8)} (h : lget id l = .row true 1 (cT (xs ++ ys))) : lend1 l (.ls id 0 xs.length 1) (.d (.sl (cT xs))) := by
  unfold lend1
  simp only [h]
  exact ⟨trivial, by simp [cT], by simp [cT]⟩

theorem cW_cI (ns : List Nat) : cW .i64 ns = cI (ns.map Int.ofNat) := by simp [cW, cI]

theorem allO_lenQ {α β : Type} {f : α → Option β} : ∀ {xs : List α} {ys : List β}, allO f xs = some ys → ys.length = xs.length
  | [], ys, h => by cases h; rfl
  | x :: xs, ys, h => by
      unfold allO at h
      split at h
      · next y zs _ e => cases h; simp [allO_lenQ e]
      · cases h

/-- ServersFor hands back no more than it was handed. -/
theorem serversQ_len {loads : List (List UInt8)} {most : List UInt8} {ns : List Nat} (h : serversQ loads most = some ns) : ns.length ≤ loads.length := by
  unfold serversQ at h
  split at h
  · next x y e1 e2 =>
    split at h
    · have := allO_lenQ h
      have := (rdRats_sz e1).2.1
      omega
    · cases h
  · cases h

theorem law_serversFor (xs : List (List UInt8)) (m : List UInt8) (hl0 : xs.length < 2 ^ 47) (hs0 : ∀ x, x ∈ xs → x.length < 2 ^ 47) (hm : m.length < 2 ^ 47) : Fn Tryz.prog 3 [lT xs, Str m] [] (B true) [] := by
  have c0 := fn_szT xs (1000000 - (m.length : Int)) (by omega) (fun x hx => by have := hs0 x hx; omega) (by omega) (by omega)
  refine Fn.intro (ks := [0,1,4,5,6,7,8,9,10,11,12,13,14,15,23,47,52,68,76,79,95,100,103]) hty rfl rfl rfl rfl rfl ?_
  conv => whnf
  obtain ⟨m1, e1⟩ : ∃ m1, 1000000 - (m.length : Int) = m1 := ⟨_, rfl⟩
  rw [show 1000000 - (({ data := m.toArray } : ByteArray).size : Int) = m1 from e1]
  rw [e1] at c0
  refine Wr.fit (wrap_i64 (by omega) (by omega)) ?_
  conv => whnf
  refine VCall.of_data c0 (nd _) ?_
  obtain ⟨m2, e2⟩ : ∃ m2, szTT m1 xs = m2 := ⟨_, rfl⟩
  rw [e2]
  conv => whnf
  refine Br.mk (fun h => ?_) (fun h => ?_)
  · conv => whnf
    exact ⟨rfl, trivial, rfl⟩
  · have h : 0 ≤ m2 := by simpa using h
    have hf := szTT_fits (e2 ▸ h)
    have hl : xs.length ≤ 1000000 := by omega
    have hs : ∀ x, x ∈ xs → x.length ≤ 1000000 := fun x hx => by have := hf.2 x hx; omega
    conv => whnf
    refine VCall.of_data (fn_toTd xs false hl) (nd _) ?_
    conv => whnf
    have cs := fn_sServersFor xs m (by omega) (fun x hx => by have := hs x hx; omega) (by omega)
    have ci := fn_ServersFor xs m (by omega) (fun x hx => by have := hs x hx; omega) (by omega)
    cases hb : serversQ xs m with
    | none =>
      rw [hb] at cs ci
      refine VCall.of_data cs (ndT fun _ => rfl) ?_
      conv => whnf
      refine VCall.of_ls (k := 32) (fn_toT xs false (.inl rfl) hl) rfl ?_
      conv => whnf
      refine VCall.lend ci ⟨lend_wholeT rfl, rfl, trivial⟩ rfl ?_
      conv => whnf
      refine VCall.of_data (fn_eqT [] (by simp)) (nd _) ?_
      conv => whnf
      refine VCall.of_ls (k := 50) (fn_toT xs false (.inl rfl) hl) rfl ?_
      conv => whnf
      refine VCall.par2 32 50 rfl (fn_intactT xs hl) ⟨⟨rfl, rfl, rfl, rfl⟩, ⟨rfl, rfl, rfl, rfl⟩, trivial⟩ rfl rfl ?_
      conv => whnf
      refine VCall.par1 32 (fn_markT (withRoomT xs) xs.length 101 (by simp [withRoomT]) hl (by omega)) ⟨⟨rfl, rfl, rfl, rfl⟩, rfl, trivial⟩ rfl ?_
      conv => whnf
      refine VCall.of_data (fn_eqT [] (by simp)) (nd _) ?_
      conv => whnf
      refine VCall.of_data (fn_markI0 101) (nd _) ?_
      conv => whnf
      refine VCall.of_data (fn_heldI 0 101 (by omega) (by omega)) (nd _) ?_
      conv => whnf
      refine VCall.of_data (fn_toTd xs true hl) (nd _) ?_
      conv => whnf
      refine VCall.of_data ci (ndT fun _ => rfl) ?_
      conv => whnf
      refine VCall.of_data (fn_eqT [] (by simp)) (nd _) ?_
      conv => whnf
      refine VCall.of_data (fn_heldI 0 101 (by omega) (by omega)) (nd _) ?_
      conv => whnf
      exact ⟨rfl, trivial, rfl⟩
    | some ns =>
      have hn := serversQ_len hb
      rw [hb] at cs ci
      have e3 : cW .i64 ns = cI (ns.map Int.ofNat) := cW_cI ns
      have hyl : (ns.map Int.ofNat).length = ns.length := by simp
      have c1 : Fn Tryz.prog 16 [lT xs, Str m] [] (.tup [.d (.sl (cI (ns.map Int.ofNat))), B true]) [] := by rw [← e3]; exact cs
      have c4 : Fn Tryz.prog 18 [lT xs, Str m] [] (.tup [.ls 0 0 (ns.map Int.ofNat).length 1, B true]) [(0, .row true 1 (cI (ns.map Int.ofNat)))] := by rw [← e3, hyl]; exact ci
      have hyl' : (ns.map Int.ofNat).length ≤ 1000000 := by omega
      generalize ns.map Int.ofNat = ys at c1 c4 hyl'
      have c2 := c4.freezeT (by rw [cI_len]; omega) rfl
      rw [show (List.drop 0 (cI ys)).take ys.length = cI ys by rw [List.drop_zero, List.take_of_length_le (by rw [cI_len]; omega)]] at c2
      have c3 := fn_eqT ys (by omega)
      refine VCall.of_data c1 (ndT fun _ => rfl) ?_
      conv => whnf
      refine VCall.of_ls (k := 32) (fn_toT xs false (.inl rfl) hl) rfl ?_
      conv => whnf
      refine VCall.lendT (k := 36) c4 ⟨lend_wholeT rfl, rfl, trivial⟩ (cI_flat _) rfl rfl ?_
      conv => whnf
      refine VCall.lend c3 ⟨lend_all rfl, rfl, trivial⟩ rfl ?_
      conv => whnf
      refine VCall.of_ls (k := 50) (fn_toT xs false (.inl rfl) hl) rfl ?_
      conv => whnf
      refine VCall.par2 32 50 rfl (fn_intactT xs hl) ⟨⟨rfl, rfl, rfl, rfl⟩, ⟨rfl, rfl, rfl, rfl⟩, trivial⟩ rfl rfl ?_
      conv => whnf
      refine VCall.par1 32 (fn_markT (withRoomT xs) xs.length 101 (by simp [withRoomT]) hl (by omega)) ⟨⟨rfl, rfl, rfl, rfl⟩, rfl, trivial⟩ rfl ?_
      conv => whnf
      refine VCall.lend c3 ⟨lend_all rfl, rfl, trivial⟩ rfl ?_
      conv => whnf
      refine VCall.par1 36 (fn_markI ys ys.length 101 (Nat.le_refl _) (by omega) (by omega)) ⟨⟨rfl, rfl, rfl, rfl⟩, rfl, trivial⟩ rfl ?_
      conv => whnf
      have hm : ∀ l : LL, lget 36 l = .row true 1 (cI (marks 101 ys.length ++ List.drop ys.length ys)) → lend1 l (.ls 36 0 ys.length 1) (.d (.sl (cI (marks 101 ys.length)))) := fun l h => by
        have := lend_whole (xs := marks 101 ys.length) h
        rwa [marks_len] at this
      refine VCall.lend (fn_heldI ys.length 101 (by omega) (by omega)) ⟨hm _ rfl, rfl, trivial⟩ rfl ?_
      conv => whnf
      refine Br.mk (fun h => by simp at h) (fun _ => ?_)
      conv => whnf
      refine VCall.of_data (fn_toTd xs true hl) (nd _) ?_
      conv => whnf
      refine VCall.of_data c2 (ndT fun _ => rfl) ?_
      conv => whnf
      refine VCall.of_data c3 (nd _) ?_
      conv => whnf
      refine VCall.lend (fn_heldI ys.length 101 (by omega) (by omega)) ⟨hm _ rfl, rfl, trivial⟩ rfl ?_
      conv => whnf
      refine Br.mk (fun h => by simp at h) (fun _ => ?_)
      conv => whnf
      exact ⟨rfl, trivial, rfl⟩


end Go.V
/- Contracts taken over from the earlier seat. -/
namespace Go.V
open Go.Proofs Go.RowKit
set_option maxRecDepth 10000
set_option maxHeartbeats 1000000

theorem sum_take (xs : List Int) (hs : ∀ x, x ∈ xs → 0 ≤ x ∧ x ≤ 1000000) : ∀ k, k ≤ xs.length → 0 ≤ (xs.take k).sum ∧ (xs.take k).sum ≤ 1000000 * k
  | 0, _ => by simp
  | k + 1, h => by
    have ih := sum_take xs hs k (by omega)
    rw [List.take_succ_eq_append_getElem (by omega), List.sum_append]
    have := hs xs[k] (by simp)
    simp
    omega

theorem fn_total (xs : List Int) (hs : ∀ x, x ∈ xs → 0 ≤ x ∧ x ≤ 1000000) (hl : xs.length ≤ 1000000) : Fn Tryz.prog 151 [.d (.sl (cI xs))] [] (I xs.sum) [] := by
  refine Fn.intro (ks := [0,2,3,5,6,7,8,9]) hty rfl rfl rfl rfl rfl ?_
  conv => whnf
  refine VLoop.inv hty (S := Nat) (fun k => [(8, I k), (7, I (cI xs).length), (6, .d (.sl (cI xs))), (3, I (xs.take k).sum)]) (fun _ => []) (fun k => k ≤ xs.length) (fun k => xs.length - k) 0 (Nat.zero_le _) ⟨rfl, rfl, rfl, rfl, trivial⟩ trivial ?_
  intro k hk
  conv => whnf
  refine Br.mk (fun h => ?_) (fun h => ?_)
  · have hk' : k < xs.length := by simp [cI_len] at h; omega
    conv => whnf
    refine ⟨⟨⟨by omega, by rw [cI_len]; omega⟩, cI_sz xs⟩, ?_⟩
    conv => whnf
    refine ⟨[.s (.int .i64 xs[k])], by simp [cI, hk'], ?_⟩
    conv => whnf
    have h0 := sum_take xs hs k (by omega)
    have h1 := sum_take xs hs (k + 1) (by omega)
    have e : (xs.take k).sum + xs[k] = (xs.take (k + 1)).sum := by rw [List.take_succ_eq_append_getElem hk', List.sum_append]; simp
    refine Wr.fit (wrap_i64 (by omega) (by omega)) ?_
    conv => whnf
    refine Wr.fit (wrap_i64 (by omega) (by omega)) ?_
    conv => whnf
    refine ⟨k + 1, hk', by omega, ⟨rfl, rfl, rfl, ?_, trivial⟩, trivial⟩
    rw [← e]; rfl
  · have hk' : k = xs.length := by simp [cI_len] at h; omega
    conv => whnf
    refine ⟨?_, trivial, rfl⟩
    rw [hk', List.take_length]

def staff (xs : List Int) (n : Int) (h : Nat) : Int := ((xs.take (h + 1)).drop (max ((h : Int) - n + 1) 0).toNat).sum

theorem fn_staffAt (xs : List Int) (n : Int) (hs : ∀ x, x ∈ xs → 0 ≤ x ∧ x ≤ 1000000) (hl : xs.length ≤ 1000000) (hn : 1 ≤ n ∧ n ≤ 1000000) :
    Fn Tryz.prog 92 [.d (.sl (cI xs)), I n] [] (.ls 0 0 xs.length 1) [(0, .row true 1 (cI ((List.range xs.length).map (staff xs n))))] := by
  refine Fn.intro (ks := [0,1,4,5,6,9,10,11]) hty rfl rfl rfl rfl rfl ?_
  conv => whnf
  refine VLoop.ren 7 25 rfl ?_
  refine VLoop.inv hty (S := Nat) (fun k => [(10, I k), (9, I (cI xs).length), (0, .d (.sl (cI xs))), (1, I n), (5, .ls 25 0 k 1)])
    (fun k => [(25, .row true 1 (cI ((List.range k).map (staff xs n))))]) (fun k => k ≤ xs.length) (fun k => xs.length - k) 0 (Nat.zero_le _) ⟨rfl, rfl, rfl, rfl, rfl, trivial⟩ ⟨rfl, trivial⟩ ?_
  intro k hk
  conv => whnf
  refine Br.mk (fun h => ?_) (fun h => ?_)
  · have hk' : k < xs.length := by simp [cI_len] at h; omega
    conv => whnf
    refine Wr.fit (wrap_i64 (by omega) (by omega)) ?_
    conv => whnf
    refine Wr.fit (wrap_i64 (by omega) (by omega)) ?_
    conv => whnf
    refine Wr.fit (wrap_i64 (by omega) (by omega)) ?_
    conv => whnf
    refine ⟨⟨by rw [cI_len]; omega, cI_sz xs⟩, ?_⟩
    conv => whnf
    have hstaff : staff xs n k = (List.drop (max ((k : Int) - n + 1) 0).toNat (List.take ((k : Int) + 1).toNat xs)).sum := by
      unfold staff; rw [show ((k : Int) + 1).toNat = k + 1 by omega]
    have hcall := fn_total (List.drop (max ((k : Int) - n + 1) 0).toNat (List.take ((k : Int) + 1).toNat xs)) (fun x hx => hs x (List.mem_of_mem_take (List.mem_of_mem_drop hx))) (by simp; omega)
    rw [← hstaff] at hcall
    have e : cI (List.drop (max ((k : Int) - n + 1) 0).toNat (List.take ((k : Int) + 1).toNat xs)) = List.drop (max ((k : Int) - n + 1) 0).toNat (List.take ((k : Int) + 1).toNat (cI xs)) := by simp [cI, List.map_drop, List.map_take]
    rw [e] at hcall
    refine VCall.of_data hcall (fun j h => by cases h) ?_
    conv => whnf
    refine ⟨_, rfl, Nat.le_refl _, ?_⟩
    conv => whnf
    refine ⟨_, rfl, by simp [cI], ?_⟩
    conv => whnf
    refine ⟨by show (k + 1) * 8 ≤ _; omega, ?_⟩
    conv => whnf
    refine Wr.fit (wrap_i64 (by omega) (by omega)) ?_
    conv => whnf
    refine ⟨k + 1, hk', by omega, ⟨rfl, rfl, rfl, rfl, rfl, trivial⟩, ?_, trivial⟩
    show Ob.row true 1 (List.take k (cI (List.map (staff xs n) (List.range k))) ++ [[C.s (Value.int IntKind.i64 (staff xs n k))]]) = _
    have h1 : List.take k (cI (List.map (staff xs n) (List.range k))) = cI (List.map (staff xs n) (List.range k)) := List.take_of_length_le (by simp [cI])
    rw [h1]
    congr 1
    simp [cI, List.range_succ]
  · have hk' : k = xs.length := by simp [cI_len] at h; omega
    subst hk'
    conv => whnf
    exact ⟨⟨rfl, rfl, rfl, rfl, rfl, rfl⟩, [], rfl, trivial, rfl⟩

theorem fn_hours1 (n : Int) : Fn Tryz.prog 192 [I n] [] (B (!(decide (0 ≤ n) && decide (n ≤ 1000)))) [] := by
  refine Fn.intro (ks := [0,2]) hty rfl rfl rfl rfl rfl ?_
  conv => whnf
  refine VCall.of_data (fn_in n 0 1000) (fun j h => by cases h) ?_
  conv => whnf
  exact ⟨rfl, trivial, rfl⟩

def idx (p : Int → Bool) (xs : List Int) : Int := if xs.any p then xs.findIdx p else -1

theorem fn_index (g : Nat) (p : Int → Bool) (xs : List Int) (hl : xs.length ≤ 1000000) (hg : ∀ x, x ∈ xs → Fn Tryz.prog g [I x] [] (B (p x)) []) : Fn Tryz.prog 197 [.d (.sl (cI xs)), .d (.fn g [])] [] (I (idx p xs)) [] := by
  refine Fn.intro (ks := [0,1,4,5,7,8,9,16]) hty rfl rfl rfl rfl rfl ?_
  conv => whnf
  refine VLoop.inv hty (S := Nat) (fun k => [(8, I k), (7, I (cI xs).length), (0, .d (.sl (cI xs))), (1, .d (.fn g []))]) (fun _ => []) (fun k => k ≤ xs.length ∧ ∀ j (h : j < xs.length), j < k → p xs[j] = false) (fun k => xs.length - k) 0 ⟨Nat.zero_le _, fun j _ h => by omega⟩ ⟨rfl, rfl, rfl, rfl, trivial⟩ trivial ?_
  rintro k ⟨hk, hp⟩
  conv => whnf
  refine Br.mk (fun h => ?_) (fun h => ?_)
  · have hk' : k < xs.length := by simp [cI_len] at h; omega
    conv => whnf
    refine ⟨⟨⟨by omega, by rw [cI_len]; omega⟩, cI_sz xs⟩, ?_⟩
    conv => whnf
    refine ⟨[.s (.int .i64 xs[k])], by simp [cI, hk'], ?_⟩
    conv => whnf
    refine VCall.of_data (hg xs[k] (by simp)) (fun j h => by cases h) ?_
    conv => whnf
    refine Br.mk (fun h2 => ?_) (fun h2 => ?_)
    · conv => whnf
      refine ⟨?_, trivial, rfl⟩
      have h3 : xs.any p = true := List.any_eq_true.2 ⟨xs[k], by simp, h2⟩
      have h4 : xs.findIdx p = k := (List.findIdx_eq hk').2 ⟨h2, fun j hj => hp j (by omega) hj⟩
      simp [idx, h3, h4]
    · conv => whnf
      refine Wr.fit (wrap_i64 (by omega) (by omega)) ?_
      conv => whnf
      exact ⟨k + 1, ⟨hk', fun j hj hjk => by
        rcases Nat.lt_or_ge j k with h5 | h5
        · exact hp j hj h5
        · have : j = k := by omega
          subst this; exact h2⟩, by omega, ⟨rfl, rfl, rfl, rfl, trivial⟩, trivial⟩
  · have hk' : k = xs.length := by simp [cI_len] at h; omega
    conv => whnf
    refine ⟨?_, trivial, rfl⟩
    have h3 : xs.any p = false := List.any_eq_false.2 fun x hx => by
      obtain ⟨j, hj, rfl⟩ := List.mem_iff_getElem.1 hx
      simp [hp j hj (by omega)]
    simp [idx, h3]

theorem fn_contains (g : Nat) (p : Int → Bool) (xs : List Int) (hl : xs.length ≤ 1000000) (hg : ∀ x, x ∈ xs → Fn Tryz.prog g [I x] [] (B (p x)) []) : Fn Tryz.prog 160 [.d (.sl (cI xs)), .d (.fn g [])] [] (B (xs.any p)) [] := by
  refine Fn.intro (ks := [0,1,4]) hty rfl rfl rfl rfl rfl ?_
  conv => whnf
  refine VCall.of_data (fn_index g p xs hl hg) (fun j h => by cases h) ?_
  conv => whnf
  refine ⟨?_, trivial, rfl⟩
  unfold idx
  cases xs.any p <;> simp


def hoursB (xs : List Int) (n : Int) : Bool := ((decide (1 ≤ (xs.length : Int)) && decide ((xs.length : Int) ≤ 48)) && (decide (1 ≤ n) && decide (n ≤ xs.length))) && !(xs.any fun x => !(decide (0 ≤ x) && decide (x ≤ 1000)))

theorem fn_hoursOk (xs : List Int) (n : Int) (hl : xs.length ≤ 1000000) : Fn Tryz.prog 150 [.d (.sl (cI xs)), I n] [] (B (hoursB xs n)) [] := by
  refine Fn.intro (ks := [0,1,4,5]) hty rfl rfl rfl rfl rfl ?_
  conv => whnf
  rw [cI_len]
  have c1 := fn_in xs.length 1 48
  have c2 := fn_in n 1 xs.length
  have c3 := fn_contains 192 _ xs hl (fun x _ => fn_hours1 x)
  generalize h1 : (decide (1 ≤ (xs.length : Int)) && decide ((xs.length : Int) ≤ 48)) = b1 at c1
  generalize h2 : (decide (1 ≤ n) && decide (n ≤ (xs.length : Int))) = b2 at c2
  generalize h3 : (xs.any fun x => !(decide (0 ≤ x) && decide (x ≤ 1000))) = b3 at c3
  have hB : hoursB xs n = ((b1 && b2) && !b3) := by rw [hoursB, h1, h2, h3]
  refine VCall.of_data c1 (fun j h => by cases h) ?_
  conv => whnf
  refine Br.mk (fun e1 => ?_) (fun e1 => ?_)
  · conv => whnf
    refine VCall.of_data c2 (fun j h => by cases h) ?_
    conv => whnf
    subst e1
    conv => whnf
    refine Br.mk (fun e2 => ?_) (fun e2 => ?_)
    · conv => whnf
      refine VCall.of_data c3 (fun j h => by cases h) ?_
      conv => whnf
      exact ⟨by rw [hB, e2]; cases b3 <;> rfl, trivial, rfl⟩
    · conv => whnf
      exact ⟨by rw [hB, e2]; rfl, trivial, rfl⟩
  · conv => whnf
    exact ⟨by rw [hB, e1]; rfl, trivial, rfl⟩

theorem fn_starts1 (n : Int) : Fn Tryz.prog 161 [I n] [] (B (decide (0 < n))) [] := by
  refine Fn.intro (ks := [0,2]) hty rfl rfl rfl rfl rfl ?_
  conv => whnf
  exact ⟨rfl, trivial, rfl⟩

def startsB (xs : List Int) (n : Int) : Bool := hoursB xs n && !((xs.drop ((xs.length : Int) - n + 1).toNat).any fun x => decide (0 < x))

theorem hoursB_n {xs : List Int} {n : Int} (h : hoursB xs n = true) : 1 ≤ xs.length ∧ xs.length ≤ 48 ∧ 1 ≤ n ∧ n ≤ xs.length ∧ ∀ x, x ∈ xs → 0 ≤ x ∧ x ≤ 1000 := by
  simp [hoursB] at h
  obtain ⟨⟨⟨h1, h2⟩, h3, h4⟩, h5⟩ := h
  exact ⟨by omega, by omega, h3, h4, fun x hx => h5 x hx⟩

theorem fn_startsOk (xs : List Int) (n : Int) (hl : xs.length ≤ 1000000) : Fn Tryz.prog 90 [.d (.sl (cI xs)), I n] [] (B (startsB xs n)) [] := by
  refine Fn.intro (ks := [0,1,4,7,8]) hty rfl rfl rfl rfl rfl ?_
  conv => whnf
  have c1 := fn_hoursOk xs n hl
  generalize h1 : hoursB xs n = b1 at c1
  refine VCall.of_data c1 (fun j h => by cases h) ?_
  conv => whnf
  cases b1 with
  | false =>
    conv => whnf
    exact ⟨by rw [startsB, h1]; rfl, trivial, rfl⟩
  | true =>
    obtain ⟨g1, g2, g3, g4, g5⟩ := hoursB_n h1
    conv => whnf
    rw [cI_len]
    refine Wr.fit (wrap_i64 (by omega) (by omega)) ?_
    conv => whnf
    refine Wr.fit (wrap_i64 (by omega) (by omega)) ?_
    conv => whnf
    refine ⟨⟨by rw [cI_len]; omega, cI_sz xs⟩, ?_⟩
    conv => whnf
    have c2 := fn_contains 161 _ (xs.drop ((xs.length : Int) - n + 1).toNat) (by simp; omega) (fun x _ => fn_starts1 x)
    generalize h2 : ((xs.drop ((xs.length : Int) - n + 1).toNat).any fun x => decide (0 < x)) = b2 at c2
    have e : cI (xs.drop ((xs.length : Int) - n + 1).toNat) = List.drop ((xs.length : Int) - n + 1).toNat (List.take ((cI xs).length : Int).toNat (cI xs)) := by
      rw [List.take_of_length_le (by simp)]; simp [cI, List.map_drop]
    rw [e] at c2
    refine VCall.of_data c2 (fun j h => by cases h) ?_
    conv => whnf
    exact ⟨by rw [startsB, h1, h2]; rfl, trivial, rfl⟩


theorem fn_l00In (n a b : Int) : Fn Tryz.prog 148 [I n, I a, I b] [] (B (decide (a ≤ n) && decide (n ≤ b))) [] := by
  refine Fn.intro (ks := [0,1,2,6]) hty rfl rfl rfl rfl rfl ?_
  conv => whnf
  refine Br.mk (fun h => ?_) (fun h => ?_)
  · conv => whnf
    exact ⟨by rw [h]; rfl, trivial, rfl⟩
  · conv => whnf
    exact ⟨by rw [h]; rfl, trivial, rfl⟩

theorem fn_l00Max (a b : Int) : Fn Tryz.prog 152 [I a, I b] [] (I (max a b)) [] := by
  refine Fn.intro (ks := [0,1,4,7]) hty rfl rfl rfl rfl rfl ?_
  conv => whnf
  refine Br.mk (fun h => ?_) (fun h => ?_)
  · conv => whnf
    have : b < a := by simpa using h
    exact ⟨by rw [show max a b = a by omega], trivial, rfl⟩
  · conv => whnf
    have : ¬ b < a := by simpa using h
    exact ⟨by rw [show max a b = b by omega], trivial, rfl⟩

def numsB (xs : List Int) : Bool := (decide (1 ≤ (xs.length : Int)) && decide ((xs.length : Int) ≤ 48)) && xs.all fun x => (decide (0 ≤ x) && decide (x ≤ 1000))

theorem fn_l10Numbers (xs : List Int) (hl : xs.length ≤ 1000000) : Fn Tryz.prog 147 [.d (.sl (cI xs))] [] (B (numsB xs)) [] := by
  refine Fn.intro (ks := [0,2,3,11,15,23]) hty rfl rfl rfl rfl rfl ?_
  conv => whnf
  rw [cI_len]
  have small : ¬ (1 ≤ (xs.length : Int) ∧ (xs.length : Int) ≤ 48) → numsB xs = false := fun h => by
    have : (decide (1 ≤ (xs.length : Int)) && decide ((xs.length : Int) ≤ 48)) = false := by
      simp only [Bool.and_eq_false_iff, decide_eq_false_iff_not]; omega
    rw [numsB, this]; rfl
  have loop : 1 ≤ (xs.length : Int) → (xs.length : Int) ≤ 48 → ∀ Q : Ex → TL → LL → Prop, True := fun _ _ _ => trivial
  refine Br.mk (fun h => ?_) (fun h => ?_)
  · conv => whnf
    have h : (xs.length : Int) < 1 := by simpa using h
    exact ⟨by rw [small (by omega)], trivial, rfl⟩
  · have h : ¬ (xs.length : Int) < 1 := by simpa using h
    conv => whnf
    rw [cI_len]
    refine Br.mk (fun h2 => ?_) (fun h2 => ?_)
    · conv => whnf
      have h2 : 48 < (xs.length : Int) := by simpa using h2
      exact ⟨by rw [small (by omega)], trivial, rfl⟩
    · have h2 : ¬ 48 < (xs.length : Int) := by simpa using h2
      conv => whnf
      refine VLoop.inv hty (S := Nat) (fun k => [(3, I k), (0, .d (.sl (cI xs)))]) (fun _ => []) (fun k => k ≤ xs.length ∧ ∀ j (h : j < xs.length), j < k → (decide (0 ≤ xs[j]) && decide (xs[j] ≤ 1000)) = true) (fun k => xs.length - k) 0 ⟨Nat.zero_le _, fun j _ h => by omega⟩ ⟨rfl, rfl, trivial⟩ trivial ?_
      rintro k ⟨hk, hp⟩
      conv => whnf
      rw [cI_len]
      refine Br.mk (fun h3 => ?_) (fun h3 => ?_)
      · have hk' : k < xs.length := by simp at h3; omega
        conv => whnf
        refine ⟨⟨⟨by omega, by rw [cI_len]; omega⟩, cI_sz xs⟩, ?_⟩
        conv => whnf
        refine ⟨[.s (.int .i64 xs[k])], by simp [cI, hk'], ?_⟩
        conv => whnf
        have c1 := fn_l00In xs[k] 0 1000
        generalize h4 : (decide (0 ≤ xs[k]) && decide (xs[k] ≤ 1000)) = b at c1
        refine VCall.of_data c1 (fun j h => by cases h) ?_
        conv => whnf
        cases b with
        | false =>
          conv => whnf
          refine ⟨?_, trivial, rfl⟩
          have : (xs.all fun x => (decide (0 ≤ x) && decide (x ≤ 1000))) = false := by
            rw [List.all_eq_false]; exact ⟨xs[k], by simp, by rw [h4]; simp⟩
          rw [numsB, this, Bool.and_false]
        | true =>
          conv => whnf
          refine Wr.fit (wrap_i64 (by omega) (by omega)) ?_
          conv => whnf
          refine ⟨k + 1, ⟨hk', fun j hj hjk => ?_⟩, by omega, ⟨rfl, rfl, trivial⟩, trivial⟩
          rcases Nat.lt_or_ge j k with h5 | h5
          · exact hp j hj h5
          · have : j = k := by omega
            subst this; exact h4
      · have hk' : k = xs.length := by simp at h3; omega
        conv => whnf
        refine ⟨?_, trivial, rfl⟩
        have e1 : (xs.all fun x => (decide (0 ≤ x) && decide (x ≤ 1000))) = true := List.all_eq_true.2 fun x hx => by
          obtain ⟨j, hj, rfl⟩ := List.mem_iff_getElem.1 hx
          exact hp j hj (by omega)
        have e2 : (decide (1 ≤ (xs.length : Int)) && decide ((xs.length : Int) ≤ 48)) = true := by simp; omega
        rw [numsB, e1, e2]; rfl

def zerosFrom (xs : List Int) (i : Nat) : Bool := (List.range xs.length).all fun j => decide (j < i) || decide (xs.getD j 0 = 0)
def startsS (xs : List Int) (n : Int) : Bool := (numsB xs && (decide (1 ≤ n) && decide (n ≤ (xs.length : Int)))) && zerosFrom xs ((xs.length : Int) - n + 1).toNat

theorem numsB_n {xs : List Int} (h : numsB xs = true) : 1 ≤ xs.length ∧ xs.length ≤ 48 ∧ ∀ x, x ∈ xs → 0 ≤ x ∧ x ≤ 1000 := by
  simp [numsB] at h
  obtain ⟨⟨h1, h2⟩, h5⟩ := h
  exact ⟨by omega, by omega, fun x hx => h5 x hx⟩

theorem fn_l10Starts (xs : List Int) (n : Int) (hl : xs.length ≤ 1000000) : Fn Tryz.prog 83 [.d (.sl (cI xs)), I n] [] (B (startsS xs n)) [] := by
  refine Fn.intro (ks := [0,1,4,5,6,17,24,31]) hty rfl rfl rfl rfl rfl ?_
  conv => whnf
  have c1 := fn_l10Numbers xs hl
  have c2 := fn_l00In n 1 xs.length
  generalize h1 : numsB xs = b1 at c1
  generalize h2 : (decide (1 ≤ n) && decide (n ≤ (xs.length : Int))) = b2 at c2
  refine VCall.of_data c1 (fun j h => by cases h) ?_
  conv => whnf
  cases b1 with
  | false =>
    conv => whnf
    exact ⟨by rw [startsS, h1]; rfl, trivial, rfl⟩
  | true =>
    obtain ⟨g1, g2, g5⟩ := numsB_n h1
    conv => whnf
    rw [cI_len]
    refine VCall.of_data c2 (fun j h => by cases h) ?_
    conv => whnf
    cases b2 with
    | false =>
      conv => whnf
      exact ⟨by rw [startsS, h1, h2]; rfl, trivial, rfl⟩
    | true =>
      have hn : 1 ≤ n ∧ n ≤ xs.length := by simpa using h2
      conv => whnf
      refine Wr.fit (wrap_i64 (by omega) (by omega)) ?_
      conv => whnf
      refine Wr.fit (wrap_i64 (by omega) (by omega)) ?_
      conv => whnf
      refine VLoop.inv hty (S := Nat) (fun k => [(6, I k), (5, I xs.length), (0, .d (.sl (cI xs)))]) (fun _ => []) (fun k => k ≤ xs.length ∧ ((xs.length : Int) - n + 1).toNat ≤ k ∧ ∀ j, j < k → ((xs.length : Int) - n + 1).toNat ≤ j → xs.getD j 0 = 0) (fun k => xs.length - k) ((xs.length : Int) - n + 1).toNat ⟨by omega, Nat.le_refl _, fun j h h' => by omega⟩ ⟨by show I _ = I _; rw [Int.toNat_of_nonneg (by omega)], rfl, rfl, trivial⟩ trivial ?_
      rintro k ⟨hk, hk0, hp⟩
      conv => whnf
      refine Br.mk (fun h3 => ?_) (fun h3 => ?_)
      · have hk' : k < xs.length := by simp at h3; omega
        have hx : xs.getD k 0 = xs[k] := by simp [List.getD_eq_getElem?_getD, hk']
        conv => whnf
        refine ⟨⟨⟨by omega, by rw [cI_len]; omega⟩, cI_sz xs⟩, ?_⟩
        conv => whnf
        refine ⟨[.s (.int .i64 xs[k])], by simp [cI, hk'], ?_⟩
        conv => whnf
        refine Br.mk (fun h4 => ?_) (fun h4 => ?_)
        · have h4 : xs[k] ≠ 0 := by simpa using h4
          conv => whnf
          refine ⟨?_, trivial, rfl⟩
          have : zerosFrom xs ((xs.length : Int) - n + 1).toNat = false := by
            rw [zerosFrom, List.all_eq_false]
            exact ⟨k, by simpa using hk', by rw [hx]; simp; exact ⟨by omega, h4⟩⟩
          rw [startsS, this, Bool.and_false]
        · have h4 : xs[k] = 0 := by simpa using h4
          conv => whnf
          refine Wr.fit (wrap_i64 (by omega) (by omega)) ?_
          conv => whnf
          refine ⟨k + 1, ⟨hk', by omega, fun j hj hj0 => ?_⟩, by omega, ⟨rfl, rfl, rfl, trivial⟩, trivial⟩
          rcases Nat.lt_or_ge j k with h5 | h5
          · exact hp j h5 hj0
          · have : j = k := by omega
            subst this; rw [hx]; exact h4
      · have hk' : k = xs.length := by simp at h3; omega
        conv => whnf
        refine ⟨?_, trivial, rfl⟩
        have : zerosFrom xs ((xs.length : Int) - n + 1).toNat = true := by
          rw [zerosFrom, List.all_eq_true]
          intro j hj
          simp at hj
          rcases Nat.lt_or_ge j ((xs.length : Int) - n + 1).toNat with h5 | h5
          · simp [h5]
          · simp only [Bool.or_eq_true, decide_eq_true_eq]; exact .inr (hp j (by omega) h5)
        rw [startsS, h1, h2, this]; rfl

theorem part_succ (xs : List Int) (a i : Nat) (ha : a ≤ i) (hi : i < xs.length) : ((xs.take (i + 1)).drop a).sum = ((xs.take i).drop a).sum + xs[i] := by
  rw [List.take_succ_eq_append_getElem hi, List.drop_append_of_le_length (by simp; omega), List.sum_append]; simp

theorem part_bound (xs : List Int) (hs : ∀ x, x ∈ xs → 0 ≤ x ∧ x ≤ 1000000) (a i : Nat) : 0 ≤ ((xs.take i).drop a).sum ∧ ((xs.take i).drop a).sum ≤ 1000000 * xs.length := by
  have h := sum_take ((xs.take i).drop a) (fun x hx => hs x (List.mem_of_mem_take (List.mem_of_mem_drop hx))) _ (Nat.le_refl _)
  rw [List.take_length] at h
  have : ((xs.take i).drop a).length ≤ xs.length := by simp; omega
  omega

theorem fn_l10Staff (xs : List Int) (n : Int) (hs : ∀ x, x ∈ xs → 0 ≤ x ∧ x ≤ 1000000) (hl : xs.length ≤ 1000000) (hn : 1 ≤ n ∧ n ≤ 1000000) :
    Fn Tryz.prog 84 [.d (.sl (cI xs)), I n] [] (.ls 0 0 xs.length 1) [(0, .row true 1 (cI ((List.range xs.length).map (staff xs n))))] := by
  refine Fn.intro (ks := [0,1,4,5,6,7,8,13,23]) hty rfl rfl rfl rfl rfl ?_
  conv => whnf
  refine VLoop.ren 9 35 rfl ?_
  refine VLoop.inv hty (S := Nat) (fun k => [(6, I k), (0, .d (.sl (cI xs))), (1, I n), (5, .ls 35 0 k 1)])
    (fun k => [(35, .row true 1 (cI ((List.range k).map (staff xs n))))]) (fun k => k ≤ xs.length) (fun k => xs.length - k) 0 (Nat.zero_le _) ⟨rfl, rfl, rfl, rfl, trivial⟩ ⟨rfl, trivial⟩ ?_
  intro k hk
  conv => whnf
  rw [cI_len]
  refine Br.mk (fun h => ?_) (fun h => ?_)
  · have hk' : k < xs.length := by simp at h; omega
    conv => whnf
    refine Wr.fit (wrap_i64 (by omega) (by omega)) ?_
    conv => whnf
    refine Wr.fit (wrap_i64 (by omega) (by omega)) ?_
    conv => whnf
    refine VCall.of_data (fn_l00Max 0 ((k : Int) - n + 1)) (fun j h => by cases h) ?_
    conv => whnf
    refine VLoop.inv hty (S := Nat) (fun i => [(8, I i), (7, I ((xs.take i).drop (max ((k : Int) - n + 1) 0).toNat).sum), (6, I k), (0, .d (.sl (cI xs))), (1, I n), (5, .ls 35 0 k 1)])
      (fun _ => [(35, .row true 1 (cI ((List.range k).map (staff xs n))))]) (fun i => i ≤ k + 1 ∧ (max ((k : Int) - n + 1) 0).toNat ≤ i) (fun i => k + 1 - i) (max ((k : Int) - n + 1) 0).toNat ⟨by omega, Nat.le_refl _⟩
      ⟨by show I _ = I _; congr 3; omega, by show I 0 = I _; rw [List.drop_of_length_le (by simp; omega)]; rfl, rfl, rfl, rfl, rfl, trivial⟩ ⟨rfl, trivial⟩ ?_
    rintro i ⟨hi, ha⟩
    conv => whnf
    refine Br.mk (fun h2 => ?_) (fun h2 => ?_)
    · have hi' : i ≤ k := by simp at h2; omega
      conv => whnf
      refine ⟨⟨⟨by omega, by rw [cI_len]; omega⟩, cI_sz xs⟩, ?_⟩
      conv => whnf
      refine ⟨[.s (.int .i64 xs[i])], by simp [cI], ?_⟩
      conv => whnf
      have e := part_succ xs (max ((k : Int) - n + 1) 0).toNat i ha (by omega)
      have b := part_bound xs hs (max ((k : Int) - n + 1) 0).toNat (i + 1)
      refine Wr.fit (wrap_i64 (by omega) (by omega)) ?_
      conv => whnf
      refine Wr.fit (wrap_i64 (by omega) (by omega)) ?_
      conv => whnf
      refine ⟨i + 1, ⟨by omega, by omega⟩, by omega, ⟨rfl, ?_, rfl, rfl, rfl, rfl, trivial⟩, ⟨rfl, trivial⟩⟩
      rw [e]; rfl
    · have hi' : i = k + 1 := by simp at h2; omega
      subst hi'
      conv => whnf
      refine ⟨_, rfl, Nat.le_refl _, ?_⟩
      conv => whnf
      refine ⟨_, rfl, by simp [cI], ?_⟩
      conv => whnf
      refine ⟨by show (k + 1) * 8 ≤ _; omega, ?_⟩
      conv => whnf
      refine Wr.fit (wrap_i64 (by omega) (by omega)) ?_
      conv => whnf
      refine ⟨k + 1, hk', by omega, ⟨rfl, rfl, rfl, rfl, trivial⟩, ?_, trivial⟩
      show Ob.row true 1 (List.take k (cI (List.map (staff xs n) (List.range k))) ++ [[C.s (Value.int IntKind.i64 (staff xs n k))]]) = _
      have h1 : List.take k (cI (List.map (staff xs n) (List.range k))) = cI (List.map (staff xs n) (List.range k)) := List.take_of_length_le (by simp [cI])
      rw [h1]
      congr 1
      simp [cI, List.range_succ]
  · have hk' : k = xs.length := by simp at h; omega
    subst hk'
    conv => whnf
    exact ⟨⟨rfl, rfl, rfl, rfl, rfl, rfl⟩, [], rfl, trivial, rfl⟩


theorem hoursB_iff (xs : List Int) (n : Int) : hoursB xs n = true ↔ (1 ≤ xs.length ∧ xs.length ≤ 48) ∧ (1 ≤ n ∧ n ≤ xs.length) ∧ ∀ x, x ∈ xs → 0 ≤ x ∧ x ≤ 1000 := by
  simp only [hoursB, Bool.and_eq_true, decide_eq_true_eq, Bool.not_eq_true', List.any_eq_false]
  constructor
  · rintro ⟨⟨⟨h1, h2⟩, h3, h4⟩, h5⟩
    exact ⟨⟨by omega, by omega⟩, ⟨h3, h4⟩, fun x hx => by have := h5 x hx; simp at this; exact this⟩
  · rintro ⟨⟨h1, h2⟩, ⟨h3, h4⟩, h5⟩
    exact ⟨⟨⟨by omega, by omega⟩, h3, h4⟩, fun x hx => by have := h5 x hx; simp; exact this⟩

theorem numsB_iff (xs : List Int) : numsB xs = true ↔ (1 ≤ xs.length ∧ xs.length ≤ 48) ∧ ∀ x, x ∈ xs → 0 ≤ x ∧ x ≤ 1000 := by
  simp only [numsB, Bool.and_eq_true, decide_eq_true_eq, List.all_eq_true]
  constructor
  · rintro ⟨⟨h1, h2⟩, h5⟩
    exact ⟨⟨by omega, by omega⟩, h5⟩
  · rintro ⟨⟨h1, h2⟩, h5⟩
    exact ⟨⟨by omega, by omega⟩, h5⟩

theorem starts_eq (ys : List Int) (n : Int) : startsB ys n = startsS ys n := by
  rw [Bool.eq_iff_iff]
  unfold startsB startsS
  simp only [Bool.and_eq_true, hoursB_iff, numsB_iff, decide_eq_true_eq, Bool.not_eq_true', List.any_eq_false, zerosFrom, List.all_eq_true, List.mem_range, Bool.or_eq_true]
  constructor
  · rintro ⟨⟨h1, h2, h3⟩, h4⟩
    refine ⟨⟨⟨h1, h3⟩, h2⟩, fun j hj => ?_⟩
    by_cases hlt : j < ((ys.length : Int) - n + 1).toNat
    · exact .inl hlt
    · refine .inr ?_
      have hm : ys[j] ∈ ys.drop ((ys.length : Int) - n + 1).toNat := by
        rw [List.mem_iff_getElem]
        exact ⟨j - ((ys.length : Int) - n + 1).toNat, by simp; omega, by rw [List.getElem_drop]; congr 1; omega⟩
      have h5 := h4 _ hm
      have h6 := h3 ys[j] (by simp)
      have e : ys.getD j 0 = ys[j] := by simp [List.getD_eq_getElem?_getD, hj]
      rw [e]
      omega
  · rintro ⟨⟨⟨h1, h3⟩, h2⟩, h4⟩
    refine ⟨⟨h1, h2, h3⟩, fun x hx => ?_⟩
    rw [List.mem_iff_getElem] at hx
    obtain ⟨k, hk, rfl⟩ := hx
    rw [List.getElem_drop]
    have hk' : ((ys.length : Int) - n + 1).toNat + k < ys.length := by simp at hk; omega
    have := h4 _ hk'
    rw [show ys.getD (((ys.length : Int) - n + 1).toNat + k) 0 = ys[((ys.length : Int) - n + 1).toNat + k] by simp [List.getD_eq_getElem?_getD, hk']] at this
    rcases this with h | h
    · omega
    · omega


/-- All hours' staff. -/
def staffs (xs : List Int) (n : Int) : List Int := (List.range xs.length).map (staff xs n)
theorem staffs_len (xs : List Int) (n : Int) : (staffs xs n).length = xs.length := by simp [staffs]

theorem startsB_n {xs : List Int} {n : Int} (h : startsB xs n = true) : 1 ≤ xs.length ∧ xs.length ≤ 48 ∧ 1 ≤ n ∧ n ≤ xs.length ∧ ∀ x, x ∈ xs → 0 ≤ x ∧ x ≤ 1000 := by
  unfold startsB at h
  simp only [Bool.and_eq_true] at h
  exact hoursB_n h.1


theorem sum_le {xs : List Int} {m : Int} (h : ∀ x, x ∈ xs → 0 ≤ x ∧ x ≤ m) : 0 ≤ xs.sum ∧ xs.sum ≤ m * xs.length := by
  induction xs with
  | nil => simp
  | cons x r ih =>
    obtain ⟨h1, h2⟩ := ih fun y hy => h y (by simp [hy])
    obtain ⟨h3, h4⟩ := h x (by simp)
    simp only [List.sum_cons, List.length_cons]
    refine ⟨by omega, ?_⟩
    have : m * ((r.length + 1 : Nat) : Int) = m * r.length + m := by rw [Int.natCast_add, Int.mul_add]; simp
    omega

theorem staff_le {ys : List Int} {n : Int} (h : ∀ x, x ∈ ys → 0 ≤ x ∧ x ≤ 1000) (hl : ys.length ≤ 48) (k : Nat) : 0 ≤ staff ys n k ∧ staff ys n k ≤ 48000 := by
  unfold staff
  have h1 := sum_le (xs := (ys.take (k + 1)).drop (max ((k : Int) - n + 1) 0).toNat) (m := 1000) fun x hx => h x (List.mem_of_mem_take (List.mem_of_mem_drop hx))
  have h2 : ((ys.take (k + 1)).drop (max ((k : Int) - n + 1) 0).toNat).length ≤ 48 := by simp; omega
  omega

theorem staffs_mem {ys : List Int} {n : Int} (h : ∀ x, x ∈ ys → 0 ≤ x ∧ x ≤ 1000) (hl : ys.length ≤ 48) : ∀ x, x ∈ staffs ys n → 0 ≤ x ∧ x ≤ 48000 := by
  intro x hx
  obtain ⟨k, _, rfl⟩ := List.mem_map.1 hx
  exact staff_le h hl k

end Go.V
/- Contracts taken over from the earlier seat. -/
namespace Go.V
open Go.Proofs Go.RowKit
set_option maxRecDepth 10000
set_option maxHeartbeats 1000000

def lackAt (xs : List Int) (n : Int) (s : List Int) (h : Nat) : Int := xs.getD h 0 - staff s n h
def atI (xs : List Int) (n : Int) (h : Nat) : Nat := (min (h : Int) ((xs.length : Int) - n)).toNat
def stepL (xs : List Int) (n : Int) (s : List Int) (h : Nat) : List Int := if 0 < lackAt xs n s h then s.set (atI xs n h) (s.getD (atI xs n h) 0 + lackAt xs n s h) else s
def least' (xs : List Int) (n : Int) : Nat → List Int
  | 0 => List.replicate xs.length 0
  | k + 1 => stepL xs n (least' xs n k) k

theorem getD_set (s : List Int) (a i : Nat) (v : Int) : (s.set a v).getD i 0 = if a = i ∧ a < s.length then v else s.getD i 0 := by
  simp only [List.getD_eq_getElem?_getD, List.getElem?_set]
  by_cases h : a = i
  · subst h
    by_cases h2 : a < s.length
    · simp [h2]
    · simp [h2]
  · simp [h]

theorem sum_set : ∀ (s : List Int) (a : Nat) (v : Int), a < s.length → (s.set a v).sum = s.sum - s.getD a 0 + v
  | [], a, v, h => by simp at h
  | x :: r, 0, v, _ => by simp; omega
  | x :: r, a + 1, v, h => by
    have := sum_set r a v (by simpa using h)
    simp only [List.set_cons_succ, List.sum_cons, List.getD_cons_succ, this]; omega

theorem getD_mem {s : List Int} {p : Int → Prop} (h : ∀ x, x ∈ s → p x) {i : Nat} (hi : i < s.length) : p (s.getD i 0) := by
  rw [show s.getD i 0 = s[i] by simp [List.getD_eq_getElem?_getD, hi]]
  exact h _ (by simp)

theorem mem_getD {s : List Int} {p : Int → Prop} (h : ∀ i, i < s.length → p (s.getD i 0)) : ∀ x, x ∈ s → p x := by
  intro x hx
  obtain ⟨i, hi, rfl⟩ := List.mem_iff_getElem.1 hx
  have := h i hi
  rwa [show s.getD i 0 = s[i] by simp [List.getD_eq_getElem?_getD, hi]] at this

section
variable {xs : List Int} {n : Int} (hn : 1 ≤ n ∧ n ≤ xs.length) (hx : ∀ x, x ∈ xs → 0 ≤ x ∧ x ≤ 1000)

theorem least_len (k : Nat) : (least' xs n k).length = xs.length := by
  induction k with
  | zero => simp [least']
  | succ k ih => unfold least' stepL; split <;> simp [ih]

theorem staff_nn {s : List Int} (h : ∀ x, x ∈ s → 0 ≤ x) (k : Nat) : 0 ≤ staff s n k := by
  unfold staff
  have : ∀ l : List Int, (∀ x, x ∈ l → 0 ≤ x) → 0 ≤ l.sum := by
    intro l
    induction l with
    | nil => intro _; simp
    | cons x r ih => intro h; have := h x (by simp); have := ih fun y hy => h y (by simp [hy]); simp; omega
  exact this _ fun x hx => h x (List.mem_of_mem_take (List.mem_of_mem_drop hx))

theorem least_mono (k : Nat) (i : Nat) : (least' xs n k).getD i 0 ≤ (least' xs n (k + 1)).getD i 0 := by
  show _ ≤ (stepL xs n (least' xs n k) k).getD i 0
  unfold stepL
  split
  · rw [getD_set]
    split
    · rename_i he; rw [he.1]; omega
    · omega
  · omega

theorem least_mono' {k m : Nat} (hkm : k ≤ m) (i : Nat) : (least' xs n k).getD i 0 ≤ (least' xs n m).getD i 0 := by
  induction m with
  | zero => have : k = 0 := by omega
            subst this; omega
  | succ m ih =>
    rcases Nat.lt_or_ge m k with h | h
    · have : k = m + 1 := by omega
      subst this; omega
    · have := ih h
      have := least_mono (xs := xs) (n := n) m i
      omega

include hn

theorem atI_lt {k : Nat} : atI xs n k ≤ k ∧ (atI xs n k : Int) ≤ (xs.length : Int) - n := by
  unfold atI; omega

theorem least_tail (k : Nat) (i : Nat) (hi : (xs.length : Int) - n < i) : (least' xs n k).getD i 0 = 0 := by
  induction k with
  | zero => simp [least', List.getD_eq_getElem?_getD, List.getElem?_replicate]; split <;> rfl
  | succ k ih =>
    unfold least' stepL
    split
    · rw [getD_set, if_neg]
      · exact ih
      · rintro ⟨h, _⟩
        have := (atI_lt hn (k := k)).2
        omega
    · exact ih

omit hn in
include hx in
theorem least_bd (k : Nat) (hk : k ≤ xs.length) : ∀ x, x ∈ least' xs n k → 0 ≤ x ∧ x ≤ 1000 * k := by
  induction k with
  | zero => intro x hx; simp [least'] at hx; omega
  | succ k ih =>
    have ih := ih (by omega)
    have hs := staff_nn (n := n) (s := least' xs n k) (fun x h => (ih x h).1) k
    have hk' : k < xs.length := by omega
    have hxk := getD_mem hx hk'
    have hl := least_len (xs := xs) (n := n) k
    refine mem_getD fun i hi => ?_
    rw [least_len] at hi
    have hi' := getD_mem ih (i := i) (by omega)
    unfold least' stepL
    split
    · rename_i hp
      rw [getD_set]
      split
      · rename_i he
        have ha := getD_mem ih (i := atI xs n k) (by omega)
        unfold lackAt at hp ⊢
        omega
      · omega
    · omega

include hx in
theorem least_startsB (hl : xs.length ≤ 48) : startsB (least' xs n xs.length) n = true ↔ ∀ i, i < xs.length → (least' xs n xs.length).getD i 0 ≤ 1000 := by
  have hlen := least_len (xs := xs) (n := n) xs.length
  have hb := least_bd (n := n) hx xs.length (Nat.le_refl _)
  rw [starts_eq]
  unfold startsS
  simp only [Bool.and_eq_true, numsB_iff, decide_eq_true_eq, zerosFrom, List.all_eq_true, List.mem_range, Bool.or_eq_true, hlen]
  constructor
  · rintro ⟨⟨⟨_, h⟩, _⟩, _⟩ i hi
    exact (getD_mem h (i := i) (by omega)).2
  · intro h
    refine ⟨⟨⟨⟨by omega, hl⟩, mem_getD fun i hi => ⟨(getD_mem hb hi).1, h i (by omega)⟩⟩, by omega⟩, fun j hj => ?_⟩
    by_cases h2 : j < ((xs.length : Int) - n + 1).toNat
    · exact .inl h2
    · exact .inr (least_tail hn _ j (by omega))

end

theorem fn_l00Min (a b : Int) : Fn Tryz.prog 191 [I a, I b] [] (I (min a b)) [] := by
  refine Fn.intro (ks := [0,1,4,7]) hty rfl rfl rfl rfl rfl ?_
  conv => whnf
  refine Br.mk (fun h => ?_) (fun h => ?_)
  · conv => whnf
    have : a < b := by simpa using h
    exact ⟨by rw [show min a b = a by omega], trivial, rfl⟩
  · conv => whnf
    have : ¬ a < b := by simpa using h
    exact ⟨by rw [show min a b = b by omega], trivial, rfl⟩

theorem lend_I {id : Nat} {l : LL} {s : List Int} {m : Nat} (h : lget id l = .row true 1 (cI s)) (hm : s.length = m) : lend1 l (.ls id 0 m 1) (.d (.sl (cI s))) := by
  subst hm; exact lend_all h

/-- What is handed back. -/
abbrev okL (xs : List Int) (n : Int) : Bool := startsB (least' xs n xs.length) n

theorem staff_row (s : List Int) (n : Int) : (List.drop 0 (cI ((List.range s.length).map (staff s n)))).take s.length = cI (staffs s n) := by
  rw [List.drop_zero, List.take_of_length_le (by simp [cI_len])]; rfl

theorem fn_LeastStaff (xs : List Int) (n : Int) (h : hoursB xs n = true) :
    (okL xs n = true → Fn Tryz.prog 81 [.d (.sl (cI xs)), I n] [] (.tup [.ls 0 0 xs.length 1, I (least' xs n xs.length).sum, B true]) [(0, .row true 1 (cI (least' xs n xs.length)))]) ∧
    (okL xs n = false → Fn Tryz.prog 81 [.d (.sl (cI xs)), I n] [] (.tup [.d (.sl []), I 0, B false]) []) := by
  obtain ⟨h1, h2, h3, h4, h5⟩ := hoursB_n h
  have hn : 1 ≤ n ∧ n ≤ xs.length := ⟨h3, h4⟩
  have c1 := fn_hoursOk xs n (by omega)
  rw [h] at c1
  have c2 := fn_startsOk (least' xs n xs.length) n (by rw [least_len]; omega)
  constructor
  all_goals
    intro hb
    change startsB (least' xs n xs.length) n = _ at hb
    rw [hb] at c2
    refine Fn.intro (ks := [0,1,4,5,6,7,8,9,10,11,15,20,21,22,23,36,52]) hty rfl rfl rfl rfl rfl ?_
    conv => whnf
    refine VCall.of_data c1 (nd _) ?_
    conv => whnf
    rw [cI_len]
    refine ⟨⟨by omega, by omega, by show (xs.length : Int) * ((8 : Nat) : Int) ≤ _; omega, by omega⟩, ?_⟩
    conv => whnf
    refine VLoop.inv hty (S := Nat) (fun k => [(22, I k), (21, I xs.length), (20, .d (.sl (cI xs))), (8, .ls 19 0 xs.length 1), (7, I xs.length), (1, I n), (0, .d (.sl (cI xs)))])
      (fun k => [(19, .row true 1 (cI (least' xs n k)))]) (fun k => k ≤ xs.length) (fun k => xs.length - k) 0 (Nat.zero_le _)
      ⟨rfl, by show AV.d (.s (.int .i64 ((cI xs).length : Int))) = _; rw [cI_len], rfl, rfl, rfl, rfl, rfl, trivial⟩ ⟨by show Ob.row true 1 (List.replicate (xs.length : Int).toNat [.s (.int .i64 0)]) = _; simp [cI, least'], trivial⟩ ?_
    intro k hk
    conv => whnf
    have hlen := least_len (xs := xs) (n := n) k
    have hbd := least_bd (n := n) h5 k hk
    have hbd' : ∀ x, x ∈ least' xs n k → 0 ≤ x ∧ x ≤ 1000000 := fun x hx => by have := hbd x hx; omega
    refine Br.mk (fun hc => ?_) (fun hc => ?_)
    · have hk' : k < xs.length := by simp at hc; omega
      conv => whnf
      refine ⟨⟨⟨by omega, by rw [cI_len]; omega⟩, cI_sz _⟩, ?_⟩
      conv => whnf
      refine ⟨[.s (.int .i64 xs[k])], by simp [cI, hk'], ?_⟩
      conv => whnf
      have c3 := fn_staffAt (least' xs n k) n hbd' (by omega) (by omega)
      refine VCall.lendD c3 ⟨lend_I rfl hlen, rfl, trivial⟩ (cI_flat _) (by simp [cI_len]) ?_
      rw [staff_row]
      conv => whnf
      refine ⟨⟨⟨by omega, by rw [cI_len, staffs_len]; omega⟩, cI_sz _⟩, ?_⟩
      conv => whnf
      refine ⟨[.s (.int .i64 (staff (least' xs n k) n k))], by simp [cI, staffs, hlen, hk'], ?_⟩
      conv => whnf
      have hs := staff_nn (n := n) (s := least' xs n k) (fun x h => (hbd x h).1) k
      have hs2 : staff (least' xs n k) n k ≤ 48000000 := by
        unfold staff
        have := sum_le (xs := ((least' xs n k).take (k + 1)).drop (max ((k : Int) - n + 1) 0).toNat) (m := 1000000) fun x hx => hbd' x (List.mem_of_mem_take (List.mem_of_mem_drop hx))
        have h2 : (((least' xs n k).take (k + 1)).drop (max ((k : Int) - n + 1) 0).toNat).length ≤ 48 := by simp; omega
        omega
      have hxk : xs.getD k 0 = xs[k] := by simp [List.getD_eq_getElem?_getD, hk']
      have hx0 := h5 xs[k] (by simp)
      have hlack : xs[k] - staff (least' xs n k) n k = lackAt xs n (least' xs n k) k := by unfold lackAt; rw [hxk]
      refine Wr.fit (wrap_i64 (by omega) (by omega)) ?_
      rw [hlack]
      conv => whnf
      refine Br.mk (fun hp => ?_) (fun hp => ?_)
      · have hp : 0 < lackAt xs n (least' xs n k) k := by simpa using hp
        conv => whnf
        refine Wr.fit (wrap_i64 (by omega) (by omega)) ?_
        conv => whnf
        have ha := atI_lt hn (k := k)
        have ha' : atI xs n k < (least' xs n k).length := by omega
        refine ⟨by omega, ?_⟩
        conv => whnf
        refine ⟨[.s (.int .i64 ((least' xs n k).getD (atI xs n k) 0))], by
          rw [show (min (k : Int) ((xs.length : Int) - n)).toNat + 0 = atI xs n k from rfl]
          simp [cI, List.getD_eq_getElem?_getD, ha'], ?_⟩
        conv => whnf
        have hb1 := getD_mem hbd ha'
        refine Wr.fit (wrap_i64 (by omega) (by omega)) ?_
        conv => whnf
        refine ⟨by omega, ?_⟩
        conv => whnf
        refine ⟨[.s (.int .i64 ((least' xs n k).getD (atI xs n k) 0))], by
          rw [show (min (k : Int) ((xs.length : Int) - n)).toNat + 0 = atI xs n k from rfl]
          simp [cI, List.getD_eq_getElem?_getD, ha'], ?_⟩
        conv => whnf
        refine Wr.fit (wrap_i64 (by omega) (by omega)) ?_
        conv => whnf
        refine ⟨k + 1, hk', by omega, ⟨rfl, rfl, rfl, rfl, rfl, rfl, rfl, trivial⟩, ?_, trivial⟩
        show Ob.row true 1 ((cI _).set (atI xs n k) [.s (.int .i64 _)]) = _
        rw [cI_set]
        show _ = Ob.row true 1 (cI (stepL xs n (least' xs n k) k))
        unfold stepL
        rw [if_pos hp]
      · have hp : ¬ 0 < lackAt xs n (least' xs n k) k := by simpa using hp
        conv => whnf
        refine Wr.fit (wrap_i64 (by omega) (by omega)) ?_
        conv => whnf
        refine ⟨k + 1, hk', by omega, ⟨rfl, rfl, rfl, rfl, rfl, rfl, rfl, trivial⟩, ?_, trivial⟩
        show Ob.row true 1 (cI _) = Ob.row true 1 (cI (stepL xs n (least' xs n k) k))
        unfold stepL
        rw [if_neg hp]
    · have hk' : k = xs.length := by simp at hc; omega
      subst hk'
      conv => whnf
      refine VCall.lend c2 ⟨lend_I rfl hlen, rfl, trivial⟩ rfl ?_
      conv => whnf
      first
        | exact ⟨rfl, rfl, trivial, rfl⟩
        | (refine VCall.lend (fn_total (least' xs n xs.length) hbd' (by omega)) ⟨lend_I rfl hlen, trivial⟩ rfl ?_
           conv => whnf
           exact ⟨⟨rfl, rfl, rfl, rfl, rfl, rfl⟩, [], rfl, rfl, rfl, trivial, rfl⟩)

theorem fn_l10Least (xs : List Int) (n : Int) (h : hoursB xs n = true) :
    (okL xs n = true → Fn Tryz.prog 149 [.d (.sl (cI xs)), I n] [] (.tup [.ls 0 0 xs.length 1, I (least' xs n xs.length).sum, B true]) [(0, .row true 1 (cI (least' xs n xs.length)))]) ∧
    (okL xs n = false → Fn Tryz.prog 149 [.d (.sl (cI xs)), I n] [] (.tup [.d (.sl []), I 0, B false]) []) := by
  obtain ⟨h1, h2, h3, h4, h5⟩ := hoursB_n h
  have hn : 1 ≤ n ∧ n ≤ xs.length := ⟨h3, h4⟩
  have hst := least_startsB hn h5 h2
  constructor
  all_goals
    intro hb
    change startsB (least' xs n xs.length) n = _ at hb
    refine Fn.intro (ks := [0,1,4,5,6,7,8,9,10,11,12,19,34,54]) hty rfl rfl rfl rfl rfl ?_
    conv => whnf
    rw [cI_len]
    refine ⟨⟨by omega, by omega, by show (xs.length : Int) * ((8 : Nat) : Int) ≤ _; omega, by omega⟩, ?_⟩
    conv => whnf
    refine VLoop.inv hty (S := Nat) (fun k => [(10, I k), (9, I (least' xs n k).sum), (8, .ls 16 0 xs.length 1), (7, I xs.length), (1, I n), (0, .d (.sl (cI xs)))])
      (fun k => [(16, .row true 1 (cI (least' xs n k)))]) (fun k => k ≤ xs.length ∧ ∀ i, i < xs.length → (least' xs n k).getD i 0 ≤ 1000) (fun k => xs.length - k) 0
      ⟨Nat.zero_le _, fun i hi => by simp [least', List.getD_eq_getElem?_getD, hi]⟩
      ⟨rfl, by simp [least']; rfl, rfl, rfl, rfl, rfl, trivial⟩ ⟨by show Ob.row true 1 (List.replicate (xs.length : Int).toNat [.s (.int .i64 0)]) = _; simp [cI, least'], trivial⟩ ?_
    rintro k ⟨hk, hsm⟩
    conv => whnf
    have hlen := least_len (xs := xs) (n := n) k
    have hbd := least_bd (n := n) h5 k hk
    have hbd' : ∀ x, x ∈ least' xs n k → 0 ≤ x ∧ x ≤ 1000000 := fun x hx => by have := hbd x hx; omega
    refine Br.mk (fun hc => ?_) (fun hc => ?_)
    · have hk' : k < xs.length := by simp at hc; omega
      conv => whnf
      refine VDraw.go hmo hty 12 [] rfl ?_
      conv => whnf
      refine ⟨⟨⟨by omega, by rw [cI_len]; omega⟩, cI_sz _⟩, ?_⟩
      conv => whnf
      refine ⟨[.s (.int .i64 xs[k])], by simp [cI, hk'], ?_⟩
      conv => whnf
      have c3 := fn_l10Staff (least' xs n k) n hbd' (by omega) (by omega)
      refine QCall.lendD c3 ⟨lend_I rfl hlen, rfl, trivial⟩ (cI_flat _) (by simp [cI_len]) ?_
      rw [staff_row]
      conv => whnf
      refine ⟨⟨⟨by omega, by rw [cI_len, staffs_len]; omega⟩, cI_sz _⟩, ?_⟩
      conv => whnf
      refine ⟨[.s (.int .i64 (staff (least' xs n k) n k))], by simp [cI, staffs, hlen, hk'], ?_⟩
      conv => whnf
      have hs := staff_nn (s := least' xs n k) (n := n) (fun x h => (hbd x h).1) k
      have hs2 : staff (least' xs n k) n k ≤ 48000000 := by
        unfold staff
        have := sum_le (xs := ((least' xs n k).take (k + 1)).drop (max ((k : Int) - n + 1) 0).toNat) (m := 1000000) fun x hx => hbd' x (List.mem_of_mem_take (List.mem_of_mem_drop hx))
        have h2 : (((least' xs n k).take (k + 1)).drop (max ((k : Int) - n + 1) 0).toNat).length ≤ 48 := by simp; omega
        omega
      have hsum := sum_le hbd'
      have hxk : xs.getD k 0 = xs[k] := by simp [List.getD_eq_getElem?_getD, hk']
      have hx0 := h5 xs[k] (by simp)
      have hlack : xs[k] - staff (least' xs n k) n k = lackAt xs n (least' xs n k) k := by unfold lackAt; rw [hxk]
      refine Wr.fit (wrap_i64 (by omega) (by omega)) ?_
      rw [hlack]
      conv => whnf
      refine Br.mk (fun hp => ?_) (fun hp => ?_)
      · have hp : ¬ 0 < lackAt xs n (least' xs n k) k := by simp at hp; omega
        conv => whnf
        refine Wr.fit (wrap_i64 (by omega) (by omega)) ?_
        conv => whnf
        have e : least' xs n (k + 1) = least' xs n k := by show stepL xs n (least' xs n k) k = _; unfold stepL; rw [if_neg hp]
        refine ⟨k + 1, ⟨hk', by rw [e]; exact hsm⟩, by omega, ⟨rfl, by rw [e]; rfl, rfl, rfl, rfl, rfl, trivial⟩, by rw [e]; rfl, trivial⟩
      · have hp : 0 < lackAt xs n (least' xs n k) k := by simp at hp; omega
        have ha := atI_lt hn (k := k)
        have ha' : atI xs n k < (least' xs n k).length := by omega
        have hb1 := getD_mem hbd ha'
        have e : least' xs n (k + 1) = (least' xs n k).set (atI xs n k) ((least' xs n k).getD (atI xs n k) 0 + lackAt xs n (least' xs n k) k) := by show stepL xs n (least' xs n k) k = _; unfold stepL; rw [if_pos hp]
        have e2 : (least' xs n (k + 1)).sum = (least' xs n k).sum + lackAt xs n (least' xs n k) k := by rw [e, sum_set _ _ _ ha']; omega
        have e3 : (least' xs n (k + 1)).getD (atI xs n k) 0 = (least' xs n k).getD (atI xs n k) 0 + lackAt xs n (least' xs n k) k := by rw [e, getD_set, if_pos ⟨rfl, ha'⟩]
        conv => whnf
        refine Wr.fit (wrap_i64 (by omega) (by omega)) ?_
        conv => whnf
        refine VCall.of_data (fn_l00Min k ((xs.length : Int) - n)) (nd _) ?_
        conv => whnf
        refine ⟨by omega, ?_⟩
        conv => whnf
        refine ⟨[.s (.int .i64 ((least' xs n k).getD (atI xs n k) 0))], by
          rw [show (min (k : Int) ((xs.length : Int) - n)).toNat + 0 = atI xs n k from rfl]
          simp [cI, List.getD_eq_getElem?_getD, ha'], ?_⟩
        conv => whnf
        refine Wr.fit (wrap_i64 (by omega) (by omega)) ?_
        conv => whnf
        refine ⟨by omega, ?_⟩
        conv => whnf
        refine ⟨[.s (.int .i64 ((least' xs n k).getD (atI xs n k) 0))], by
          rw [show (min (k : Int) ((xs.length : Int) - n)).toNat + 0 = atI xs n k from rfl]
          simp [cI, List.getD_eq_getElem?_getD, ha'], ?_⟩
        conv => whnf
        refine Wr.fit (wrap_i64 (by omega) (by omega)) ?_
        conv => whnf
        refine ⟨by omega, ?_⟩
        conv => whnf
        refine ⟨[.s (.int .i64 ((least' xs n k).getD (atI xs n k) 0 + lackAt xs n (least' xs n k) k))], by
          rw [show (min (k : Int) ((xs.length : Int) - n)).toNat + 0 = atI xs n k from rfl]
          show ((cI _).set (atI xs n k) [.s (.int .i64 _)])[atI xs n k]? = _
          simp [cI, ha'], ?_⟩
        conv => whnf
        refine Br.mk (fun hq => ?_) (fun hq => ?_)
        · have hq : 1000 < (least' xs n k).getD (atI xs n k) 0 + lackAt xs n (least' xs n k) k := by simpa using hq
          conv => whnf
          have hbad : startsB (least' xs n xs.length) n = false := by
            cases hcase : startsB (least' xs n xs.length) n
            · rfl
            · have := hst.1 hcase (atI xs n k) (by omega)
              have := least_mono' (xs := xs) (n := n) (k := k + 1) (m := xs.length) hk' (atI xs n k)
              omega
          first
            | (rw [hbad] at hb; cases hb; done)
            | exact ⟨rfl, rfl, trivial, rfl⟩
        · have hq : ¬ 1000 < (least' xs n k).getD (atI xs n k) 0 + lackAt xs n (least' xs n k) k := by simpa using hq
          conv => whnf
          refine Wr.fit (wrap_i64 (by omega) (by omega)) ?_
          conv => whnf
          refine ⟨k + 1, ⟨hk', fun i hi => ?_⟩, by omega, ⟨rfl, by rw [e2]; rfl, rfl, rfl, rfl, rfl, trivial⟩, ?_, trivial⟩
          · rw [e, getD_set]
            split
            · omega
            · exact hsm i hi
          · show Ob.row true 1 ((cI _).set (atI xs n k) [.s (.int .i64 _)]) = Ob.row true 1 (cI (least' xs n (k + 1)))
            rw [cI_set, e]
    · have hk' : k = xs.length := by simp at hc; omega
      subst hk'
      conv => whnf
      have hgood := hst.2 hsm
      first
        | (rw [hgood] at hb; cases hb; done)
        | exact ⟨⟨rfl, rfl, rfl, rfl, rfl, rfl⟩, [], rfl, rfl, rfl, trivial, rfl⟩

theorem hoursB_nums (xs : List Int) (n : Int) : hoursB xs n = (numsB xs && (decide (1 ≤ n) && decide (n ≤ (xs.length : Int)))) := by
  rw [Bool.eq_iff_iff]
  simp only [Bool.and_eq_true, hoursB_iff, numsB_iff, decide_eq_true_eq]
  constructor
  · rintro ⟨h1, h2, h3⟩; exact ⟨⟨h1, h3⟩, h2⟩
  · rintro ⟨⟨h1, h3⟩, h2⟩; exact ⟨h1, h2, h3⟩

/-- What both come to. -/
abbrev goodL (xs : List Int) (n : Int) : Bool := hoursB xs n && okL xs n

theorem fn_LeastStaff1 (xs : List Int) (n : Int) (h : goodL xs n = true) :
    Fn Tryz.prog 81 [.d (.sl (cI xs)), I n] [] (.tup [.ls 0 0 xs.length 1, I (least' xs n xs.length).sum, B true]) [(0, .row true 1 (cI (least' xs n xs.length)))] := by
  simp only [goodL, Bool.and_eq_true] at h
  exact (fn_LeastStaff xs n h.1).1 h.2

theorem fn_LeastStaff0 (xs : List Int) (n : Int) (hl : xs.length ≤ 1000000) (h : goodL xs n = false) : Fn Tryz.prog 81 [.d (.sl (cI xs)), I n] [] (.tup [.d (.sl []), I 0, B false]) [] := by
  cases hh : hoursB xs n
  · refine Fn.intro (ks := [0,1,4,5,6,7,8,9,10,11,15,20,21,22,23,36,52]) hty rfl rfl rfl rfl rfl ?_
    conv => whnf
    have c1 := fn_hoursOk xs n hl
    rw [hh] at c1
    refine VCall.of_data c1 (nd _) ?_
    conv => whnf
    exact ⟨rfl, rfl, trivial, rfl⟩
  · rw [goodL, hh, Bool.true_and] at h
    exact (fn_LeastStaff xs n hh).2 h

theorem fn_sLeastStaff (xs : List Int) (n : Int) (hl : xs.length ≤ 1000000) :
    (goodL xs n = true → Fn Tryz.prog 80 [.d (.sl (cI xs)), I n] [] (.tup [.ls 0 0 xs.length 1, I (least' xs n xs.length).sum, B true]) [(0, .row true 1 (cI (least' xs n xs.length)))]) ∧
    (goodL xs n = false → Fn Tryz.prog 80 [.d (.sl (cI xs)), I n] [] (.tup [.d (.sl []), I 0, B false]) []) := by
  have c1 := fn_l10Numbers xs hl
  have c2 := fn_l00In n 1 xs.length
  have e := hoursB_nums xs n
  constructor
  · intro h
    simp only [goodL, Bool.and_eq_true] at h
    have h0 := h.1
    rw [e, Bool.and_eq_true] at h0
    rw [h0.1] at c1
    rw [h0.2] at c2
    refine Fn.intro (ks := [0,1,4,5,6,16]) hty rfl rfl rfl rfl rfl ?_
    conv => whnf
    refine VCall.of_data c1 (nd _) ?_
    conv => whnf
    rw [cI_len]
    refine VCall.of_data c2 (nd _) ?_
    conv => whnf
    refine VCall.of_fnT (k := 19) ((fn_l10Least xs n h.1).1 h.2) rfl rfl ?_
    conv => whnf
    exact ⟨⟨rfl, rfl, rfl, rfl, rfl, rfl⟩, [], rfl, rfl, rfl, trivial, rfl⟩
  · intro h
    refine Fn.intro (ks := [0,1,4,5,6,16]) hty rfl rfl rfl rfl rfl ?_
    conv => whnf
    generalize hb1 : numsB xs = b1 at c1 e
    generalize hb2 : (decide (1 ≤ n) && decide (n ≤ (xs.length : Int))) = b2 at c2 e
    refine VCall.of_data c1 (nd _) ?_
    conv => whnf
    cases b1
    · conv => whnf
      exact ⟨rfl, rfl, trivial, rfl⟩
    · conv => whnf
      rw [cI_len]
      refine VCall.of_data c2 (nd _) ?_
      conv => whnf
      cases b2
      · conv => whnf
        exact ⟨rfl, rfl, trivial, rfl⟩
      · conv => whnf
        have e' : hoursB xs n = true := e
        rw [goodL, e', Bool.true_and] at h
        refine VCall.of_data ((fn_l10Least xs n e').2 h) (ndT fun _ => rfl) ?_
        conv => whnf
        exact ⟨rfl, rfl, rfl, trivial, rfl⟩

end Go.V
/- StaffFor. -/
namespace Go.V
open Go.Proofs Go.RowKit
set_option maxRecDepth 10000
set_option maxHeartbeats 1000000

def demQ (loads : List (List UInt8)) (most : List UInt8) : Option (List Int) := (serversQ loads most).map fun ns => ns.map Int.ofNat
def goodSF (loads : List (List UInt8)) (most : List UInt8) (n : Int) : Bool := match demQ loads most with
  | some ys => goodL ys n
  | none => false

theorem demQ_some {loads : List (List UInt8)} {most : List UInt8} {ys : List Int} (h : demQ loads most = some ys) (hl : loads.length ≤ 1000000) (hs : ∀ x, x ∈ loads → x.length ≤ 1000000) (hm : most.length ≤ 1000000) :
    ys.length ≤ 1000000 ∧ Fn Tryz.prog 18 [lT loads, Str most] [] (.tup [.d (.sl (cI ys)), B true]) [] ∧ Fn Tryz.prog 70 [lT loads, Str most] [] (.tup [.d (.sl (cI ys)), B true]) [] := by
  have cs := fn_sServers loads most (by omega) (fun x hx => by have := hs x hx; omega) (by omega)
  have ci := fn_ServersFor loads most (by omega) (fun x hx => by have := hs x hx; omega) (by omega)
  unfold demQ at h
  cases hb : serversQ loads most with
  | none => rw [hb] at h; cases h
  | some ns =>
    rw [hb] at h cs ci
    have h : ns.map Int.ofNat = ys := by simpa using h
    have hn := serversQ_len hb
    have e3 : cW .i64 ns = cI ys := by rw [cW_cI, h]
    have hyl : ys.length = ns.length := by rw [← h]; simp
    have c1 : Fn Tryz.prog 70 [lT loads, Str most] [] (.tup [.d (.sl (cI ys)), B true]) [] := by rw [← e3]; exact cs
    have c4 : Fn Tryz.prog 18 [lT loads, Str most] [] (.tup [.ls 0 0 ys.length 1, B true]) [(0, .row true 1 (cI ys))] := by rw [← e3, hyl]; exact ci
    have c2 := c4.freezeT (by rw [cI_len]; omega) rfl
    rw [show (List.drop 0 (cI ys)).take ys.length = cI ys by rw [List.drop_zero, List.take_of_length_le (by rw [cI_len]; omega)]] at c2
    exact ⟨by omega, c2, c1⟩

theorem demQ_none {loads : List (List UInt8)} {most : List UInt8} (h : demQ loads most = none) (hl : loads.length ≤ 1000000) (hs : ∀ x, x ∈ loads → x.length ≤ 1000000) (hm : most.length ≤ 1000000) :
    Fn Tryz.prog 18 [lT loads, Str most] [] (.tup [.d (.sl []), B false]) [] ∧ Fn Tryz.prog 70 [lT loads, Str most] [] (.tup [.d (.sl []), B false]) [] := by
  have cs := fn_sServers loads most (by omega) (fun x hx => by have := hs x hx; omega) (by omega)
  have ci := fn_ServersFor loads most (by omega) (fun x hx => by have := hs x hx; omega) (by omega)
  unfold demQ at h
  cases hb : serversQ loads most with
  | none => rw [hb] at cs ci; exact ⟨ci, cs⟩
  | some ns => rw [hb] at h; cases h

theorem fn_StaffFor1 (loads : List (List UInt8)) (most : List UInt8) (n : Int) (ys : List Int) (hl : loads.length ≤ 1000000) (hs : ∀ x, x ∈ loads → x.length ≤ 1000000) (hm : most.length ≤ 1000000) (hd : demQ loads most = some ys) (hg : goodL ys n = true) :
    Fn Tryz.prog 25 [lT loads, Str most, I n] [] (.tup [.ls 0 0 ys.length 1, I (least' ys n ys.length).sum, B true]) [(0, .row true 1 (cI (least' ys n ys.length)))] := by
  obtain ⟨hyl, ci, cs⟩ := demQ_some hd hl hs hm
  refine Fn.intro (ks := [0,1,2,6,7,8,9,10,18]) hty rfl rfl rfl rfl rfl ?_
  conv => whnf
  refine VCall.of_data ci (ndT fun _ => rfl) ?_
  conv => whnf
  refine VCall.of_fnT (k := 21) (fn_LeastStaff1 ys n hg) rfl rfl ?_
  conv => whnf
  exact ⟨⟨rfl, rfl, rfl, rfl, rfl, rfl⟩, [], rfl, rfl, rfl, trivial, rfl⟩

theorem fn_StaffFor0 (loads : List (List UInt8)) (most : List UInt8) (n : Int) (hl : loads.length ≤ 1000000) (hs : ∀ x, x ∈ loads → x.length ≤ 1000000) (hm : most.length ≤ 1000000) (hg : goodSF loads most n = false) :
    Fn Tryz.prog 25 [lT loads, Str most, I n] [] (.tup [.d (.sl []), I 0, B false]) [] := by
  unfold goodSF at hg
  cases hd : demQ loads most with
  | none =>
    obtain ⟨ci, cs⟩ := demQ_none hd hl hs hm
    refine Fn.intro (ks := [0,1,2,6,7,8,9,10,18]) hty rfl rfl rfl rfl rfl ?_
    conv => whnf
    refine VCall.of_data ci (ndT fun _ => rfl) ?_
    conv => whnf
    first | exact ⟨rfl, rfl, trivial, rfl⟩ | exact ⟨rfl, rfl, rfl, trivial, rfl⟩
  | some ys =>
    rw [hd] at hg
    have hg : goodL ys n = false := hg
    obtain ⟨hyl, ci, cs⟩ := demQ_some hd hl hs hm
    refine Fn.intro (ks := [0,1,2,6,7,8,9,10,18]) hty rfl rfl rfl rfl rfl ?_
    conv => whnf
    refine VCall.of_data ci (ndT fun _ => rfl) ?_
    conv => whnf
    refine VCall.of_data (fn_LeastStaff0 ys n hyl hg) (ndT fun _ => rfl) ?_
    conv => whnf
    first | exact ⟨rfl, rfl, trivial, rfl⟩ | exact ⟨rfl, rfl, rfl, trivial, rfl⟩

theorem fn_sStaffFor1 (loads : List (List UInt8)) (most : List UInt8) (n : Int) (ys : List Int) (hl : loads.length ≤ 1000000) (hs : ∀ x, x ∈ loads → x.length ≤ 1000000) (hm : most.length ≤ 1000000) (hd : demQ loads most = some ys) (hg : goodL ys n = true) :
    Fn Tryz.prog 24 [lT loads, Str most, I n] [] (.tup [.ls 0 0 ys.length 1, I (least' ys n ys.length).sum, B true]) [(0, .row true 1 (cI (least' ys n ys.length)))] := by
  obtain ⟨hyl, ci, cs⟩ := demQ_some hd hl hs hm
  refine Fn.intro (ks := [0,1,2,6,7,8,9,10,18]) hty rfl rfl rfl rfl rfl ?_
  conv => whnf
  refine VCall.of_data cs (ndT fun _ => rfl) ?_
  conv => whnf
  refine VCall.of_fnT (k := 21) ((fn_sLeastStaff ys n hyl).1 hg) rfl rfl ?_
  conv => whnf
  exact ⟨⟨rfl, rfl, rfl, rfl, rfl, rfl⟩, [], rfl, rfl, rfl, trivial, rfl⟩

theorem fn_sStaffFor0 (loads : List (List UInt8)) (most : List UInt8) (n : Int) (hl : loads.length ≤ 1000000) (hs : ∀ x, x ∈ loads → x.length ≤ 1000000) (hm : most.length ≤ 1000000) (hg : goodSF loads most n = false) :
    Fn Tryz.prog 24 [lT loads, Str most, I n] [] (.tup [.d (.sl []), I 0, B false]) [] := by
  unfold goodSF at hg
  cases hd : demQ loads most with
  | none =>
    obtain ⟨ci, cs⟩ := demQ_none hd hl hs hm
    refine Fn.intro (ks := [0,1,2,6,7,8,9,10,18]) hty rfl rfl rfl rfl rfl ?_
    conv => whnf
    refine VCall.of_data cs (ndT fun _ => rfl) ?_
    conv => whnf
    first | exact ⟨rfl, rfl, trivial, rfl⟩ | exact ⟨rfl, rfl, rfl, trivial, rfl⟩
  | some ys =>
    rw [hd] at hg
    have hg : goodL ys n = false := hg
    obtain ⟨hyl, ci, cs⟩ := demQ_some hd hl hs hm
    refine Fn.intro (ks := [0,1,2,6,7,8,9,10,18]) hty rfl rfl rfl rfl rfl ?_
    conv => whnf
    refine VCall.of_data cs (ndT fun _ => rfl) ?_
    conv => whnf
    refine VCall.of_data ((fn_sLeastStaff ys n hyl).2 hg) (ndT fun _ => rfl) ?_
    conv => whnf
    first | exact ⟨rfl, rfl, trivial, rfl⟩ | exact ⟨rfl, rfl, rfl, trivial, rfl⟩

theorem law_staffFor (xs : List (List UInt8)) (m : List UInt8) (n : Int) (hl0 : xs.length < 2 ^ 47) (hs0 : ∀ x, x ∈ xs → x.length < 2 ^ 47) (hm : m.length < 2 ^ 47) : Fn Tryz.prog 4 [lT xs, Str m, I n] [] (B true) [] := by
  have c0 := fn_szT xs (1000000 - (m.length : Int)) (by omega) (fun x hx => by have := hs0 x hx; omega) (by omega) (by omega)
  refine Fn.intro (ks := [0,1,2,6,7,8,9,10,11,12,13,14,15,16,17,18,19,20,28,61,66,87,95,98,121,126,129]) hty rfl rfl rfl rfl rfl ?_
  conv => whnf
  obtain ⟨m1, e1⟩ : ∃ m1, 1000000 - (m.length : Int) = m1 := ⟨_, rfl⟩
  rw [show 1000000 - (({ data := m.toArray } : ByteArray).size : Int) = m1 from e1]
  rw [e1] at c0
  refine Wr.fit (wrap_i64 (by omega) (by omega)) ?_
  conv => whnf
  refine VCall.of_data c0 (nd _) ?_
  obtain ⟨m2, e2⟩ : ∃ m2, szTT m1 xs = m2 := ⟨_, rfl⟩
  rw [e2]
  conv => whnf
  refine Br.mk (fun h => ?_) (fun h => ?_)
  · conv => whnf
    exact ⟨rfl, trivial, rfl⟩
  · have h : 0 ≤ m2 := by simpa using h
    have hf := szTT_fits (e2 ▸ h)
    have hl : xs.length ≤ 1000000 := by omega
    have hml : m.length ≤ 1000000 := by omega
    have hs : ∀ x, x ∈ xs → x.length ≤ 1000000 := fun x hx => by have := hf.2 x hx; omega
    conv => whnf
    refine VCall.of_data (fn_toTd xs false hl) (nd _) ?_
    conv => whnf
    cases hb : goodSF xs m n
    · refine VCall.of_data (fn_sStaffFor0 xs m n hl hs hml hb) (ndT fun _ => rfl) ?_
      conv => whnf
      refine VCall.of_ls (k := 39) (fn_toT xs false (.inl rfl) hl) rfl ?_
      conv => whnf
      refine VCall.lend (fn_StaffFor0 xs m n hl hs hml hb) ⟨lend_wholeT rfl, rfl, rfl, trivial⟩ rfl ?_
      conv => whnf
      refine VCall.of_data (fn_eqT [] (by simp)) (nd _) ?_
      conv => whnf
      refine VCall.of_ls (k := 64) (fn_toT xs false (.inl rfl) hl) rfl ?_
      conv => whnf
      refine VCall.par2 39 64 rfl (fn_intactT xs hl) ⟨⟨rfl, rfl, rfl, rfl⟩, ⟨rfl, rfl, rfl, rfl⟩, trivial⟩ rfl rfl ?_
      conv => whnf
      refine VCall.par1 39 (fn_markT (withRoomT xs) xs.length 101 (by simp [withRoomT]) hl (by omega)) ⟨⟨rfl, rfl, rfl, rfl⟩, rfl, trivial⟩ rfl ?_
      conv => whnf
      refine VCall.of_data (fn_eqT [] (by simp)) (nd _) ?_
      conv => whnf
      refine VCall.of_data (fn_markI0 101) (nd _) ?_
      conv => whnf
      refine VCall.of_data (fn_heldI 0 101 (by omega) (by omega)) (nd _) ?_
      conv => whnf
      refine VCall.of_data (fn_toTd xs true hl) (nd _) ?_
      conv => whnf
      refine VCall.of_data (fn_StaffFor0 xs m n hl hs hml hb) (ndT fun _ => rfl) ?_
      conv => whnf
      refine VCall.of_data (fn_eqT [] (by simp)) (nd _) ?_
      conv => whnf
      refine VCall.of_data (fn_heldI 0 101 (by omega) (by omega)) (nd _) ?_
      conv => whnf
      exact ⟨rfl, trivial, rfl⟩
    · have hb' := hb
      unfold goodSF at hb'
      cases hd : demQ xs m with
      | none => rw [hd] at hb'; cases hb'
      | some ds =>
      rw [hd] at hb'
      have hg : goodL ds n = true := hb'
      have hdl := (demQ_some hd hl hs hml).1
      have hsl := least_len (xs := ds) (n := n) ds.length
      have c0 := fn_sStaffFor1 xs m n ds hl hs hml hd hg
      have c4 := fn_StaffFor1 xs m n ds hl hs hml hd hg
      generalize (least' ds n ds.length).sum = z at c0 c4
      generalize least' ds n ds.length = ys at c0 c4 hsl
      have c1 := c0.freezeT (by simp [cI_len, hsl]) rfl
      rw [List.drop_zero, List.take_of_length_le (by simp [cI_len, hsl])] at c1
      have c2 := c4.freezeT (by simp [cI_len, hsl]) rfl
      rw [List.drop_zero, List.take_of_length_le (by simp [cI_len, hsl])] at c2
      have c3 := fn_eqT ys (by omega)
      rw [← hsl] at c4
      refine VCall.of_data c1 (ndT fun _ => rfl) ?_
      conv => whnf
      refine VCall.of_ls (k := 39) (fn_toT xs false (.inl rfl) hl) rfl ?_
      conv => whnf
      refine VCall.lendT (k := 44) c4 ⟨lend_wholeT rfl, rfl, rfl, trivial⟩ (cI_flat _) rfl rfl ?_
      conv => whnf
      refine VCall.lend c3 ⟨lend_all rfl, rfl, trivial⟩ rfl ?_
      conv => whnf
      rw [decide_eq_true rfl]
      conv => whnf
      refine VCall.of_ls (k := 64) (fn_toT xs false (.inl rfl) hl) rfl ?_
      conv => whnf
      refine VCall.par2 39 64 rfl (fn_intactT xs hl) ⟨⟨rfl, rfl, rfl, rfl⟩, ⟨rfl, rfl, rfl, rfl⟩, trivial⟩ rfl rfl ?_
      conv => whnf
      refine VCall.par1 39 (fn_markT (withRoomT xs) xs.length 101 (by simp [withRoomT]) hl (by omega)) ⟨⟨rfl, rfl, rfl, rfl⟩, rfl, trivial⟩ rfl ?_
      conv => whnf
      refine VCall.lend c3 ⟨lend_all rfl, rfl, trivial⟩ rfl ?_
      conv => whnf
      rw [decide_eq_true rfl]
      conv => whnf
      refine VCall.par1 44 (fn_markI ys ys.length 101 (Nat.le_refl _) (by omega) (by omega)) ⟨⟨rfl, rfl, rfl, rfl⟩, rfl, trivial⟩ rfl ?_
      conv => whnf
      have hm : ∀ l : LL, lget 44 l = .row true 1 (cI (marks 101 ys.length ++ List.drop ys.length ys)) → lend1 l (.ls 44 0 ys.length 1) (.d (.sl (cI (marks 101 ys.length)))) := fun l h => by
        have := lend_whole (xs := marks 101 ys.length) h
        rwa [marks_len] at this
      refine VCall.lend (fn_heldI ys.length 101 (by omega) (by omega)) ⟨hm _ rfl, rfl, trivial⟩ rfl ?_
      conv => whnf
      refine Br.mk (fun h => by simp at h) (fun _ => ?_)
      conv => whnf
      refine VCall.of_data (fn_toTd xs true hl) (nd _) ?_
      conv => whnf
      refine VCall.of_data c2 (ndT fun _ => rfl) ?_
      conv => whnf
      refine VCall.of_data c3 (nd _) ?_
      conv => whnf
      rw [decide_eq_true rfl]
      conv => whnf
      refine VCall.lend (fn_heldI ys.length 101 (by omega) (by omega)) ⟨hm _ rfl, rfl, trivial⟩ rfl ?_
      conv => whnf
      refine Br.mk (fun h => by simp at h) (fun _ => ?_)
      conv => whnf
      exact ⟨rfl, trivial, rfl⟩

end Go.V
