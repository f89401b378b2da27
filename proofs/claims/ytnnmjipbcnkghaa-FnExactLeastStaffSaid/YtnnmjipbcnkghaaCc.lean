/- Contracts: what the laws do with lists of integers. -/
import Derived.Test.YtnnmjipbcnkghaaCa
set_option linter.unusedVariables false
namespace Go.V
open Go.Proofs
set_option maxRecDepth 10000

def room (n : Nat) : Nat := if n % 6 = 5 then 0 else if n % 3 = 0 then 1 else n

theorem fn_room (n : Nat) (hn : n ≤ 1000000) : Fn Try.prog 27 [I n] [] (I (room n)) [] := by
  refine Fn.intro (ks := [0,2,5,8]) hty rfl rfl rfl rfl rfl ?_
  conv => whnf
  refine ⟨by omega, ?_⟩
  conv => whnf
  refine Br.mk (fun h => ?_) (fun h => ?_)
  · have h : (n : Int).tmod 6 = 5 := by simpa using h
    conv => whnf
    refine ⟨?_, trivial, rfl⟩
    have : n % 6 = 5 := by rw [Int.tmod_eq_emod_of_nonneg (by omega)] at h; omega
    simp [room, this]
  · have h : ¬ (n : Int).tmod 6 = 5 := by simpa using h
    have h' : ¬ n % 6 = 5 := by rw [Int.tmod_eq_emod_of_nonneg (by omega)] at h; omega
    conv => whnf
    refine ⟨by omega, ?_⟩
    conv => whnf
    refine Br.mk (fun h2 => ?_) (fun h2 => ?_)
    · have h2 : (n : Int).tmod 3 = 0 := by simpa using h2
      conv => whnf
      refine ⟨?_, trivial, rfl⟩
      have : n % 3 = 0 := by rw [Int.tmod_eq_emod_of_nonneg (by omega)] at h2; omega
      simp [room, this, h']
    · have h2 : ¬ (n : Int).tmod 3 = 0 := by simpa using h2
      conv => whnf
      refine ⟨?_, trivial, rfl⟩
      have : ¬ n % 3 = 0 := by rw [Int.tmod_eq_emod_of_nonneg (by omega)] at h2; omega
      simp [room, this, h']

theorem room_le (n : Nat) : room n ≤ n + 1 := by unfold room; split; omega; split <;> omega

abbrev sp : Int := -7000000000000000101

/-- What is behind a list that a law makes. -/
def withRoom (xs : List Int) : List Int := xs ++ List.replicate (room xs.length) sp

theorem cI_set (xs : List Int) (k : Nat) (x : Int) : (cI xs).set k [.s (.int .i64 x)] = cI (xs.set k x) := by
  unfold cI; rw [List.map_set]

theorem fn_toI (xs : List Int) (b : Bool) (hb : b = false ∨ xs ≠ []) (hl : xs.length ≤ 1000000) :
    Fn Try.prog 9 [.d (.sl (cI xs)), B b] [] (.ls 0 0 xs.length 1) [(0, .row true 1 (cI (withRoom xs)))] := by
  have hr := room_le xs.length
  generalize hm : room xs.length = m at hr
  have hwl : withRoom xs = xs ++ List.replicate m sp := by rw [withRoom, hm]
  have k1 : (xs ++ List.replicate m 0).length = (List.replicate (xs.length + m) (0 : Int)).length := by simp
  have k2 : (xs ++ List.replicate m sp).length = (xs ++ List.replicate m 0).length := by simp
  have k3 : (xs ++ List.replicate m sp).length = xs.length + m := by simp
  have c1 := fn_room xs.length hl
  rw [hm] at c1
  refine Fn.intro (ks := [0,1,4,5,6,7,13,24,39]) hty rfl rfl rfl rfl rfl ?_
  cases b
  case' true =>
    conv => whnf
    refine Br.mk (fun h => absurd h ?_) (fun _ => ?_)
    · have hne : xs ≠ [] := by rcases hb with hb | hb; cases hb; exact hb
      have := List.length_pos_iff.2 hne
      rw [cI_len]; simp; exact hne
  all_goals
    clear hb
    conv => whnf
    rw [cI_len]
    refine VCall.of_data c1 (nd _) ?_
    conv => whnf
    refine Wr.fit (wrap_i64 (by omega) (by omega)) ?_
    conv => whnf
    refine ⟨⟨by omega, by omega, by show ((xs.length : Int) + m) * ((8 : Nat) : Int) ≤ _; omega, by omega⟩, ?_⟩
    conv => whnf
    refine VLoop.inv hty (S := Nat) (fun k => [(6, I k), (5, .ls 20 0 (xs.length + m) 1), (0, .d (.sl (cI xs)))])
      (fun k => [(20, .row true 1 (cI (fillL (xs ++ List.replicate m 0) (List.replicate (xs.length + m) 0) k)))]) (fun k => k ≤ xs.length) (fun k => xs.length - k) 0 (Nat.zero_le _)
      ⟨rfl, by show AV.ls _ _ _ _ = _; congr 1, rfl, trivial⟩ ⟨by show Ob.row true 1 (List.replicate ((xs.length : Int) + m).toNat [.s (.int .i64 0)]) = _; rw [fill_zero, show ((xs.length : Int) + m).toNat = xs.length + m by omega]; simp [cI], trivial⟩ ?_
    intro k hk
    conv => whnf
    rw [cI_len]
    refine Br.mk (fun h => ?_) (fun h => ?_)
    · have hk' : k < xs.length := by simp at h; omega
      conv => whnf
      refine ⟨⟨⟨by omega, by rw [cI_len]; omega⟩, cI_sz xs⟩, ?_⟩
      conv => whnf
      refine ⟨[.s (.int .i64 xs[k])], by simp [cI, hk'], ?_⟩
      conv => whnf
      refine ⟨by omega, ?_⟩
      conv => whnf
      refine ⟨[.s (.int .i64 (fillL (xs ++ List.replicate m 0) (List.replicate (xs.length + m) 0) k)[k]!)], by
        have : k < (fillL (xs ++ List.replicate m 0) (List.replicate (xs.length + m) 0) k).length := by rw [fill_len k1]; simp; omega
        simp [cI, this], ?_⟩
      conv => whnf
      refine Wr.fit (wrap_i64 (by omega) (by omega)) ?_
      conv => whnf
      refine ⟨k + 1, hk', by omega, ⟨rfl, rfl, rfl, trivial⟩, ?_, trivial⟩
      show Ob.row true 1 ((cI _).set k [.s (.int .i64 xs[k])]) = _
      rw [cI_set, ← fill_set k1 (by simp; omega)]
      congr 3
      rw [List.getElem_append_left hk']
    · have hk' : k = xs.length := by simp at h; omega
      subst hk'
      conv => whnf
      rw [cI_len]
      have e0 : fillL (xs ++ List.replicate m 0) (List.replicate (xs.length + m) 0) xs.length = fillL (xs ++ List.replicate m sp) (xs ++ List.replicate m 0) xs.length := by
        simp [fillL]
      rw [e0]
      refine VLoop.inv hty (S := Nat) (fun k => [(7, I k), (5, .ls 20 0 (xs.length + m) 1), (0, .d (.sl (cI xs)))])
        (fun k => [(20, .row true 1 (cI (fillL (xs ++ List.replicate m sp) (xs ++ List.replicate m 0) k)))]) (fun k => xs.length ≤ k ∧ k ≤ xs.length + m) (fun k => xs.length + m - k) xs.length ⟨Nat.le_refl _, by omega⟩
        ⟨rfl, rfl, rfl, trivial⟩ ⟨rfl, trivial⟩ ?_
      rintro k ⟨hk1, hk2⟩
      conv => whnf
      refine Br.mk (fun h => ?_) (fun h => ?_)
      · have hk' : k < xs.length + m := by simp at h; omega
        conv => whnf
        refine ⟨by omega, ?_⟩
        conv => whnf
        refine ⟨[.s (.int .i64 (fillL (xs ++ List.replicate m sp) (xs ++ List.replicate m 0) k)[k]!)], by
          have : k < (fillL (xs ++ List.replicate m sp) (xs ++ List.replicate m 0) k).length := by rw [fill_len k2]; simp; omega
          simp [cI, this], ?_⟩
        conv => whnf
        refine Wr.fit (wrap_i64 (by omega) (by omega)) ?_
        conv => whnf
        refine ⟨k + 1, ⟨by omega, by omega⟩, by omega, ⟨rfl, rfl, rfl, trivial⟩, ?_, trivial⟩
        show Ob.row true 1 ((cI _).set k [.s (.int .i64 sp)]) = _
        rw [cI_set, ← fill_set k2 (by simp; omega)]
        congr 3
        rw [List.getElem_append_right (by omega)]; simp
      · have hk' : k = xs.length + m := by simp at h; omega
        subst hk'
        conv => whnf
        rw [cI_len, fill_end k2 (by simp), ← hwl]
        refine ⟨⟨by omega, by omega, by rw [cI_len, hwl, k3]; omega⟩, ?_⟩
        conv => whnf
        exact ⟨⟨rfl, rfl, rfl, rfl, by omega, rfl⟩, [], rfl, trivial, rfl⟩

theorem fn_toI0 : Fn Try.prog 9 [.d (.sl (cI [])), B true] [] (.d (.sl [])) [] := by
  refine Fn.intro (ks := [0,1,4,5,6,7,13,24,39]) hty rfl rfl rfl rfl rfl ?_
  conv => whnf
  exact ⟨trivial, rfl⟩

/-- The same, told as data. -/
theorem fn_toId (xs : List Int) (b : Bool) (hl : xs.length ≤ 1000000) : Fn Try.prog 9 [.d (.sl (cI xs)), B b] [] (.d (.sl (cI xs))) [] := by
  by_cases h : b = false ∨ xs ≠ []
  · have := (fn_toI xs b h hl).freeze (by rw [cI_len]; simp [withRoom])
    have e : (List.drop 0 (cI (withRoom xs))).take xs.length = cI xs := by simp [cI, withRoom]
    rwa [e] at this
  · have hb : b = true := by cases b; exact absurd (.inl rfl) h; rfl
    have hx : xs = [] := Classical.byContradiction fun e => h (.inr e)
    subst hb; subst hx
    exact fn_toI0

theorem fn_eqI (xs ys : List Int) (hl : xs.length ≤ 3000000) (hl' : ys.length ≤ 3000000) :
    Fn Try.prog 14 [.d (.sl (cI xs)), .d (.sl (cI ys))] [] (B (decide (xs = ys))) [] := by
  refine Fn.intro (ks := [0,1,4,5,10,14,25]) hty rfl rfl rfl rfl rfl ?_
  conv => whnf
  rw [cI_len, cI_len]
  refine Br.mk (fun h => ?_) (fun h => ?_)
  · have h : ¬ xs.length = ys.length := by simp at h; omega
    conv => whnf
    refine ⟨?_, trivial, rfl⟩
    rw [decide_eq_false fun e => h (by rw [e])]
  · have hxy : xs.length = ys.length := by simp at h; omega
    conv => whnf
    refine VLoop.inv hty (S := Nat) (fun k => [(5, I k), (1, .d (.sl (cI ys))), (0, .d (.sl (cI xs)))]) (fun _ => []) (fun k => k ≤ xs.length ∧ xs.take k = ys.take k) (fun k => xs.length - k) 0 ⟨Nat.zero_le _, rfl⟩
      ⟨rfl, rfl, rfl, trivial⟩ trivial ?_
    rintro k ⟨hk, hp⟩
    conv => whnf
    rw [cI_len]
    refine Br.mk (fun h => ?_) (fun h => ?_)
    · have hk' : k < xs.length := by simp at h; omega
      conv => whnf
      refine VDraw.go hmo hty 9 [] rfl ?_
      conv => whnf
      refine ⟨⟨⟨by omega, by rw [cI_len]; omega⟩, cI_sz xs⟩, ?_⟩
      conv => whnf
      refine ⟨[.s (.int .i64 xs[k])], by simp [cI, hk'], ?_⟩
      conv => whnf
      refine ⟨⟨⟨by omega, by rw [cI_len]; omega⟩, cI_sz ys⟩, ?_⟩
      conv => whnf
      refine ⟨[.s (.int .i64 ys[k])], by simp [cI, ← hxy, hk'], ?_⟩
      conv => whnf
      refine Br.mk (fun h2 => ?_) (fun h2 => ?_)
      · have h2 : ¬ xs[k] = ys[k] := by simpa using h2
        conv => whnf
        refine ⟨?_, trivial, rfl⟩
        rw [decide_eq_false fun e => h2 (by subst e; rfl)]
      · have h2 : xs[k] = ys[k] := by simpa using h2
        conv => whnf
        refine Wr.fit (wrap_i64 (by omega) (by omega)) ?_
        conv => whnf
        refine ⟨k + 1, ⟨hk', ?_⟩, by omega, ⟨rfl, rfl, rfl, trivial⟩, trivial⟩
        rw [List.take_succ_eq_append_getElem hk', List.take_succ_eq_append_getElem (by omega), hp, h2]
    · have hk' : k = xs.length := by simp at h; omega
      conv => whnf
      refine ⟨?_, trivial, rfl⟩
      subst hk'
      rw [List.take_length, List.take_of_length_le (by omega)] at hp
      rw [decide_eq_true hp]

abbrev p0 : Nat := 1000000
abbrev p1 : Nat := 1000001

theorem fn_intactI (xs : List Int) (hl : xs.length ≤ 1000000) :
    Fn Try.prog 11 [.ls 1000000 0 xs.length 1, .ls 1000001 0 xs.length 1] [(1000000, .row true 1 (cI (withRoom xs))), (1000001, .row true 1 (cI (withRoom xs)))] (B true)
      [(1000000, .row true 1 (cI (withRoom xs))), (1000001, .row true 1 (cI (withRoom xs)))] := by
  have hr := room_le xs.length
  have hw : (withRoom xs).length = xs.length + room xs.length := by simp [withRoom]
  refine Fn.intro (ks := [0,1,4,5]) hty rfl rfl rfl rfl rfl ?_
  conv => whnf
  refine VCall.of_data (fn_room xs.length (by omega)) (nd _) ?_
  conv => whnf
  refine Wr.fit (wrap_i64 (by omega) (by omega)) ?_
  conv => whnf
  refine VDraw.go hmo hty 15 [] rfl ?_
  conv => whnf
  rw [decide_eq_true rfl]
  conv => whnf
  refine ⟨⟨by omega, by omega, by rw [cI_len, hw]; omega⟩, ?_⟩
  conv => whnf
  refine ⟨⟨by omega, by omega, by rw [cI_len, hw]; omega⟩, ?_⟩
  conv => whnf
  refine QCall.lend (fn_eqI (withRoom xs) (withRoom xs) (by omega) (by omega)) ⟨⟨rfl, ?_, ?_⟩, ⟨rfl, ?_, ?_⟩, trivial⟩ rfl ?_
  iterate 2
    · simp only [cI_len, hw]; omega
    · show ((cI _).drop (Int.toNat 0 + 0)).take _ = _
      rw [List.take_of_length_le (by simp [cI_len, hw]; omega)]; rfl
  conv => whnf
  exact ⟨by simp, ⟨rfl, rfl, trivial⟩, rfl⟩

/-- Marks. -/
def marks (k n : Nat) : List Int := (List.range n).map fun i => ((k + i : Nat) : Int)
theorem marks_len (k n : Nat) : (marks k n).length = n := by simp [marks]

theorem fn_markI (zs : List Int) (n k0 : Nat) (hn : n ≤ zs.length) (hl : n ≤ 1000000) (hk0 : k0 ≤ 2000000000) :
    Fn Try.prog 15 [.ls 1000000 0 n 1, I k0] [(1000000, .row true 1 (cI zs))] (I ((k0 + n : Nat) : Int)) [(1000000, .row true 1 (cI (marks k0 n ++ zs.drop n)))] := by
  have k1 : (marks k0 n ++ zs.drop n).length = zs.length := by simp [marks_len]; omega
  refine Fn.intro (ks := [0,1,4,5,9]) hty rfl rfl rfl rfl rfl ?_
  conv => whnf
  refine VLoop.inv hty (S := Nat) (fun k => [(5, I k), (1, I ((k0 + k : Nat) : Int)), (0, .ls 1000000 0 n 1)]) (fun k => [(1000000, .row true 1 (cI (fillL (marks k0 n ++ zs.drop n) zs k)))]) (fun k => k ≤ n) (fun k => n - k) 0 (Nat.zero_le _)
    ⟨rfl, rfl, rfl, trivial⟩ ⟨by rw [fill_zero]; rfl, trivial⟩ ?_
  intro k hk
  conv => whnf
  refine Br.mk (fun h => ?_) (fun h => ?_)
  · have hk' : k < n := by simp at h; omega
    conv => whnf
    refine ⟨by omega, ?_⟩
    conv => whnf
    refine ⟨[.s (.int .i64 (fillL (marks k0 n ++ zs.drop n) zs k)[k]!)], by
      have : k < (fillL (marks k0 n ++ zs.drop n) zs k).length := by rw [fill_len k1]; omega
      simp [cI, this], ?_⟩
    conv => whnf
    refine Wr.fit (wrap_i64 (by omega) (by omega)) ?_
    conv => whnf
    refine Wr.fit (wrap_i64 (by omega) (by omega)) ?_
    conv => whnf
    refine ⟨k + 1, hk', by omega, ⟨rfl, by congr 1, rfl, trivial⟩, ?_, trivial⟩
    show Ob.row true 1 ((cI _).set k [.s (.int .i64 _)]) = _
    rw [cI_set, ← fill_set k1 (by omega)]
    congr 3
    rw [List.getElem_append_left (by rw [marks_len]; exact hk')]; simp [marks]
  · have hk' : k = n := by simp at h; omega
    subst hk'
    conv => whnf
    refine ⟨rfl, ⟨?_, trivial⟩, rfl⟩
    have : fillL (marks k0 k ++ zs.drop k) zs k = marks k0 k ++ zs.drop k := by
      unfold fillL; rw [List.take_append_of_le_length (by simp [marks_len]), List.take_of_length_le (by simp [marks_len])]
    rw [this]; rfl

theorem fn_heldI (n k0 : Nat) (hl : n ≤ 1000000) (hk0 : k0 ≤ 2000000000) :
    Fn Try.prog 16 [.d (.sl (cI (marks k0 n))), I k0] [] (I ((k0 + n : Nat) : Int)) [] := by
  refine Fn.intro (ks := [0,1,4,5,9,17]) hty rfl rfl rfl rfl rfl ?_
  conv => whnf
  refine VLoop.inv hty (S := Nat) (fun k => [(5, I k), (1, I ((k0 + k : Nat) : Int)), (0, .d (.sl (cI (marks k0 n))))]) (fun _ => []) (fun k => k ≤ n) (fun k => n - k) 0 (Nat.zero_le _)
    ⟨rfl, rfl, rfl, trivial⟩ trivial ?_
  intro k hk
  conv => whnf
  rw [cI_len, marks_len]
  refine Br.mk (fun h => ?_) (fun h => ?_)
  · have hk' : k < n := by simp at h; omega
    conv => whnf
    refine ⟨⟨⟨by omega, by rw [cI_len, marks_len]; omega⟩, cI_sz _⟩, ?_⟩
    conv => whnf
    refine ⟨[.s (.int .i64 ((k0 + k : Nat) : Int))], by simp [cI, marks, hk'], ?_⟩
    conv => whnf
    rw [decide_eq_true rfl]
    conv => whnf
    refine Wr.fit (wrap_i64 (by omega) (by omega)) ?_
    conv => whnf
    refine Wr.fit (wrap_i64 (by omega) (by omega)) ?_
    conv => whnf
    exact ⟨k + 1, hk', by omega, ⟨rfl, by congr 1, rfl, trivial⟩, trivial⟩
  · have hk' : k = n := by simp at h; omega
    subst hk'
    conv => whnf
    exact ⟨rfl, trivial, rfl⟩

end Go.V
