/- The laws of doubles, and that a quotient times its divisor and the rest lead back. -/
import Derived.Test.YtdelhinfablhjaaV
namespace Go.Proofs.Ytdelhinfablhjaa
set_option linter.unusedVariables false
set_option linter.unusedSimpArgs false
open Go.RowKit Go.Shelf

theorem beq_of {a b : Int} (h : a = b) : (a == b) = true := by simpa using h
theorem wrap_congr {x y : Int} (h : x % 18446744073709551616 = y % 18446744073709551616) : wrap64 x = wrap64 y := by unfold wrap64; omega
theorem dlo_U (a b : Int) : dlo (U a * U b) = dlo (a * b) := by
  unfold dlo U
  apply wrap_congr
  rw [Int.mul_emod a b]
theorem laws_walk (alo ahi blo bhi a b : Int) (hal : Cell alo) (hah : Cell ahi) (ha : Cell a) (hb : Cell b) (w : World) :
    Calls Try.prog 9 #[.int .i64 alo, .int .i64 ahi, .int .i64 blo, .int .i64 bhi, .int .i64 a, .int .i64 b] w fun e w' => e = .returned (.bool true) ∧ ∃ n, w' = w.drewN n := by
  have e1 : (dlo (D alo ahi + D blo bhi) == dlo (D blo bhi + D alo ahi)) = true := beq_of (by rw [Int.add_comm])
  have e2 : (dhi (D alo ahi + D blo bhi) == dhi (D blo bhi + D alo ahi)) = true := beq_of (by rw [Int.add_comm])
  have e3 : (dlo (D (dlo (D alo ahi + D blo bhi)) (dhi (D alo ahi + D blo bhi)) - D blo bhi) == alo) = true := beq_of (by
    obtain ⟨h0, h1⟩ := hal; unfold dlo dhi D wrap64; omega)
  have e4 : (dhi (D (dlo (D alo ahi + D blo bhi)) (dhi (D alo ahi + D blo bhi)) - D blo bhi) == ahi) = true := beq_of (by
    obtain ⟨h0, h1⟩ := hah; unfold dlo dhi D wrap64; omega)
  have e5 : (dlo (U a * U b) == dlo (U b * U a)) = true := beq_of (by rw [Int.mul_comm])
  have e6 : (dhi (U a * U b) == dhi (U b * U a)) = true := beq_of (by rw [Int.mul_comm])
  have e7 : (dlo (a * b) == dlo (b * a)) = true := beq_of (by rw [Int.mul_comm])
  have e8 : (dhi (a * b) == dhi (b * a)) = true := beq_of (by rw [Int.mul_comm])
  have e9 : (dlo (U a * U b) == dlo (a * b)) = true := beq_of (dlo_U a b)
  by_cases c : D alo ahi < D blo bhi
  · have l1 : lessB alo ahi blo bhi = true := decide_eq_true c
    have l2 : lessB blo bhi alo ahi = false := decide_eq_false (by omega)
    clear c
    go_enter Try.func9, Try.ntmps9
    go_wp2_with (first
      | (go_at_call 20; refine (add_c _ _ _ _ _).mono ?_; rintro e w' ⟨rfl, rfl⟩)
      | (go_at_call 22; refine (sub_c _ _ _ _ _).mono ?_; rintro e w' ⟨rfl, rfl⟩)
      | (go_at_call 24; refine (less_c _ _ _ _ _).mono ?_; rintro e w' ⟨rfl, rfl⟩)
      | (go_at_call 28; refine (umul_c _ _ _).mono ?_; rintro e w' ⟨rfl, rfl⟩)
      | (go_at_call 30; with_reducible refine (mul_c _ _ ha hb _).mono ?_; rintro e w' ⟨rfl, rfl⟩)
      | (go_at_call 30; with_reducible refine (mul_c _ _ hb ha _).mono ?_; rintro e w' ⟨rfl, rfl⟩)
      | (go_at_call 13; refine (awake_c _).mono ?_; rintro e w' ⟨rfl, n, rfl⟩))
    go_ret
    exact ⟨rfl, _, rfl⟩
  · have l1 : lessB alo ahi blo bhi = false := decide_eq_false c
    clear c
    go_enter Try.func9, Try.ntmps9
    go_wp2_with (first
      | (go_at_call 20; refine (add_c _ _ _ _ _).mono ?_; rintro e w' ⟨rfl, rfl⟩)
      | (go_at_call 22; refine (sub_c _ _ _ _ _).mono ?_; rintro e w' ⟨rfl, rfl⟩)
      | (go_at_call 24; refine (less_c _ _ _ _ _).mono ?_; rintro e w' ⟨rfl, rfl⟩)
      | (go_at_call 28; refine (umul_c _ _ _).mono ?_; rintro e w' ⟨rfl, rfl⟩)
      | (go_at_call 30; with_reducible refine (mul_c _ _ ha hb _).mono ?_; rintro e w' ⟨rfl, rfl⟩)
      | (go_at_call 30; with_reducible refine (mul_c _ _ hb ha _).mono ?_; rintro e w' ⟨rfl, rfl⟩)
      | (go_at_call 13; refine (awake_c _).mono ?_; rintro e w' ⟨rfl, n, rfl⟩))
    go_ret
    exact ⟨rfl, _, rfl⟩

theorem D_cell (r : Int) (h : Cell r) : D r (if r < 0 then -1 else 0) = r := by
  obtain ⟨h0, h1⟩ := h
  unfold D
  split <;> omega
theorem mul_range {q d : Int} (hq : Cell q) (hd : Cell d) : -85070591730234615865843651857942052864 ≤ q * d ∧ q * d ≤ 85070591730234615865843651857942052864 := by
  have h := abs_prod hq hd
  have e := mul_sg q d
  unfold sg at e
  split at e <;> omega
theorem back_c (q d r : Int) (hq : Cell q) (hd : Cell d) (hr : Cell r) (w : World) : Calls Try.prog 34 #[.int .i64 q, .int .i64 d, .int .i64 r] w fun e w' =>
    e = .returned (.tuple #[.int .i64 (dlo (q * d + r)), .int .i64 (dhi (q * d + r))]) ∧ w = w' := by
  have m := mul_range hq hd
  have e1 := Lib.hid (D_of (q * d) (by omega) (by omega))
  have e2 := Lib.hid (D_cell r hr)
  by_cases c : r < 0
  · have e3 : Hid (D r (-1) = r) := Lib.hid (by have := e2.out; rwa [if_pos c] at this)
    go_enter Try.func34, Try.ntmps34
    go_wp2_with (first
      | (go_at_call 30; refine (mul_c _ _ hq hd _).mono ?_; rintro e w' ⟨rfl, rfl⟩)
      | (go_at_call 20; refine (add_c _ _ _ _ _).mono ?_; rintro e w' ⟨rfl, rfl⟩))
    go_ret2
    exact ⟨ret2 (by rw [e1.out, e3.out]) (by rw [e1.out, e3.out]), rfl⟩
  · have e3 : Hid (D r 0 = r) := Lib.hid (by have := e2.out; rwa [if_neg c] at this)
    go_enter Try.func34, Try.ntmps34
    go_wp2_with (first
      | (go_at_call 30; refine (mul_c _ _ hq hd _).mono ?_; rintro e w' ⟨rfl, rfl⟩)
      | (go_at_call 20; refine (add_c _ _ _ _ _).mono ?_; rintro e w' ⟨rfl, rfl⟩))
    go_ret2
    exact ⟨ret2 (by rw [e1.out, e3.out]) (by rw [e1.out, e3.out]), rfl⟩

/-- What a division hands over. -/
structure Out (lo hi d r q t : Int) : Prop where
  z : t = -10 ↔ d = 0
  cr : t = 0 → Cell r
  cq : t = 0 → Cell q
  eq : t = 0 → q * d + r = D lo hi
theorem aD_sg (lo hi : Int) : D lo hi = sg (decide (hi < 0)) (aD lo hi) := by
  unfold sg aD
  by_cases c : hi < 0 <;> simp [c]
theorem aC_sg (d : Int) : d = sg (decide (d < 0)) (aC d) := by
  unfold sg aC
  by_cases c : d < 0 <;> simp [c]
theorem sg_cell {b : Bool} {n : Int} (h0 : 0 ≤ n) (h : cellOk b n = true) : Cell (sg b n) := by
  have := wrap_sg h0 h
  rw [← this]
  unfold wrap64
  exact ⟨by omega, by omega⟩
theorem back_mul (a b : Bool) (n c l : Int) : sg (!(a == b)) n * sg b c + sg a l = sg a (n * c + l) := by
  cases a <;> cases b <;> simp [sg, Int.neg_mul, Int.mul_neg] <;> omega
theorem back_mul2 (a b : Bool) (n c l : Int) (h : (!(a == b)) = true) : sg (!(a == b)) (n + 1) * sg b c + sg b (c - l) = sg a (n * c + l) := by
  cases a <;> cases b <;> simp [sg, Int.neg_mul, Int.mul_neg, Int.add_mul] at h ⊢ <;> omega

theorem sym_out (lo hi d : Int) (hh : Cell hi) (hd : Cell d) : ∃ r q t, symV lo hi d = trip r q t ∧ Out lo hi d r q t ∧
    (t = 0 → (r = 0 ∨ (r < 0 ↔ hi < 0)) ∧ (0 < d → r < d ∧ -d < r) ∧ (d < 0 → d < r ∧ r < -d)) := by
  by_cases h0 : d = 0
  · subst h0
    exact ⟨0, 0, -10, by unfold symV; rw [if_pos rfl], ⟨by decide, by intro h; omega, by intro h; omega, by intro h; omega⟩, by intro h; omega⟩
  · have c := aC_pos hd h0
    have b := aD_bounds lo hh
    have q0 : 0 ≤ aD lo hi / aC d := Int.ediv_nonneg b.1 (by omega)
    have r0 : 0 ≤ aD lo hi % aC d := Int.emod_nonneg (aD lo hi) (by omega)
    have r1 : aD lo hi % aC d < aC d := Int.emod_lt_of_pos (aD lo hi) (by omega)
    have e0 := Int.mul_ediv_add_emod (aD lo hi) (aC d)
    rw [Int.mul_comm] at e0
    cases hok : cellOk (!(decide (hi < 0) == decide (d < 0))) (aD lo hi / aC d)
    · exact ⟨0, 0, -11, symV_no h0 rfl rfl rfl hok, ⟨by omega, by intro h; omega, by intro h; omega, by intro h; omega⟩, by intro h; omega⟩
    · refine ⟨_, _, 0, symV_ok h0 rfl rfl rfl rfl hok, ⟨by omega, fun _ => ?_, fun _ => sg_cell q0 hok, fun _ => ?_⟩, fun _ => ⟨?_, ?_, ?_⟩⟩
      · exact sg_cell r0 (by unfold cellOk; split <;> simp <;> omega)
      · have := back_mul (decide (hi < 0)) (decide (d < 0)) (aD lo hi / aC d) (aC d) (aD lo hi % aC d)
        rw [← aC_sg, e0, ← aD_sg] at this
        exact this
      · unfold sg; by_cases ch : hi < 0 <;> simp [ch] <;> omega
      · intro hp
        have : aC d = d := by unfold aC; rw [if_neg (by omega)]
        unfold sg; split <;> omega
      · intro hp
        have : aC d = -d := by unfold aC; rw [if_pos hp]
        unfold sg; split <;> omega
theorem floor_out (lo hi d : Int) (hh : Cell hi) (hd : Cell d) : ∃ r q t, floorV lo hi d = trip r q t ∧ Out lo hi d r q t ∧
    (t = 0 → (r = 0 ∨ (r < 0 ↔ d < 0)) ∧ (0 < d → r < d) ∧ (d < 0 → d < r)) := by
  by_cases h0 : d = 0
  · subst h0
    exact ⟨0, 0, -10, by unfold floorV; rw [if_pos rfl], ⟨by decide, by intro h; omega, by intro h; omega, by intro h; omega⟩, by intro h; omega⟩
  · have c := aC_pos hd h0
    have b := aD_bounds lo hh
    have q0 : 0 ≤ aD lo hi / aC d := Int.ediv_nonneg b.1 (by omega)
    have r0 : 0 ≤ aD lo hi % aC d := Int.emod_nonneg (aD lo hi) (by omega)
    have r1 : aD lo hi % aC d < aC d := Int.emod_lt_of_pos (aD lo hi) (by omega)
    have e0 := Int.mul_ediv_add_emod (aD lo hi) (aC d)
    rw [Int.mul_comm] at e0
    have fq : 0 ≤ flQ lo hi d := by have := flQ_ge lo hi d; omega
    have fr : 0 ≤ flR lo hi d ∧ flR lo hi d < aC d ∧ sg (!(decide (hi < 0) == decide (d < 0))) (flQ lo hi d) * d + sg (decide (d < 0)) (flR lo hi d) = D lo hi := by
      by_cases hl : 0 < aD lo hi % aC d
      · cases hs : (!(decide (hi < 0) == decide (d < 0)))
        · obtain ⟨f1, f2⟩ := fl_no (lo := lo) rfl rfl (.inl hs)
          rw [f1, f2]
          refine ⟨r0, r1, ?_⟩
          have := back_mul (decide (hi < 0)) (decide (d < 0)) (aD lo hi / aC d) (aC d) (aD lo hi % aC d)
          rw [← aC_sg, e0, ← aD_sg, hs] at this
          have e : decide (hi < 0) = decide (d < 0) := by simpa using hs
          rw [e] at this
          exact this
        · obtain ⟨f1, f2⟩ := fl_yes (lo := lo) rfl rfl hs hl
          rw [f1, f2]
          refine ⟨by omega, by omega, ?_⟩
          have := back_mul2 (decide (hi < 0)) (decide (d < 0)) (aD lo hi / aC d) (aC d) (aD lo hi % aC d) hs
          rw [← aC_sg, e0, ← aD_sg, hs] at this
          exact this
      · obtain ⟨f1, f2⟩ := fl_no (lo := lo) (hi := hi) (d := d) rfl rfl (.inr hl)
        rw [f1, f2]
        refine ⟨r0, r1, ?_⟩
        have := back_mul (decide (hi < 0)) (decide (d < 0)) (aD lo hi / aC d) (aC d) (aD lo hi % aC d)
        rw [← aC_sg, e0, ← aD_sg] at this
        have z : aD lo hi % aC d = 0 := by omega
        have z1 : ∀ b, sg b 0 = 0 := by intro b; cases b <;> rfl
        rw [z, z1] at this ⊢
        exact this
    cases hok : cellOk (!(decide (hi < 0) == decide (d < 0))) (flQ lo hi d)
    · exact ⟨0, 0, -11, floorV_no h0 rfl rfl rfl rfl hok, ⟨by omega, by intro h; omega, by intro h; omega, by intro h; omega⟩, by intro h; omega⟩
    · refine ⟨_, _, 0, floorV_ok h0 rfl rfl rfl rfl rfl rfl hok, ⟨by omega, fun _ => ?_, fun _ => sg_cell fq hok, fun _ => fr.2.2⟩, fun _ => ⟨?_, ?_, ?_⟩⟩
      · exact sg_cell fr.1 (by unfold cellOk; split <;> simp <;> omega)
      · unfold sg; by_cases ch : d < 0 <;> simp [ch] <;> omega
      · intro hp
        have : aC d = d := by unfold aC; rw [if_neg (by omega)]
        unfold sg; rw [if_neg (by simp; omega)]; omega
      · intro hp
        have : aC d = -d := by unfold aC; rw [if_pos hp]
        unfold sg; rw [if_pos (by simpa using hp)]; omega
end Go.Proofs.Ytdelhinfablhjaa
