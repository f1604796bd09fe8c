/- bobbinref1's functions that are used here. -/
import Derived.Test.YtjioombinbngpaaD
import Derived.Test.YtjioombinbngpaaP3
namespace Go.Proofs.Ytjioombinbngpaa
set_option linter.unusedVariables false
set_option linter.unusedSimpArgs false
open Go.RowKit Go.Shelf
def trip (r q t : Int) : Value := .tuple #[.int .i64 r, .int .i64 q, .int .i64 t]
def udivV (lo hi d : Int) : Value :=
  if d = 0 then trip 0 0 (-10) else if U d ≤ U hi then trip 0 0 (-11) else trip (wrap64 (UD lo hi % U d)) (wrap64 (UD lo hi / U d)) 0
theorem quo_big {n d : Int} (hd : 0 < d) (h : d ≤ n / 18446744073709551616) : 18446744073709551616 ≤ n / d := by
  have := Int.mul_le_mul_of_nonneg_right (show d ≤ n / 18446744073709551616 from h) (show (0 : Int) ≤ 18446744073709551616 by decide)
  have e := Int.ediv_mul_le n (show (18446744073709551616 : Int) ≠ 0 by decide)
  exact Int.le_ediv_of_mul_le hd (by rw [Int.mul_comm]; omega)
theorem quo_small {n d : Int} (hd : 0 < d) (h : n / 18446744073709551616 < d) : n / d < 18446744073709551616 := by
  exact Int.ediv_lt_of_lt_mul hd (by omega)
/-- The three results, as numbers: so that a caller's walk sees them. -/
def n1 : Value → Int | .tuple #[.int _ a, _, _] => a | _ => 0
def n2 : Value → Int | .tuple #[_, .int _ a, _] => a | _ => 0
def n3 : Value → Int | .tuple #[_, _, .int _ a] => a | _ => 0
theorem cell_dhi (v : Int) : Cell (dhi v) := by unfold dhi wrap64; exact ⟨by omega, by omega⟩
theorem cell_dlo (v : Int) : Cell (dlo v) := by unfold dlo wrap64; exact ⟨by omega, by omega⟩
theorem cell_wf {x : Int} (h : (Lit.int .i64 x).wf = true) : Cell x := by
  simp [Lit.wf, IntKind.min, IntKind.max, IntKind.signed, IntKind.bits] at h
  exact ⟨by omega, by omega⟩
theorem wrap_id (x : Int) (h0 : 0 ≤ x) (h1 : x < 18446744073709551616) : IntKind.u64.wrap x = x := by rw [IntKind.wrap_u64]; exact Int.emod_eq_of_lt h0 h1
theorem rumul_c (a b : Int) (w : World) : Calls Try.prog 32 #[.int .i64 a, .int .i64 b] w fun e w' =>
    e = .returned (.tuple #[.int .i64 (dlo (U a * U b)), .int .i64 (dhi (U a * U b))]) ∧ w = w' := by
  have h := Lib.hid (halves a b)
  unfold dlo dhi
  go_enter Try.func32, Try.ntmps32
  go_wp2
  go_ret2
  exact ⟨ret2 (by rw [h.out.1]; unfold wrap64; omega) (by rw [h.out.2]), rfl⟩
theorem xor_not (x : Int) (h : Cell x) : bits .xor .i64 (-1) x = -x - 1 := by
  obtain ⟨h0, h1⟩ := h
  have e : (BitVec.ofInt 64 (-1) ^^^ BitVec.ofInt 64 x) = ~~~ (BitVec.ofInt 64 x) := by
    rw [← BitVec.allOnes_xor]; rfl
  show IntKind.i64.wrap ((BitVec.ofInt 64 (-1) ^^^ BitVec.ofInt 64 x).toNat : Int) = _
  rw [e, BitVec.toNat_not, BitVec.toNat_ofInt, IntKind.wrap_i64]
  omega
theorem rneg_c (lo hi : Int) (hl : Cell lo) (h : Cell hi) (w : World) : Calls Try.prog 31 #[.int .i64 lo, .int .i64 hi] w fun e w' =>
    e = .returned (.tuple #[.int .i64 (dlo (-(D lo hi))), .int .i64 (dhi (-(D lo hi)))]) ∧ w = w' := by
  have hx := Lib.hid (xor_not hi h)
  have b0 := h.1
  have b1 := h.2
  have b2 := hl.1
  have b3 := hl.2
  unfold dlo dhi D
  by_cases c : lo = 0
  · subst c
    go_enter Try.func31, Try.ntmps31
    go_wp2
    go_ret2
    exact ⟨ret2 (by unfold wrap64; omega) (by unfold wrap64; omega), rfl⟩
  · have c' : (lo == 0) = false := by simpa using c
    go_enter Try.func31, Try.ntmps31
    go_wp2
    go_ret2
    exact ⟨ret2 (by unfold wrap64; omega) (by rw [hx.out]; unfold wrap64; omega), rfl⟩
set_option maxHeartbeats 2000000 in
theorem rdivide_c (lo hi d : Int) (hd : Cell d) (hd0 : ¬ d = 0) (w : World) : Calls Try.prog 34 #[.int .i64 lo, .int .i64 hi, .int .i64 d] w fun e w' =>
    e = .returned (.tuple #[.int .i64 (dlo (UD lo hi / U d)), .int .i64 (dhi (UD lo hi / U d)), .int .i64 (wrap64 (UD lo hi % U d))]) ∧ w = w' := by
  have hN := UD_bounds lo hi
  have eU : U d = IntKind.u64.wrap d := by unfold U; rw [IntKind.wrap_u64]
  rw [eU]
  have u0 : 0 < IntKind.u64.wrap d := by rw [IntKind.wrap_u64]; have := hd.1; have := hd.2; omega
  have u1 : IntKind.u64.wrap d ≤ 18446744073709551615 := by rw [IntKind.wrap_u64]; omega
  have S := Lib.hid (divAt_start (UD lo hi) (IntKind.u64.wrap d) hN.1 hN.2)
  clear eU
  go_enter Try.func34, Try.ntmps34
  go_wp2_with fail
  go_loop [9, 10, 11, 12, 13, 14] (fun r ql qh i b t => ∃ (k : Nat) (R Ql Qh : Int), k ≤ 128 ∧ i = .int .i64 ((k : Int) - 1) ∧ r = .int .u64 R ∧ ql = .int .u64 Ql ∧ qh = .int .u64 Qh ∧ Hid (DivAt (UD lo hi) (IntKind.u64.wrap d) k R Ql Qh)) (fun _ _ _ i _ _ => (intOf i + 1).toNat)
  case atStart => exact ⟨128, 0, 0, 0, by decide, rfl, rfl, rfl, rfl, S⟩
  case round =>
    obtain ⟨k, R, Ql, Qh, hk, rfl, rfl, rfl, rfl, hS⟩ := hrel
    clear S
    have R0 : 0 ≤ R := by rw [hS.out.r]; exact Int.emod_nonneg _ (by omega)
    have R1 : R < IntKind.u64.wrap d := by rw [hS.out.r]; exact Int.emod_lt_of_pos _ u0
    have q0 := hS.out.ql0
    have q1 := hS.out.ql1
    have q2 := hS.out.qh0
    have q3 := hS.out.qh1
    by_cases hk0 : k = 0
    · subst hk0
      have e1 := hS.out.q
      have e2 := hS.out.r
      simp only [Int.pow_zero, Int.ediv_one] at e1 e2
      have E1 := Lib.hid e1
      have E2 := Lib.hid e2
      clear e1 e2
      go_wp2
      go_ret3
      exact ⟨ret3 (by rw [← E1.out]; unfold dlo wrap64; omega) (by rw [← E1.out]; unfold dhi wrap64; omega) (by rw [← E2.out]), rfl⟩
    · have k1 : 1 ≤ k := by omega
      obtain ⟨b, hb⟩ : ∃ b, b = UD lo hi / 2 ^ (k - 1) % 2 := ⟨_, rfl⟩
      have b0 : 0 ≤ b := by omega
      have b1 : b ≤ 1 := by omega
      have HB := Lib.hid hb
      have hbit : if 64 < k then bits .and .u64 (IntKind.u64.wrap hi / 2 ^ (k - 1 - 64)) 1 = b else bits .and .u64 (IntKind.u64.wrap lo / 2 ^ ((k - 1) % 64)) 1 = b := by
        split
        · rw [hb]; exact bit_of_high lo hi k (by assumption)
        · rw [hb]; exact bit_of_low lo hi k k1 (by omega)
      clear hb hk0
      by_cases c1 : 9223372036854775808 ≤ R
      · obtain ⟨t, ht⟩ : ∃ t, bits .or .u64 (IntKind.u64.wrap (R * 2)) b = t := ⟨_, rfl⟩
        have F := Lib.hid (round_sub (t := t) k1 u0 u1 hN.1 hN.2 hS.out HB.out (by rw [← ht, or_bit _ _ b0 b1]; omega) (by omega))
        by_cases h64 : 64 < k
        · rw [if_pos h64] at hbit
          go_wp2
          go_round
          case rel => exact ⟨k - 1, _, _, _, by omega, ret_int (by omega), rfl, rfl, rfl, F⟩
          case measure => simp [intOf]; omega
        · rw [if_neg h64] at hbit
          go_wp2
          go_round
          case rel => exact ⟨k - 1, _, _, _, by omega, ret_int (by omega), rfl, rfl, rfl, F⟩
          case measure => simp [intOf]; omega
      · have ht := or_bit_small R b R0 (by omega) b0 b1
        by_cases c2 : IntKind.u64.wrap d ≤ 2 * R + b
        · have F0 := round_sub (t := 2 * R + b) k1 u0 u1 hN.1 hN.2 hS.out HB.out (by omega) c2
          rw [wrap_id (2 * R + b - IntKind.u64.wrap d) (by omega) (by omega)] at F0
          have F := Lib.hid F0
          clear F0
          by_cases h64 : 64 < k
          · rw [if_pos h64] at hbit
            go_wp2
            go_round
            case rel => exact ⟨k - 1, _, _, _, by omega, ret_int (by omega), rfl, rfl, rfl, F⟩
            case measure => simp [intOf]; omega
          · rw [if_neg h64] at hbit
            go_wp2
            go_round
            case rel => exact ⟨k - 1, _, _, _, by omega, ret_int (by omega), rfl, rfl, rfl, F⟩
            case measure => simp [intOf]; omega
        · have F := Lib.hid (round_keep (t := 2 * R + b) k1 u0 u1 hN.1 hN.2 hS.out HB.out rfl (by omega))
          by_cases h64 : 64 < k
          · rw [if_pos h64] at hbit
            go_wp2
            go_round
            case rel => exact ⟨k - 1, _, _, _, by omega, ret_int (by omega), rfl, rfl, rfl, F⟩
            case measure => simp [intOf]; omega
          · rw [if_neg h64] at hbit
            go_wp2
            go_round
            case rel => exact ⟨k - 1, _, _, _, by omega, ret_int (by omega), rfl, rfl, rfl, F⟩
            case measure => simp [intOf]; omega
theorem rudiv_c (lo hi d : Int) (hd : Cell d) (w : World) : Calls Try.prog 28 #[.int .i64 lo, .int .i64 hi, .int .i64 d] w fun e w' =>
    e = .returned (.tuple #[.int .i64 (n1 (udivV lo hi d)), .int .i64 (n2 (udivV lo hi d)), .int .i64 (n3 (udivV lo hi d))]) ∧ w = w' := by
  unfold udivV
  by_cases h0 : d = 0
  · subst h0
    go_enter Try.func28, Try.ntmps28
    go_wp2
    go_ret3
    exact ⟨rfl, rfl⟩
  · rw [if_neg h0]
    have k0 : (d == 0) = false := by simpa using h0
    have u0 : 0 < U d := by unfold U; have := hd.1; have := hd.2; omega
    have n0 := UD_bounds lo hi
    have q0 := Int.ediv_nonneg n0.1 (Int.le_of_lt u0)
    have q1 := Int.ediv_le_self (U d) n0.1
    by_cases h1 : U d ≤ U hi
    · have hq : 18446744073709551616 ≤ UD lo hi / U d := quo_big u0 (by unfold UD; unfold U at h1 ⊢; omega)
      have ho : (dhi (UD lo hi / U d) == 0) = false := by unfold dhi wrap64; simp; omega
      rw [if_pos h1]
      clear hq h1
      go_enter Try.func28, Try.ntmps28
      go_wp2_with (go_at_call 34; refine (rdivide_c _ _ _ hd h0 _).mono ?_; rintro e w' ⟨rfl, rfl⟩)
      go_ret3
      exact ⟨rfl, rfl⟩
    · have hq : UD lo hi / U d < 18446744073709551616 := quo_small u0 (by unfold UD; unfold U at h1 ⊢; omega)
      have ho : (dhi (UD lo hi / U d) == 0) = true := by unfold dhi wrap64; simp; omega
      rw [if_neg h1]
      clear hq h1
      go_enter Try.func28, Try.ntmps28
      go_wp2_with (go_at_call 34; refine (rdivide_c _ _ _ hd h0 _).mono ?_; rintro e w' ⟨rfl, rfl⟩)
      go_ret3
      exact ⟨rfl, rfl⟩
theorem radd_c (alo ahi blo bhi : Int) (w : World) : Calls Try.prog 26 #[.int .i64 alo, .int .i64 ahi, .int .i64 blo, .int .i64 bhi] w fun e w' =>
    e = .returned (.tuple #[.int .i64 (dlo (D alo ahi + D blo bhi)), .int .i64 (dhi (D alo ahi + D blo bhi))]) ∧ w = w' := by
  unfold dlo dhi D
  go_enter Try.func26, Try.ntmps26
  go_wp2
  all_goals
    have h1 : (alo + blo) % 18446744073709551616 < alo % 18446744073709551616 ∨ ¬ (alo + blo) % 18446744073709551616 < alo % 18446744073709551616 := by omega
    go_ret2
    refine ⟨ret2 ?_ ?_, rfl⟩
    · simp only [IntKind.wrap_u64] at *
      unfold wrap64
      omega
    · simp only [IntKind.wrap_u64] at *
      unfold wrap64
      omega
end Go.Proofs.Ytjioombinbngpaa
