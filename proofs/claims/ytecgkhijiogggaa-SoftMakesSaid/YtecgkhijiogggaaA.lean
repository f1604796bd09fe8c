/- Leaves: what kind of float a pattern is; signs. -/
import Derived.Test.YtecgkhijiogggaaK
import Derived.Test.YtecgkhijiogggaaS8
import Derived.Test.YtecgkhijiogggaaShelf
namespace Go.Proofs.Ytecgkhijiogggaa
set_option linter.unusedVariables false
set_option linter.unusedSimpArgs false
open Go.RowKit Go.Shelf SF

theorem mask63 (x : Nat) : x &&& 9223372036854775807 = x % 9223372036854775808 := Nat.and_two_pow_sub_one_eq_mod x 63
theorem mask52 (x : Nat) : x &&& 4503599627370495 = x % 4503599627370496 := Nat.and_two_pow_sub_one_eq_mod x 52
theorem bandnot_sign {a : Nat} (h : W a) : bits .andNot .u64 (a : Int) 9223372036854775808 = ((mag a : Nat) : Int) := by
  rw [show (9223372036854775808 : Int) = ((9223372036854775808 : Nat) : Int) from rfl, u64_andNot_nat a _ h (by decide)]
  show ((a &&& 9223372036854775807 : Nat) : Int) = _
  rw [mask63]; rfl
theorem band_sign {a : Nat} (h : W a) : bits .and .u64 (a : Int) 9223372036854775808 = if ng a then 9223372036854775808 else 0 := by
  rw [show (9223372036854775808 : Int) = ((9223372036854775808 : Nat) : Int) from rfl, u64_and_nat a _ h (by decide)]
  have := nat_bit 63 a
  rw [show (2 : Nat) ^ 63 = 9223372036854775808 by decide] at this
  rw [this]
  unfold W at h
  unfold ng
  by_cases g : 9223372036854775808 ≤ a
  · rw [decide_eq_true g, if_pos rfl, show a / 9223372036854775808 = 1 by omega]
  · rw [decide_eq_false g, if_neg (by decide), show a / 9223372036854775808 = 0 by omega, Nat.zero_mul]; rfl
theorem bor_sign {a : Nat} (h : a < 9223372036854775808) : bits .or .u64 (a : Int) 9223372036854775808 = ((a + 9223372036854775808 : Nat) : Int) := by
  rw [show (9223372036854775808 : Int) = ((9223372036854775808 : Nat) : Int) from rfl, u64_or_nat a _ (by omega) (by decide), Nat.or_comm, nat_join 63 9223372036854775808 a (by decide) h]
  congr 1; omega
theorem bxor_sign {a : Nat} (h : W a) : bits .xor .u64 (a : Int) 9223372036854775808 = ((sg (!ng a) (mag a) : Nat) : Int) := by
  rw [show (9223372036854775808 : Int) = ((9223372036854775808 : Nat) : Int) from rfl, u64_xor_nat a _ h (by decide)]
  congr 1
  unfold W at h
  have key : ∀ m, m < 9223372036854775808 → (m ^^^ 9223372036854775808 = m + 9223372036854775808) := by
    intro m hm
    have e1 : m + 9223372036854775808 = 9223372036854775808 ||| m := by rw [nat_join 63 9223372036854775808 m (by decide) hm]; omega
    rw [e1]
    apply Nat.eq_of_testBit_eq
    intro i
    rw [Nat.testBit_xor, Nat.testBit_or, show (9223372036854775808 : Nat) = 2 ^ 63 by decide, Nat.testBit_two_pow]
    by_cases hi : 63 = i
    · subst hi
      rw [Nat.testBit_lt_two_pow hm]
      decide
    · rw [decide_eq_false hi]
      simp
  unfold sg ng mag
  by_cases g : 9223372036854775808 ≤ a
  · rw [decide_eq_true g]
    simp only [Bool.not_true, Bool.false_eq_true, if_false]
    have e : a = (a % 9223372036854775808) ^^^ 9223372036854775808 := by rw [key _ (by omega)]; omega
    conv => lhs; rw [e]
    rw [Nat.xor_assoc, Nat.xor_self, Nat.xor_zero]
  · rw [decide_eq_false g]
    simp only [Bool.not_false, if_true]
    rw [key a (by omega)]
    omega
theorem band_frac {a : Nat} (h : W a) : bits .and .u64 (a : Int) 4503599627370495 = ((fr a : Nat) : Int) := by
  rw [show (4503599627370495 : Int) = ((4503599627370495 : Nat) : Int) from rfl, u64_and_nat a _ h (by decide), mask52]; rfl
theorem band_one {a : Nat} (h : W a) : bits .and .u64 (a : Int) 1 = ((a % 2 : Nat) : Int) := by
  rw [show (1 : Int) = ((1 : Nat) : Int) from rfl, u64_and_nat a _ h (by decide), nat_mask1]
theorem band_2047 {a : Nat} (h : W a) : bits .and .u64 (a : Int) 2047 = ((a % 2048 : Nat) : Int) := by
  rw [show (2047 : Int) = ((2047 : Nat) : Int) from rfl, u64_and_nat a _ h (by decide)]
  congr 1
  exact Nat.and_two_pow_sub_one_eq_mod a 11
theorem bor_hidden {a : Nat} (h : a < 4503599627370496) : bits .or .u64 (a : Int) 4503599627370496 = ((a + 4503599627370496 : Nat) : Int) := by
  rw [show (4503599627370496 : Int) = ((4503599627370496 : Nat) : Int) from rfl, u64_or_nat a _ (by omega) (by decide), Nat.or_comm, nat_join 52 4503599627370496 a (by decide) h]
  congr 1; omega
theorem bor_at {a b s : Nat} (ha : a % 2 ^ s = 0) (hb : b < 2 ^ s) (h1 : W a) (h2 : W b) : bits .or .u64 (a : Int) (b : Int) = ((a + b : Nat) : Int) := by
  rw [u64_or_nat a b h1 h2, nat_join s a b ha hb]
theorem ret_u {a b : Nat} (h : a = b) : Ending.returned (.int .u64 (a : Int)) = .returned (.int .u64 (b : Int)) := by rw [h]
theorem W_of {a : Nat} (h : a < 18446744073709551616) : W a := h
theorem isnan_c (a : Nat) (ha : W a) (w : World) : Calls Try.prog 62 #[.int .u64 a] w fun e w' => e = .returned (.bool (nan a)) ∧ w = w' := by
  go_enter Try.func62, Try.ntmps62
  go_wp2
  go_ret
  exact ⟨retb (by rw [bandnot_sign ha]; unfold nan; rw [decide_eq_decide]; omega), rfl⟩
theorem risnan_c (a : Nat) (ha : W a) (w : World) : Calls Try.prog 71 #[.int .u64 a] w fun e w' => e = .returned (.bool (nan a)) ∧ w = w' := by
  go_enter Try.func71, Try.ntmps71
  go_wp2
  go_ret
  exact ⟨retb (by rw [bandnot_sign ha]; unfold nan; rw [decide_eq_decide]; omega), rfl⟩
theorem isinf_c (a : Nat) (ha : W a) (w : World) : Calls Try.prog 63 #[.int .u64 a] w fun e w' => e = .returned (.bool (inf a)) ∧ w = w' := by
  go_enter Try.func63, Try.ntmps63
  go_wp2
  go_ret
  exact ⟨retb (by rw [bandnot_sign ha]; unfold inf; rw [Bool.eq_iff_iff]; simp only [beq_iff_eq, decide_eq_true_eq]; omega), rfl⟩
theorem risinf_c (a : Nat) (ha : W a) (w : World) : Calls Try.prog 72 #[.int .u64 a] w fun e w' => e = .returned (.bool (inf a)) ∧ w = w' := by
  go_enter Try.func72, Try.ntmps72
  go_wp2
  go_ret
  exact ⟨retb (by rw [bandnot_sign ha]; unfold inf; rw [Bool.eq_iff_iff]; simp only [beq_iff_eq, decide_eq_true_eq]; omega), rfl⟩
theorem iszero_c (a : Nat) (ha : W a) (w : World) : Calls Try.prog 64 #[.int .u64 a] w fun e w' => e = .returned (.bool (zer a)) ∧ w = w' := by
  go_enter Try.func64, Try.ntmps64
  go_wp2
  go_ret
  exact ⟨retb (by rw [bandnot_sign ha]; unfold zer; rw [Bool.eq_iff_iff]; simp only [beq_iff_eq, decide_eq_true_eq]; omega), rfl⟩
theorem riszero_c (a : Nat) (ha : W a) (w : World) : Calls Try.prog 73 #[.int .u64 a] w fun e w' => e = .returned (.bool (zer a)) ∧ w = w' := by
  go_enter Try.func73, Try.ntmps73
  go_wp2
  go_ret
  exact ⟨retb (by rw [bandnot_sign ha]; unfold zer; rw [Bool.eq_iff_iff]; simp only [beq_iff_eq, decide_eq_true_eq]; omega), rfl⟩
theorem isneg_c (a : Nat) (ha : W a) (w : World) : Calls Try.prog 61 #[.int .u64 a] w fun e w' => e = .returned (.bool (ng a)) ∧ w = w' := by
  go_enter Try.func61, Try.ntmps61
  go_wp2
  go_ret
  exact ⟨retb (by unfold W at ha; unfold ng; rw [Bool.eq_iff_iff]; simp only [beq_iff_eq, decide_eq_true_eq]; omega), rfl⟩
theorem rminus_c (a : Nat) (ha : W a) (w : World) : Calls Try.prog 70 #[.int .u64 a] w fun e w' => e = .returned (.bool (ng a)) ∧ w = w' := by
  go_enter Try.func70, Try.ntmps70
  go_wp2
  go_ret
  exact ⟨retb (by rw [band_sign ha]; cases ng a <;> rfl), rfl⟩
theorem lnan_c (a : Nat) (ha : W a) (w : World) : Calls Try.prog 33 #[.int .u64 a] w fun e w' => e = .returned (.bool (nan a)) ∧ w = w' := by
  go_enter Try.func33, Try.ntmps33
  go_wp2
  go_ret
  exact ⟨retb (by rw [bandnot_sign ha]; unfold nan; rw [decide_eq_decide]; omega), rfl⟩
theorem sign_c (a : Nat) (b : Bool) (ha : a < 9223372036854775808) (w : World) : Calls Try.prog 65 #[.int .u64 a, .bool b] w fun e w' => e = .returned (.int .u64 ((sg b a : Nat) : Int)) ∧ w = w' := by
  cases b
  · go_enter Try.func65, Try.ntmps65
    go_wp2
    go_ret
    exact ⟨rfl, rfl⟩
  · have H := Lib.hid (bor_sign ha)
    go_enter Try.func65, Try.ntmps65
    go_wp2
    go_ret
    exact ⟨ret1 H.out, rfl⟩
theorem rsigned_c (a : Nat) (b : Bool) (ha : a < 9223372036854775808) (w : World) : Calls Try.prog 74 #[.bool b, .int .u64 a] w fun e w' => e = .returned (.int .u64 ((sg b a : Nat) : Int)) ∧ w = w' := by
  cases b
  · go_enter Try.func74, Try.ntmps74
    go_wp2
    go_ret
    exact ⟨rfl, rfl⟩
  · have H := Lib.hid (bor_sign ha)
    go_enter Try.func74, Try.ntmps74
    go_wp2
    go_ret
    exact ⟨ret1 H.out, rfl⟩
end Go.Proofs.Ytecgkhijiogggaa
