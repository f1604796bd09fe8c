/- Floats as exact numbers, rounded once: plainly (8). -/
import Derived.Test.YtecgkhijiogggaaS7
namespace Go.Proofs.Ytecgkhijiogggaa.SF
set_option linter.unusedVariables false
set_option linter.unusedSimpArgs false

/-- Two words. -/
def two (hi lo : Nat) : Nat := hi * 18446744073709551616 + lo
theorem two_lt {hi lo : Nat} (h1 : W hi) (h2 : W lo) : two hi lo < 340282366920938463463374607431768211456 := by unfold two W at *; omega
theorem P64n {n : Nat} (h : n ≤ 64) : (18446744073709551616 : Nat) = 2 ^ n * 2 ^ (64 - n) := by
  rw [← Nat.pow_add, show n + (64 - n) = 64 by omega]
theorem shl_mod (x n : Nat) (h : n ≤ 64) : x * 2 ^ (64 - n) % 18446744073709551616 = x % 2 ^ n * 2 ^ (64 - n) := by
  rw [P64n h, Nat.mul_mod_mul_right]
theorem right_small {hi lo n : Nat} (h : n ≤ 64) (hl : W lo) :
    two hi lo / 2 ^ n = two (hi / 2 ^ n) (hi % 2 ^ n * 2 ^ (64 - n) + lo / 2 ^ n) ∧ hi % 2 ^ n * 2 ^ (64 - n) + lo / 2 ^ n < 18446744073709551616 ∧ two hi lo % 2 ^ n = lo % 2 ^ n := by
  have pn := pow_pos n
  have pk := pow_pos (64 - n)
  have e := P64n h
  have hd := Nat.div_add_mod hi (2 ^ n)
  have ld := Nat.div_add_mod lo (2 ^ n)
  have hm := Nat.mod_lt hi pn
  have hlo : lo / 2 ^ n < 2 ^ (64 - n) := by
    rw [Nat.div_lt_iff_lt_mul pn, Nat.mul_comm, ← e]; exact hl
  have e1 : two hi lo = lo + 2 ^ n * (hi * 2 ^ (64 - n)) := by
    unfold two; rw [e]
    rw [show hi * (2 ^ n * 2 ^ (64 - n)) = 2 ^ n * (hi * 2 ^ (64 - n)) by rw [Nat.mul_left_comm]]
    omega
  refine ⟨?_, ?_, ?_⟩
  · rw [e1, Nat.add_mul_div_left _ _ pn]
    unfold two
    rw [e]
    have e2 : hi * 2 ^ (64 - n) = hi / 2 ^ n * (2 ^ n * 2 ^ (64 - n)) + hi % 2 ^ n * 2 ^ (64 - n) := by
      conv => lhs; rw [← hd]
      rw [Nat.add_mul, Nat.mul_comm (2 ^ n), Nat.mul_assoc]
    rw [e2]
    omega
  · have : (hi % 2 ^ n + 1) * 2 ^ (64 - n) ≤ 2 ^ n * 2 ^ (64 - n) := Nat.mul_le_mul_right _ hm
    rw [Nat.add_mul, Nat.one_mul, ← e] at this
    omega
  · rw [e1, Nat.add_mul_mod_self_left]
theorem right_big {hi lo k : Nat} (hh : W hi) (hl : W lo) :
    two hi lo / 2 ^ (64 + k) = hi / 2 ^ k ∧ (two hi lo % 2 ^ (64 + k) = 0 ↔ (lo = 0 ∧ hi % 2 ^ k = 0)) := by
  have e : (18446744073709551616 : Nat) = 2 ^ 64 := by decide
  unfold W at *
  unfold two
  rw [e] at *
  have p := pow_pos 64
  have pk := pow_pos k
  constructor
  · rw [Nat.pow_add, ← Nat.div_div_eq_div_mul, Nat.add_comm, Nat.add_mul_div_right _ _ p, Nat.div_eq_of_lt hl, Nat.zero_add]
  · have q1 : (hi * 2 ^ 64 + lo) % 2 ^ 64 = lo := by rw [Nat.add_comm, Nat.add_mul_mod_self_right, Nat.mod_eq_of_lt hl]
    have q2 : (hi * 2 ^ 64 + lo) / 2 ^ 64 = hi := by rw [Nat.add_comm, Nat.add_mul_div_right _ _ p, Nat.div_eq_of_lt hl, Nat.zero_add]
    rw [Nat.pow_add, Nat.mod_mul, q1, q2]
    constructor
    · intro h
      have h1 : lo = 0 := by omega
      refine ⟨h1, ?_⟩
      have h2 : 2 ^ 64 * (hi % 2 ^ k) = 0 := by omega
      rcases Nat.mul_eq_zero.1 h2 with h3 | h3
      · omega
      · exact h3
    · rintro ⟨h1, h2⟩
      rw [h1, h2]
theorem right_huge {hi lo n : Nat} (h : 128 ≤ n) (hh : W hi) (hl : W lo) : two hi lo / 2 ^ n = 0 ∧ two hi lo % 2 ^ n = two hi lo := by
  have h1 := two_lt hh hl
  have h2 : two hi lo < 2 ^ n := Nat.lt_of_lt_of_le (m := 2 ^ 128) (by rw [show (2 : Nat) ^ 128 = 340282366920938463463374607431768211456 by decide]; exact h1) (pow_le h)
  exact ⟨Nat.div_eq_of_lt h2, Nat.mod_eq_of_lt h2⟩
theorem two_parts {hi lo : Nat} (hl : lo < 18446744073709551616) : two hi lo / 18446744073709551616 = hi ∧ two hi lo % 18446744073709551616 = lo := by unfold two; omega
theorem two_zero {hi lo : Nat} : two hi lo = 0 ↔ hi = 0 ∧ lo = 0 := by unfold two; omega
/-- What 'right' gives. -/
def rH (hi lo n : Nat) : Nat := two hi lo / 2 ^ n / 18446744073709551616
def rL (hi lo n : Nat) : Nat := two hi lo / 2 ^ n % 18446744073709551616
def rT (hi lo n : Nat) : Bool := decide (two hi lo % 2 ^ n ≠ 0)
theorem rights_small {hi lo n : Nat} (h0 : 0 < n) (h : n ≤ 64) (hl : W lo) : rH hi lo n = hi / 2 ^ n ∧ rL hi lo n = hi % 2 ^ n * 2 ^ (64 - n) + lo / 2 ^ n ∧ rT hi lo n = decide (lo % 2 ^ n ≠ 0) := by
  obtain ⟨a, b, c⟩ := right_small (hi := hi) h hl
  unfold rH rL rT
  rw [a, c, (two_parts b).1, (two_parts b).2]
  exact ⟨rfl, rfl, rfl⟩
theorem rights_big {hi lo k : Nat} (hh : W hi) (hl : W lo) : rH hi lo (64 + k) = 0 ∧ rL hi lo (64 + k) = hi / 2 ^ k ∧ rT hi lo (64 + k) = decide (lo ≠ 0 ∨ hi % 2 ^ k ≠ 0) := by
  obtain ⟨a, b⟩ := right_big (k := k) hh hl
  have hd : hi / 2 ^ k < 18446744073709551616 := Nat.lt_of_le_of_lt (Nat.div_le_self _ _) hh
  unfold rH rL rT
  rw [a, Nat.div_eq_of_lt hd, Nat.mod_eq_of_lt hd]
  refine ⟨rfl, rfl, ?_⟩
  rw [decide_eq_decide]
  constructor
  · intro h
    by_cases c : lo = 0
    · exact .inr fun g => h (b.2 ⟨c, g⟩)
    · exact .inl c
  · rintro (h | h) g
    · exact h (b.1 g).1
    · exact h (b.1 g).2
theorem rights_huge {hi lo n : Nat} (h : 128 ≤ n) (hh : W hi) (hl : W lo) : rH hi lo n = 0 ∧ rL hi lo n = 0 ∧ rT hi lo n = decide (hi ≠ 0 ∨ lo ≠ 0) := by
  obtain ⟨a, b⟩ := right_huge h hh hl
  unfold rH rL rT
  rw [a, b]
  refine ⟨rfl, rfl, ?_⟩
  rw [decide_eq_decide]
  have := @two_zero hi lo
  omega
theorem rights_zero {hi lo : Nat} (hh : W hi) (hl : W lo) : rH hi lo 0 = hi ∧ rL hi lo 0 = lo ∧ rT hi lo 0 = false := by
  unfold rH rL rT
  rw [Nat.pow_zero, Nat.div_one, Nat.mod_one, (two_parts hl).1, (two_parts hl).2]
  exact ⟨rfl, rfl, rfl⟩
theorem rL_lt (hi lo n : Nat) : W (rL hi lo n) := Nat.mod_lt _ (by decide)
theorem rH_lt {hi lo n : Nat} (hh : W hi) (hl : W lo) : W (rH hi lo n) := by
  unfold rH W
  have h1 := two_lt hh hl
  have h2 : two hi lo / 2 ^ n ≤ two hi lo := Nat.div_le_self _ _
  omega
end Go.Proofs.Ytecgkhijiogggaa.SF
