/- Plain arithmetic of the references: products by halves, divisions bit by bit. -/
import Derived.Test.YtjioombinbngpaaP2
namespace Go.Proofs.Ytjioombinbngpaa
set_option linter.unusedVariables false
open Go.RowKit

theorem and_mask (x : Int) : bits .and .u64 (x % 18446744073709551616) 4294967295 = x % 18446744073709551616 % 4294967296 := and_mask32 _ (by omega) (by omega)
theorem or_halves (x y : Int) : bits .or .u64 (x * 4294967296 % 18446744073709551616) (y % 18446744073709551616 % 4294967296) = x * 4294967296 % 18446744073709551616 + y % 18446744073709551616 % 4294967296 := by
  have e : x * 4294967296 % 18446744073709551616 = (x % 4294967296) * 2 ^ 32 := by
    show _ = (x % 4294967296) * 4294967296
    omega
  rw [e]
  exact or_join 32 (x % 4294967296) (y % 18446744073709551616 % 4294967296) (by omega) (by show (x % 4294967296) * 4294967296 < _; omega) (by omega) (by show _ < (4294967296 : Int); omega) (by omega)

theorem halves (a b : Int) :
    (bits BinOp.or IntKind.u64 (IntKind.u64.wrap (IntKind.u64.wrap (IntKind.u64.wrap (bits BinOp.and IntKind.u64 (IntKind.u64.wrap a) 4294967295 * (IntKind.u64.wrap b / 4294967296)) + bits BinOp.and IntKind.u64 (IntKind.u64.wrap (IntKind.u64.wrap (IntKind.u64.wrap a / 4294967296 * bits BinOp.and IntKind.u64 (IntKind.u64.wrap b) 4294967295) + IntKind.u64.wrap (bits BinOp.and IntKind.u64 (IntKind.u64.wrap a) 4294967295 * bits BinOp.and IntKind.u64 (IntKind.u64.wrap b) 4294967295) / 4294967296)) 4294967295) * 4294967296)) (bits BinOp.and IntKind.u64 (IntKind.u64.wrap (bits BinOp.and IntKind.u64 (IntKind.u64.wrap a) 4294967295 * bits BinOp.and IntKind.u64 (IntKind.u64.wrap b) 4294967295)) 4294967295)) = U a * U b % 18446744073709551616 ∧
    (IntKind.u64.wrap (IntKind.u64.wrap (IntKind.u64.wrap (IntKind.u64.wrap a / 4294967296 * (IntKind.u64.wrap b / 4294967296)) + IntKind.u64.wrap (IntKind.u64.wrap (IntKind.u64.wrap a / 4294967296 * bits BinOp.and IntKind.u64 (IntKind.u64.wrap b) 4294967295) + IntKind.u64.wrap (bits BinOp.and IntKind.u64 (IntKind.u64.wrap a) 4294967295 * bits BinOp.and IntKind.u64 (IntKind.u64.wrap b) 4294967295) / 4294967296) / 4294967296) + IntKind.u64.wrap (IntKind.u64.wrap (bits BinOp.and IntKind.u64 (IntKind.u64.wrap a) 4294967295 * (IntKind.u64.wrap b / 4294967296)) + bits BinOp.and IntKind.u64 (IntKind.u64.wrap (IntKind.u64.wrap (IntKind.u64.wrap a / 4294967296 * bits BinOp.and IntKind.u64 (IntKind.u64.wrap b) 4294967295) + IntKind.u64.wrap (bits BinOp.and IntKind.u64 (IntKind.u64.wrap a) 4294967295 * bits BinOp.and IntKind.u64 (IntKind.u64.wrap b) 4294967295) / 4294967296)) 4294967295) / 4294967296)) = U a * U b / 18446744073709551616 := by
  simp only [IntKind.wrap_u64, and_mask, or_halves]
  unfold U
  have hx1 : 0 ≤ a % 18446744073709551616 / 4294967296 ∧ a % 18446744073709551616 / 4294967296 < 4294967296 := by omega
  have hx0 : 0 ≤ a % 18446744073709551616 % 4294967296 ∧ a % 18446744073709551616 % 4294967296 < 4294967296 := by omega
  have hy1 : 0 ≤ b % 18446744073709551616 / 4294967296 ∧ b % 18446744073709551616 / 4294967296 < 4294967296 := by omega
  have hy0 : 0 ≤ b % 18446744073709551616 % 4294967296 ∧ b % 18446744073709551616 % 4294967296 < 4294967296 := by omega
  have ex : a % 18446744073709551616 = (a % 18446744073709551616 / 4294967296) * 4294967296 + a % 18446744073709551616 % 4294967296 := by omega
  have ey : b % 18446744073709551616 = (b % 18446744073709551616 / 4294967296) * 4294967296 + b % 18446744073709551616 % 4294967296 := by omega
  have e : a % 18446744073709551616 * (b % 18446744073709551616) = ((a % 18446744073709551616 / 4294967296) * 4294967296 + a % 18446744073709551616 % 4294967296) * ((b % 18446744073709551616 / 4294967296) * 4294967296 + b % 18446744073709551616 % 4294967296) := by rw [← ex, ← ey]
  rw [e]
  generalize a % 18446744073709551616 / 4294967296 = x1 at *
  generalize a % 18446744073709551616 % 4294967296 = x0 at *
  generalize b % 18446744073709551616 / 4294967296 = y1 at *
  generalize b % 18446744073709551616 % 4294967296 = y0 at *
  have m11 := mul_small hx1.1 hx1.2 hy1.1 hy1.2
  have m10 := mul_small hx1.1 hx1.2 hy0.1 hy0.2
  have m01 := mul_small hx0.1 hx0.2 hy1.1 hy1.2
  have m00 := mul_small hx0.1 hx0.2 hy0.1 hy0.2
  have ep : (x1 * 4294967296 + x0) * (y1 * 4294967296 + y0) = (x1 * y1) * 18446744073709551616 + (x1 * y0) * 4294967296 + (x0 * y1) * 4294967296 + x0 * y0 := by
    rw [Int.add_mul, Int.mul_add, Int.mul_add]
    have a1 : x1 * 4294967296 * (y1 * 4294967296) = (x1 * y1) * 18446744073709551616 := by
      rw [Int.mul_assoc, ← Int.mul_assoc 4294967296 y1, Int.mul_comm 4294967296 y1, Int.mul_assoc y1, ← Int.mul_assoc]; rfl
    have a2 : x1 * 4294967296 * y0 = (x1 * y0) * 4294967296 := by rw [Int.mul_assoc, Int.mul_comm 4294967296 y0, ← Int.mul_assoc]
    have a3 : x0 * (y1 * 4294967296) = (x0 * y1) * 4294967296 := by rw [← Int.mul_assoc]
    rw [a1, a2, a3]; omega
  rw [ep]
  clear e ex ey ep
  generalize x1 * y1 = A at *
  generalize x1 * y0 = B at *
  generalize x0 * y1 = C at *
  generalize x0 * y0 = E at *
  clear hx1 hx0 hy1 hy0
  rw [Int.emod_eq_of_lt (a := B) m10.1 (by omega), Int.emod_eq_of_lt (a := C) m01.1 (by omega), Int.emod_eq_of_lt (a := E) m00.1 (by omega), Int.emod_eq_of_lt (a := A) m11.1 (by omega)]
  rw [Int.emod_eq_of_lt (a := B + E / 4294967296) (by omega) (by omega)]
  exact ⟨by omega, by omega⟩

/-- A double that is told by its two cells. -/
theorem D_of (v : Int) (h0 : -170141183460469231731687303715884105728 ≤ v) (h1 : v < 170141183460469231731687303715884105728) : D (dlo v) (dhi v) = v := by
  unfold D dlo dhi wrap64; omega
theorem UD_of (v : Int) (h0 : 0 ≤ v) (h1 : v < 340282366920938463463374607431768211456) : UD (dlo v) (dhi v) = v := by
  unfold UD dlo dhi wrap64; omega
theorem U_wrap (v : Int) (h0 : 0 ≤ v) (h1 : v < 18446744073709551616) : U (wrap64 v) = v := by unfold U wrap64; omega

theorem abs_prod {a b : Int} (ha : Cell a) (hb : Cell b) : 0 ≤ aC a * aC b ∧ aC a * aC b ≤ 85070591730234615865843651857942052864 := by
  have a0 : 0 ≤ aC a ∧ aC a ≤ 9223372036854775808 := by obtain ⟨h1, h2⟩ := ha; unfold aC; split <;> omega
  have b0 : 0 ≤ aC b ∧ aC b ≤ 9223372036854775808 := by obtain ⟨h1, h2⟩ := hb; unfold aC; split <;> omega
  exact ⟨Int.mul_nonneg a0.1 b0.1, Int.mul_le_mul a0.2 b0.2 b0.1 (by decide)⟩
/-! ### A division, bit by bit -/
structure DivAt (N d : Int) (k : Nat) (R Ql Qh : Int) : Prop where
  r : R = N / 2 ^ k % d
  q : Qh * 18446744073709551616 + Ql = N / 2 ^ k / d
  ql0 : 0 ≤ Ql
  ql1 : Ql ≤ 18446744073709551615
  qh0 : 0 ≤ Qh
  qh1 : Qh ≤ 18446744073709551615
theorem divAt_start (N d : Int) (h0 : 0 ≤ N) (h1 : N < 340282366920938463463374607431768211456) : DivAt N d 128 0 0 0 := by
  have e : N / 2 ^ 128 = 0 := Int.ediv_eq_zero_of_lt h0 h1
  exact ⟨by rw [e]; simp, by rw [e]; simp, by decide, by decide, by decide, by decide⟩
theorem ediv_two (a b c : Int) (hb : 0 < b) (hc : 0 < c) : a / (b * c) = a / b / c := by
  have d1 := Int.mul_ediv_add_emod a b
  have d2 := Int.mul_ediv_add_emod (a / b) c
  have r0 := Int.emod_nonneg a (show b ≠ 0 by omega)
  have r1 := Int.emod_lt_of_pos a hb
  have s0 := Int.emod_nonneg (a / b) (show c ≠ 0 by omega)
  have s1 := Int.emod_lt_of_pos (a / b) hc
  have m0 : 0 ≤ b * (a / b % c) := Int.mul_nonneg (Int.le_of_lt hb) s0
  have m1 : b * (a / b % c) ≤ b * (c - 1) := Int.mul_le_mul_of_nonneg_left (by omega) (Int.le_of_lt hb)
  rw [Int.mul_sub, Int.mul_one] at m1
  have e : a / b / c * (b * c) + (b * (a / b % c) + a % b) = a := by
    have : b * (a / b) = a / b / c * (b * c) + b * (a / b % c) := by
      have h : b * (c * (a / b / c) + a / b % c) = b * (a / b) := by rw [d2]
      rw [← h, Int.mul_add, Int.mul_comm (a / b / c), Int.mul_assoc]
    omega
  exact (ediv_of (Int.mul_pos hb hc) e (by omega) (by omega)).1
theorem halve (N : Int) (k : Nat) : N / 2 ^ k = 2 * (N / 2 ^ (k + 1)) + N / 2 ^ k % 2 := by
  have : N / 2 ^ (k + 1) = N / 2 ^ k / 2 := by rw [Int.pow_succ, ediv_two _ _ _ (Int.pow_pos (by decide)) (by decide)]
  omega
/-- One round. -/
theorem divAt_step {N d : Int} {k : Nat} {R Ql Qh : Int} (hd : 0 < d) (hN : 0 ≤ N) (hN1 : N < 340282366920938463463374607431768211456) (s : DivAt N d (k + 1) R Ql Qh) :
    (d ≤ 2 * R + N / 2 ^ k % 2 → DivAt N d k (2 * R + N / 2 ^ k % 2 - d) ((2 * Ql) % 18446744073709551616 + 1) (2 * Qh + Ql / 9223372036854775808)) ∧
    (2 * R + N / 2 ^ k % 2 < d → DivAt N d k (2 * R + N / 2 ^ k % 2) ((2 * Ql) % 18446744073709551616) (2 * Qh + Ql / 9223372036854775808)) := by
  obtain ⟨hr, hq, q1, q2, q3, q4⟩ := s
  have hh := halve N k
  have st := bit_step (N / 2 ^ (k + 1)) (N / 2 ^ k % 2) d hd (by omega) (by omega)
  rw [← hh, ← hr, ← hq] at st
  have p0 : (0 : Int) < 2 ^ k := Int.pow_pos (by decide)
  have b0 : 0 ≤ N / 2 ^ k := Int.ediv_nonneg hN (Int.le_of_lt p0)
  have b1 : N / 2 ^ k ≤ N := Int.ediv_le_self _ hN
  have c0 : 0 ≤ N / 2 ^ k / d := Int.ediv_nonneg b0 (Int.le_of_lt hd)
  have c1 : N / 2 ^ k / d ≤ N / 2 ^ k := Int.ediv_le_self _ b0
  refine ⟨fun h => ?_, fun h => ?_⟩
  · obtain ⟨e1, e2⟩ := st.1 h
    rw [e1] at c0 c1
    exact ⟨by rw [e2], by rw [e1]; omega, by omega, by omega, by omega, by omega⟩
  · obtain ⟨e1, e2⟩ := st.2 h
    rw [e1] at c0 c1
    exact ⟨by rw [e2], by rw [e1]; omega, by omega, by omega, by omega, by omega⟩

/-! ### The bits of a double -/
theorem bit_low (L H : Int) (j : Nat) (hj : j < 64) : (H * 18446744073709551616 + L) / 2 ^ j % 2 = L / 2 ^ j % 2 := by
  have e : H * 18446744073709551616 = (H * 2 ^ (63 - j) * 2) * 2 ^ j := by
    have : (18446744073709551616 : Int) = 2 ^ (63 - j) * 2 * 2 ^ j := by
      rw [Int.mul_assoc, Int.mul_comm 2 (2 ^ j), ← Int.mul_assoc, ← Int.pow_add, show 63 - j + j = 63 by omega]; decide
    rw [this, Int.mul_assoc H, Int.mul_assoc H]
  rw [e, Int.add_comm, Int.add_mul_ediv_right _ _ (show (2 : Int) ^ j ≠ 0 from Int.ne_of_gt (Int.pow_pos (by decide)))]
  omega
theorem bit_high (L H : Int) (j : Nat) (hL : 0 ≤ L) (hL1 : L < 18446744073709551616) : (H * 18446744073709551616 + L) / 2 ^ (64 + j) = H / 2 ^ j := by
  rw [Int.pow_add, ediv_two _ _ _ (by decide) (Int.pow_pos (by decide))]
  congr 1
  show (H * 18446744073709551616 + L) / 18446744073709551616 = H
  omega
theorem and_one (x : Int) (h0 : 0 ≤ x) (h1 : x < 18446744073709551616) : bits .and .u64 x 1 = x % 2 := by
  rw [u64_and x 1 h0 h1 (by decide) (by decide)]
  obtain ⟨n, rfl⟩ := Int.eq_ofNat_of_zero_le h0
  have : n &&& 1 = n % 2 := Nat.and_two_pow_sub_one_eq_mod n 1
  simp only [Int.toNat_natCast]
  show ((n &&& 1 : Nat) : Int) = _
  rw [this]; rfl
theorem or_bit (x b : Int) (hb : 0 ≤ b) (hb1 : b ≤ 1) : bits .or .u64 (IntKind.u64.wrap (x * 2)) b = x * 2 % 18446744073709551616 + b := by
  rw [IntKind.wrap_u64]
  have e : x * 2 % 18446744073709551616 = (x % 9223372036854775808) * 2 ^ 1 := by
    show _ = (x % 9223372036854775808) * 2
    omega
  rw [e]
  exact or_join 1 (x % 9223372036854775808) b (by omega) (by show (x % 9223372036854775808) * 2 < _; omega) hb (by show b < (2 : Int); omega) (by omega)
/-- A round's ends, as the walk spells them. -/
theorem bit_of_high (lo hi : Int) (k : Nat) (h : 64 < k) : bits .and .u64 (IntKind.u64.wrap hi / 2 ^ (k - 1 - 64)) 1 = UD lo hi / 2 ^ (k - 1) % 2 := by
  rw [IntKind.wrap_u64]
  have p0 : (0 : Int) < 2 ^ (k - 1 - 64) := Int.pow_pos (by decide)
  have b0 : 0 ≤ hi % 18446744073709551616 / 2 ^ (k - 1 - 64) := Int.ediv_nonneg (by omega) (Int.le_of_lt p0)
  have b1 : hi % 18446744073709551616 / 2 ^ (k - 1 - 64) ≤ hi % 18446744073709551616 := Int.ediv_le_self _ (by omega)
  rw [and_one _ b0 (by omega)]
  unfold UD
  have e : k - 1 = 64 + (k - 1 - 64) := by omega
  have := bit_high (lo % 18446744073709551616) (hi % 18446744073709551616) (k - 1 - 64) (by omega) (by omega)
  rw [← e] at this
  rw [this]
theorem bit_of_low (lo hi : Int) (k : Nat) (h0 : 1 ≤ k) (h : k ≤ 64) : bits .and .u64 (IntKind.u64.wrap lo / 2 ^ ((k - 1) % 64)) 1 = UD lo hi / 2 ^ (k - 1) % 2 := by
  rw [IntKind.wrap_u64, Nat.mod_eq_of_lt (show k - 1 < 64 by omega)]
  have p0 : (0 : Int) < 2 ^ (k - 1) := Int.pow_pos (by decide)
  have b0 : 0 ≤ lo % 18446744073709551616 / 2 ^ (k - 1) := Int.ediv_nonneg (by omega) (Int.le_of_lt p0)
  have b1 : lo % 18446744073709551616 / 2 ^ (k - 1) ≤ lo % 18446744073709551616 := Int.ediv_le_self _ (by omega)
  rw [and_one _ b0 (by omega)]
  unfold UD
  exact (bit_low (lo % 18446744073709551616) (hi % 18446744073709551616) (k - 1) (by omega)).symm
theorem UD_bounds (lo hi : Int) : 0 ≤ UD lo hi ∧ UD lo hi < 340282366920938463463374607431768211456 := by unfold UD; omega
theorem round_sub {N d : Int} {k : Nat} {R Ql Qh b t : Int} (hk : 1 ≤ k) (hd : 0 < d) (hd1 : d ≤ 18446744073709551615) (hN : 0 ≤ N) (hN1 : N < 340282366920938463463374607431768211456) (s : DivAt N d k R Ql Qh) (hb : b = N / 2 ^ (k - 1) % 2) (ht : t = (2 * R + b) % 18446744073709551616) (h : d ≤ 2 * R + b) :
    DivAt N d (k - 1) (IntKind.u64.wrap (t - d)) (bits .or .u64 (IntKind.u64.wrap (Ql * 2)) 1) (bits .or .u64 (IntKind.u64.wrap (Qh * 2)) (Ql / 9223372036854775808)) := by
  obtain ⟨j, rfl⟩ : ∃ j, k = j + 1 := ⟨k - 1, by omega⟩
  simp only [Nat.add_sub_cancel] at *
  have hr : R < d := by rw [s.r]; exact Int.emod_lt_of_pos _ hd
  have hr0 : 0 ≤ R := by rw [s.r]; exact Int.emod_nonneg _ (by omega)
  have q0 := s.ql0
  have q1 := s.ql1
  subst hb
  have n := (divAt_step hd hN hN1 s).1 h
  have q2 := n.qh0
  have q3 := n.qh1
  have q4 := s.qh0
  rw [or_bit _ _ (by decide) (by decide), or_bit _ _ (by omega) (by omega)]
  have e1 : IntKind.u64.wrap (t - d) = 2 * R + N / 2 ^ j % 2 - d := by rw [IntKind.wrap_u64, ht]; omega
  have e2 : Qh * 2 % 18446744073709551616 + Ql / 9223372036854775808 = 2 * Qh + Ql / 9223372036854775808 := by omega
  rw [e1, e2, Int.mul_comm Ql 2]
  exact n
theorem round_keep {N d : Int} {k : Nat} {R Ql Qh b t : Int} (hk : 1 ≤ k) (hd : 0 < d) (hd1 : d ≤ 18446744073709551615) (hN : 0 ≤ N) (hN1 : N < 340282366920938463463374607431768211456) (s : DivAt N d k R Ql Qh) (hb : b = N / 2 ^ (k - 1) % 2) (ht : t = 2 * R + b) (h : 2 * R + b < d) :
    DivAt N d (k - 1) t (IntKind.u64.wrap (Ql * 2)) (bits .or .u64 (IntKind.u64.wrap (Qh * 2)) (Ql / 9223372036854775808)) := by
  obtain ⟨j, rfl⟩ : ∃ j, k = j + 1 := ⟨k - 1, by omega⟩
  simp only [Nat.add_sub_cancel] at *
  have q0 := s.ql0
  have q1 := s.ql1
  subst hb
  have n := (divAt_step hd hN hN1 s).2 h
  have q2 := n.qh0
  have q3 := n.qh1
  have q4 := s.qh0
  rw [or_bit _ _ (by omega) (by omega), IntKind.wrap_u64]
  have e2 : Qh * 2 % 18446744073709551616 + Ql / 9223372036854775808 = 2 * Qh + Ql / 9223372036854775808 := by omega
  rw [ht, e2, Int.mul_comm Ql 2]
  exact n
theorem or_bit_small (R b : Int) (h : 0 ≤ R) (h1 : R < 9223372036854775808) (hb : 0 ≤ b) (hb1 : b ≤ 1) : bits .or .u64 (R * 2) b = 2 * R + b := by
  have := or_bit R b hb hb1
  rw [IntKind.wrap_u64, Int.emod_eq_of_lt (by omega) (by omega)] at this
  omega
end Go.Proofs.Ytjioombinbngpaa
