/- Plain arithmetic of a division of two words by one, as math/bits does it. -/
import Derived.Test.YtecgkhijiogggaaP
import Derived.Lib.BitFns
namespace Go.Proofs.Ytecgkhijiogggaa.DV
open Go.RowKit

theorem bitLenAux_bounds : ∀ (f x : Nat), 0 < x → x < 2 ^ f → 0 < Lib.bitLenAux f x ∧ 2 ^ (Lib.bitLenAux f x - 1) ≤ x ∧ x < 2 ^ Lib.bitLenAux f x := by
  intro f
  induction f with
  | zero => intro x h0 h1; simp at h1; omega
  | succ f ih =>
    intro x h0 h1
    simp only [Lib.bitLenAux]
    rw [if_neg (by omega)]
    by_cases hx : x / 2 = 0
    · have : x = 1 := by omega
      subst this
      have e : Lib.bitLenAux f (1 / 2) = 0 := by
        cases f <;> simp [Lib.bitLenAux]
      rw [e]
      exact ⟨by omega, by decide, by decide⟩
    · obtain ⟨a, b, c⟩ := ih (x / 2) (by omega) (by rw [Nat.pow_succ] at h1; omega)
      refine ⟨by omega, ?_, ?_⟩
      · have e : 1 + Lib.bitLenAux f (x / 2) - 1 = (Lib.bitLenAux f (x / 2) - 1) + 1 := by omega
        rw [e, Nat.pow_succ]
        omega
      · rw [Nat.add_comm, Nat.pow_succ]
        omega

/-- The normalizing shift of a word that is not 0. -/
theorem norm_shift (y : Int) (h0 : 0 < y) (h1 : y < 18446744073709551616) :
    ∃ s : Nat, s ≤ 63 ∧ (64 - (Lib.bitLen y.toNat : Int)) = (s : Int) ∧ 9223372036854775808 ≤ y * 2 ^ s ∧ y * 2 ^ s < 18446744073709551616 := by
  obtain ⟨n, rfl⟩ := Int.eq_ofNat_of_zero_le (Int.le_of_lt h0)
  obtain ⟨a, b, c⟩ := bitLenAux_bounds 64 n (by omega) (by omega)
  have d : Lib.bitLenAux 64 n ≤ 64 := by
    by_cases h : Lib.bitLenAux 64 n ≤ 64
    · exact h
    · have : 2 ^ 64 ≤ 2 ^ (Lib.bitLenAux 64 n - 1) := Nat.pow_le_pow_right (by decide) (by omega)
      omega
  refine ⟨64 - Lib.bitLenAux 64 n, by omega, ?_, ?_, ?_⟩
  · simp only [Int.toNat_natCast, Lib.bitLen]; omega
  · have e : 2 ^ (Lib.bitLenAux 64 n - 1) * 2 ^ (64 - Lib.bitLenAux 64 n) = 2 ^ 63 := by
      rw [← Nat.pow_add]; congr 1; omega
    have := Nat.mul_le_mul_right (2 ^ (64 - Lib.bitLenAux 64 n)) b
    rw [e] at this
    have h2 : ((2 ^ 63 : Nat) : Int) ≤ ((n * 2 ^ (64 - Lib.bitLenAux 64 n) : Nat) : Int) := by exact_mod_cast this
    rw [Int.natCast_mul, Int.natCast_pow] at h2
    exact h2
  · have e : 2 ^ Lib.bitLenAux 64 n * 2 ^ (64 - Lib.bitLenAux 64 n) = 2 ^ 64 := by
      rw [← Nat.pow_add]; congr 1; omega
    have := Nat.mul_lt_mul_of_pos_right c (Nat.pow_pos (n := 64 - Lib.bitLenAux 64 n) (show 0 < 2 by decide))
    rw [e] at this
    have h2 : ((n * 2 ^ (64 - Lib.bitLenAux 64 n) : Nat) : Int) < ((2 ^ 64 : Nat) : Int) := by exact_mod_cast this
    rw [Int.natCast_mul, Int.natCast_pow] at h2
    exact h2

theorem and_mask32 (x : Int) (h0 : 0 ≤ x) (h1 : x < 18446744073709551616) : bits .and .u64 x 4294967295 = x % 4294967296 := by
  rw [u64_and x 4294967295 h0 h1 (by decide) (by decide)]
  obtain ⟨n, rfl⟩ := Int.eq_ofNat_of_zero_le h0
  have : n &&& 4294967295 = n % 4294967296 := Nat.and_two_pow_sub_one_eq_mod n 32
  simp only [Int.toNat_natCast]
  show ((n &&& 4294967295 : Nat) : Int) = _
  rw [this]; rfl

theorem or_join (s : Nat) (a b : Int) (ha : 0 ≤ a) (h1 : a * 2 ^ s < 18446744073709551616) (hb : 0 ≤ b) (hb1 : b < 2 ^ s) (hb2 : b < 18446744073709551616) : bits .or .u64 (a * 2 ^ s) b = a * 2 ^ s + b := by
  obtain ⟨m, rfl⟩ := Int.eq_ofNat_of_zero_le ha
  obtain ⟨n, rfl⟩ := Int.eq_ofNat_of_zero_le hb
  have e : (m : Int) * 2 ^ s = ((m * 2 ^ s : Nat) : Int) := by rw [Int.natCast_mul, Int.natCast_pow]; rfl
  have hb' : n < 2 ^ s := by
    have : (n : Int) < ((2 ^ s : Nat) : Int) := by rw [Int.natCast_pow]; exact hb1
    exact_mod_cast this
  rw [e] at h1 ⊢
  rw [u64_or_nat (m * 2 ^ s) n (by omega) (by omega), nat_join s (m * 2 ^ s) n (Nat.mul_mod_left _ _) hb', Int.natCast_add]

structure Pre (hi lo y : Int) (s : Nat) (Y y1 y0 u n1 n0 : Int) : Prop where
  norm : Norm u n1 y1 y0
  eY : Y = y1 * 4294967296 + y0
  Y1 : Y < 18446744073709551616
  n0l : 0 ≤ n0
  n0h : n0 < 4294967296
  main : u * 18446744073709551616 + n1 * 4294967296 + n0 = (hi * 18446744073709551616 + lo) * 2 ^ s
  sY : Y = y * 2 ^ s

theorem pre_start (hi lo y : Int) (s : Nat) (hs : s ≤ 63) (h0 : 0 ≤ hi) (h1 : hi < y) (hl : 0 ≤ lo) (hl1 : lo < 18446744073709551616) (hY : 9223372036854775808 ≤ y * 2 ^ s) (hY1 : y * 2 ^ s < 18446744073709551616) :
    Pre hi lo y s (IntKind.u64.wrap (y * 2 ^ s)) (IntKind.u64.wrap (y * 2 ^ s) / 4294967296) (bits .and .u64 (IntKind.u64.wrap (y * 2 ^ s)) 4294967295)
      (bits .or .u64 (IntKind.u64.wrap (hi * 2 ^ s)) (lo / 2 ^ (64 - s))) (IntKind.u64.wrap (lo * 2 ^ s) / 4294967296) (bits .and .u64 (IntKind.u64.wrap (lo * 2 ^ s)) 4294967295) := by
  simp only [IntKind.wrap_u64]
  have eY : y * 2 ^ s % 18446744073709551616 = y * 2 ^ s := Int.emod_eq_of_lt (by omega) hY1
  have p0 : (0 : Int) < 2 ^ s := Int.pow_pos (by decide)
  have q0 : (0 : Int) < 2 ^ (64 - s) := Int.pow_pos (by decide)
  have pq : (2 : Int) ^ s * 2 ^ (64 - s) = 18446744073709551616 := by
    rw [← Int.pow_add, show s + (64 - s) = 64 by omega]; decide
  have hy : (hi + 1) * 2 ^ s ≤ y * 2 ^ s := Int.mul_le_mul_of_nonneg_right (by omega) (Int.le_of_lt p0)
  rw [Int.add_mul, Int.one_mul] at hy
  have hh0 : 0 ≤ hi * 2 ^ s := Int.mul_nonneg h0 (Int.le_of_lt p0)
  have eh : hi * 2 ^ s % 18446744073709551616 = hi * 2 ^ s := Int.emod_eq_of_lt hh0 (by omega)
  have d0 := Int.mul_ediv_add_emod lo (2 ^ (64 - s))
  have r0 := Int.emod_nonneg lo (show (2 : Int) ^ (64 - s) ≠ 0 by omega)
  have r1 := Int.emod_lt_of_pos lo q0
  have a0 : 0 ≤ lo / 2 ^ (64 - s) := Int.ediv_nonneg hl (Int.le_of_lt q0)
  have a1 : lo / 2 ^ (64 - s) < 2 ^ s := Int.ediv_lt_of_lt_mul q0 (by rw [pq]; exact hl1)
  have elo : lo * 2 ^ s = (lo / 2 ^ (64 - s)) * 18446744073709551616 + (lo % 2 ^ (64 - s)) * 2 ^ s := by
    have : lo * 2 ^ s = (2 ^ (64 - s) * (lo / 2 ^ (64 - s)) + lo % 2 ^ (64 - s)) * 2 ^ s := by rw [d0]
    rw [this, Int.add_mul, ← pq, Int.mul_comm (2 ^ (64 - s)) (lo / 2 ^ (64 - s)), Int.mul_assoc, Int.mul_comm (2 ^ (64 - s)) (2 ^ s)]
  have m0 : 0 ≤ (lo % 2 ^ (64 - s)) * 2 ^ s := Int.mul_nonneg r0 (Int.le_of_lt p0)
  have m1 : (lo % 2 ^ (64 - s)) * 2 ^ s < 18446744073709551616 := by
    have := Int.mul_lt_mul_of_pos_right r1 p0
    rw [Int.mul_comm (2 ^ (64 - s)) (2 ^ s), pq] at this
    exact this
  have elm : lo * 2 ^ s % 18446744073709551616 = (lo % 2 ^ (64 - s)) * 2 ^ s := by omega
  rw [eY, eh, or_join s hi _ h0 (by omega) a0 a1 (by omega), and_mask32 _ (by omega) hY1, and_mask32 _ (by omega) (by omega)]
  have main : (hi * 2 ^ s + lo / 2 ^ (64 - s)) * 18446744073709551616 + lo * 2 ^ s % 18446744073709551616 = (hi * 18446744073709551616 + lo) * 2 ^ s := by
    have e1 : (hi * 18446744073709551616 + lo) * 2 ^ s = (hi * 2 ^ s) * 18446744073709551616 + lo * 2 ^ s := by
      rw [Int.add_mul, Int.mul_assoc, Int.mul_comm 18446744073709551616 (2 ^ s), ← Int.mul_assoc]
    rw [e1]; omega
  refine ⟨⟨?_, ?_, ?_, ?_, ?_, ?_, ?_, ?_⟩, ?_, ?_, ?_, ?_, ?_, ?_⟩ <;> omega

/-- Both digits: the quotient and the rest. -/
theorem pre_done {hi lo y : Int} {s : Nat} {Y y1 y0 u n1 n0 : Int} (p : Pre hi lo y s Y y1 y0 u n1 n0) :
    (u * 4294967296 + n1) / Y * 4294967296 + ((u * 4294967296 + n1) % Y * 4294967296 + n0) / Y = (hi * 18446744073709551616 + lo) / y ∧
    ((u * 4294967296 + n1) % Y * 4294967296 + n0) % Y / 2 ^ s = (hi * 18446744073709551616 + lo) % y := by
  obtain ⟨n, eY, Y1, n0l, n0h, main, sY⟩ := p
  obtain ⟨h1, h2, h3, h4, h5, h6, h7, h8⟩ := n
  have Y0 : 0 < Y := by omega
  have d1 := Int.mul_ediv_add_emod (u * 4294967296 + n1) Y
  have d2 := Int.mul_ediv_add_emod ((u * 4294967296 + n1) % Y * 4294967296 + n0) Y
  have r0 := Int.emod_nonneg ((u * 4294967296 + n1) % Y * 4294967296 + n0) (show Y ≠ 0 by omega)
  have r1 := Int.emod_lt_of_pos ((u * 4294967296 + n1) % Y * 4294967296 + n0) Y0
  generalize (u * 4294967296 + n1) / Y = q1 at *
  generalize ((u * 4294967296 + n1) % Y * 4294967296 + n0) / Y = q0 at *
  generalize ((u * 4294967296 + n1) % Y * 4294967296 + n0) % Y = r at *
  have e : (hi * 18446744073709551616 + lo) * 2 ^ s = (q1 * 4294967296 + q0) * Y + r := by
    have : (q1 * 4294967296 + q0) * Y = (Y * q1) * 4294967296 + Y * q0 := by
      rw [Int.add_mul, Int.mul_comm q0 Y, Int.mul_assoc, Int.mul_comm 4294967296 Y, ← Int.mul_assoc, Int.mul_comm q1 Y]
    omega
  have p0 : (0 : Int) < 2 ^ s := Int.pow_pos (by decide)
  rw [sY] at e r1
  generalize hi * 18446744073709551616 + lo = N at *
  generalize q1 * 4294967296 + q0 = Q at *
  have e2 : (N - Q * y) * 2 ^ s = r := by
    rw [Int.sub_mul, Int.mul_assoc]; omega
  have a0 : 0 ≤ N - Q * y := by
    by_cases h : 0 ≤ N - Q * y
    · exact h
    · have := Int.mul_lt_mul_of_pos_right (show N - Q * y < 0 by omega) p0
      rw [Int.zero_mul] at this
      omega
  have a1 : N - Q * y < y := by
    by_cases h : N - Q * y < y
    · exact h
    · have := Int.mul_le_mul_of_nonneg_right (show y ≤ N - Q * y by omega) (Int.le_of_lt p0)
      omega
  have hy : 0 < y := by omega
  obtain ⟨f1, f2⟩ := ediv_of hy (show Q * y + (N - Q * y) = N by omega) a0 a1
  refine ⟨f1.symm, ?_⟩
  rw [f2, ← e2]
  exact Int.mul_ediv_cancel _ (by omega)

theorem mul_small {q y : Int} (h0 : 0 ≤ q) (h1 : q < 4294967296) (g0 : 0 ≤ y) (g1 : y < 4294967296) : 0 ≤ q * y ∧ q * y ≤ 18446744065119617025 := by
  have := Int.mul_le_mul (show q ≤ 4294967295 by omega) (show y ≤ 4294967295 by omega) g0 (by omega)
  exact ⟨Int.mul_nonneg h0 g0, by omega⟩
theorem guess_rest {u y1 : Int} (h : u < 18446744073709551616) (h0 : 0 ≤ u) (h1 : 2147483648 ≤ y1) : u - u / y1 * y1 = IntKind.u64.wrap (u - IntKind.u64.wrap (u / y1 * y1)) := by
  have e := Int.mul_ediv_add_emod u y1
  have r0 := Int.emod_nonneg u (show y1 ≠ 0 by omega)
  have r1 := Int.emod_lt_of_pos u (show 0 < y1 by omega)
  have a0 := Int.ediv_nonneg h0 (show 0 ≤ y1 by omega)
  have m0 := Int.mul_nonneg a0 (show 0 ≤ y1 by omega)
  have c := Int.mul_comm y1 (u / y1)
  simp only [IntKind.wrap_u64]
  omega

theorem pre_rest {hi lo y : Int} {s : Nat} {Y y1 y0 u n1 n0 q : Int} (p : Pre hi lo y s Y y1 y0 u n1 n0) (hq : q = (u * 4294967296 + n1) / (y1 * 4294967296 + y0)) :
    IntKind.u64.wrap (IntKind.u64.wrap (IntKind.u64.wrap (u * 4294967296) + n1) - IntKind.u64.wrap (q * Y)) = (u * 4294967296 + n1) % Y := by
  have h := p.norm.digit
  rw [← p.eY] at h hq
  rw [← hq] at h
  obtain ⟨n, eY, Y1, n0l, n0h, main, sY⟩ := p
  obtain ⟨h1, h2, h3, h4, h5, h6, h7, h8⟩ := n
  have d1 := Int.mul_ediv_add_emod (u * 4294967296 + n1) Y
  have r0 := Int.emod_nonneg (u * 4294967296 + n1) (show Y ≠ 0 by omega)
  have r1 := Int.emod_lt_of_pos (u * 4294967296 + n1) (show 0 < Y by omega)
  rw [← hq, Int.mul_comm Y q] at d1
  simp only [IntKind.wrap_u64]
  omega
theorem pre_second {hi lo y : Int} {s : Nat} {Y y1 y0 u n1 n0 t : Int} (p : Pre hi lo y s Y y1 y0 u n1 n0) (ht : t = (u * 4294967296 + n1) % Y) : Norm t n0 y1 y0 := by
  obtain ⟨n, eY, Y1, n0l, n0h, main, sY⟩ := p
  obtain ⟨h1, h2, h3, h4, h5, h6, h7, h8⟩ := n
  have r0 := Int.emod_nonneg (u * 4294967296 + n1) (show Y ≠ 0 by omega)
  have r1 := Int.emod_lt_of_pos (u * 4294967296 + n1) (show 0 < Y by omega)
  exact ⟨h1, h2, h3, h4, n0l, n0h, by omega, by omega⟩
theorem pre_out {hi lo y : Int} {s : Nat} {Y y1 y0 u n1 n0 q t q0 : Int} (p : Pre hi lo y s Y y1 y0 u n1 n0) (hq : q = (u * 4294967296 + n1) / (y1 * 4294967296 + y0)) (ht : t = (u * 4294967296 + n1) % Y) (hq0 : q0 = (t * 4294967296 + n0) / (y1 * 4294967296 + y0)) :
    IntKind.u64.wrap (IntKind.u64.wrap (q * 4294967296) + q0) = (hi * 18446744073709551616 + lo) / y ∧
    IntKind.u64.wrap (IntKind.u64.wrap (IntKind.u64.wrap (t * 4294967296) + n0) - IntKind.u64.wrap (q0 * Y)) / 2 ^ s = (hi * 18446744073709551616 + lo) % y := by
  have d := p.norm.digit
  have d' := (pre_second p ht).digit
  have f := pre_done p
  rw [← p.eY] at d d' hq hq0
  rw [← ht, ← hq, ← hq0] at f
  rw [← hq] at d
  rw [← hq0] at d'
  have N := pre_second p ht
  obtain ⟨n, eY, Y1, n0l, n0h, main, sY⟩ := p
  obtain ⟨h1, h2, h3, h4, h5, h6, h7, h8⟩ := N
  have d1 := Int.mul_ediv_add_emod (t * 4294967296 + n0) Y
  have r0 := Int.emod_nonneg (t * 4294967296 + n0) (show Y ≠ 0 by omega)
  have r1 := Int.emod_lt_of_pos (t * 4294967296 + n0) (show 0 < Y by omega)
  rw [← hq0, Int.mul_comm Y q0] at d1
  refine ⟨?_, ?_⟩
  · simp only [IntKind.wrap_u64]
    omega
  · rw [← f.2]
    congr 1
    simp only [IntKind.wrap_u64]
    omega

end Go.Proofs.Ytecgkhijiogggaa.DV
