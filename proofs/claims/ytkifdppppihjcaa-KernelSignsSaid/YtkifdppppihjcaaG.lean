/- Texts G, for this seat. -/
import Derived.Test.YtkifdppppihjcaaE
import Derived.WalkKit
import Derived.Laws.BitsAllLaws
import Derived.Lib.BitFns
import Derived.Test.YtkifdppppihjcaaShelf
import Derived.WalkSpells
import Derived.Lib.Hide
import Derived.BigQuiet
import Derived.Deep.QuietTactic
import Derived.Deep.DeepCutAuto
import Derived.Deep.CutBlock
import Derived.Deep.LoopGhost
import Derived.Deep.Light
namespace Go.Proofs.Ytkifdppppihjcaa.DV
open Go.RowKit

/-- A cell read without a sign. -/
def U (a : Int) : Int := a % 18446744073709551616
/-- A signed double. -/
def D (lo hi : Int) : Int := hi * 18446744073709551616 + lo % 18446744073709551616
def sg (b : Bool) (n : Int) : Int := if b then -n else n
def Word (a : Int) : Prop := 0 ≤ a ∧ a < 18446744073709551616

theorem ediv_of {a b q r : Int} (h : 0 < b) (e : q * b + r = a) (h0 : 0 ≤ r) (h1 : r < b) : a / b = q ∧ a % b = r := by
  have := (Int.ediv_emod_unique (a := a) (b := b) (r := r) (q := q) h).2 ⟨by rw [Int.mul_comm b q]; omega, h0, h1⟩
  exact this

section
variable {u n1 y1 y0 q r : Int}
theorem knuth_eq (e : q * y1 + r = u) : u * 4294967296 + n1 - q * (y1 * 4294967296 + y0) = r * 4294967296 + n1 - q * y0 := by
  have : q * (y1 * 4294967296 + y0) = (q * y1) * 4294967296 + q * y0 := by rw [Int.mul_add, Int.mul_assoc]
  omega
theorem knuth_down (e : q * y1 + r = u) (hy : 0 < y1 * 4294967296 + y0) (h : r * 4294967296 + n1 < q * y0) : (u * 4294967296 + n1) / (y1 * 4294967296 + y0) ≤ q - 1 := by
  have := knuth_eq (n1 := n1) (y0 := y0) e
  have := Int.ediv_lt_of_lt_mul hy (a := u * 4294967296 + n1) (b := q) (by omega)
  omega
theorem knuth_le (e : q * y1 + r = u) (hy : 0 < y1 * 4294967296 + y0) (h : q * y0 ≤ r * 4294967296 + n1) : q ≤ (u * 4294967296 + n1) / (y1 * 4294967296 + y0) := by
  have := knuth_eq (n1 := n1) (y0 := y0) e
  exact Int.le_ediv_of_mul_le hy (by omega)
end

/-- The guess of a digit: what the loop keeps. -/
structure Guess (u n1 y1 y0 q r : Int) : Prop where
  eq : q * y1 + r = u
  hi : q ≤ 4294967297
  lo : (u * 4294967296 + n1) / (y1 * 4294967296 + y0) ≤ q
  r0 : 0 ≤ r
  r1 : r < 4294967296
/-- What the divisor and the dividend are. -/
structure Norm (u n1 y1 y0 : Int) : Prop where
  y1l : 2147483648 ≤ y1
  y1h : y1 < 4294967296
  y0l : 0 ≤ y0
  y0h : y0 < 4294967296
  n1l : 0 ≤ n1
  n1h : n1 < 4294967296
  ul : 0 ≤ u
  uh : u < y1 * 4294967296 + y0

theorem Norm.digit {u n1 y1 y0 : Int} (n : Norm u n1 y1 y0) : 0 ≤ (u * 4294967296 + n1) / (y1 * 4294967296 + y0) ∧ (u * 4294967296 + n1) / (y1 * 4294967296 + y0) < 4294967296 := by
  obtain ⟨h1, h2, h3, h4, h5, h6, h7, h8⟩ := n
  exact ⟨Int.ediv_nonneg (by omega) (by omega), Int.ediv_lt_of_lt_mul (by omega) (by omega)⟩

theorem guess_start {u n1 y1 y0 : Int} (n : Norm u n1 y1 y0) : Guess u n1 y1 y0 (u / y1) (u - u / y1 * y1) := by
  have nd := n.digit
  obtain ⟨h1, h2, h3, h4, h5, h6, h7, h8⟩ := n
  have e := Int.mul_ediv_add_emod u y1
  have r0 := Int.emod_nonneg u (show y1 ≠ 0 by omega)
  have r1 := Int.emod_lt_of_pos u (show 0 < y1 by omega)
  have c := Int.mul_comm y1 (u / y1)
  refine ⟨by omega, ?_, ?_, by omega, by omega⟩
  · have : u / y1 < 4294967298 := Int.ediv_lt_of_lt_mul (by omega) (by omega)
    omega
  · have := Int.ediv_lt_of_lt_mul (a := u * 4294967296 + n1) (b := u / y1 + 1) (c := y1 * 4294967296 + y0) (by omega) (by
      have e2 : (u / y1 + 1) * (y1 * 4294967296 + y0) = (u / y1 * y1) * 4294967296 + y1 * 4294967296 + (u / y1) * y0 + y0 := by
        rw [Int.add_mul, Int.one_mul, Int.mul_add, Int.mul_assoc]; omega
      have : 0 ≤ (u / y1) * y0 := Int.mul_nonneg (Int.ediv_nonneg h7 (by omega)) h3
      omega)
    omega

theorem guess_down {u n1 y1 y0 q r : Int} (n : Norm u n1 y1 y0) (g : Guess u n1 y1 y0 q r) (h : 4294967296 ≤ q ∨ r * 4294967296 + n1 < q * y0) :
    (u * 4294967296 + n1) / (y1 * 4294967296 + y0) ≤ q - 1 ∧ (q - 1) * y1 + (r + y1) = u ∧ q - 1 ≤ 4294967296 ∧ 0 ≤ q - 1 := by
  have nd := n.digit
  obtain ⟨h1, h2, h3, h4, h5, h6, h7, h8⟩ := n
  obtain ⟨g1, g2, g3, g4, g5⟩ := g
  have e : (q - 1) * y1 = q * y1 - y1 := by rw [Int.sub_mul, Int.one_mul]
  rcases h with h | h
  · exact ⟨by omega, by omega, by omega, by omega⟩
  · have := knuth_down g1 (by omega) h
    exact ⟨this, by omega, by omega, by omega⟩

/-- The loop's test fails: the guess is the digit. -/
theorem guess_done {u n1 y1 y0 q r : Int} (n : Norm u n1 y1 y0) (g : Guess u n1 y1 y0 q r) (h : q * y0 ≤ r * 4294967296 + n1) : q = (u * 4294967296 + n1) / (y1 * 4294967296 + y0) := by
  have := knuth_le g.eq (by have := n.y1l; have := n.y0l; omega) h
  have := g.lo
  omega
/-- The rest has grown over a digit: the guess is the digit. -/
theorem guess_break {u n1 y1 y0 q r : Int} (n : Norm u n1 y1 y0) (l : (u * 4294967296 + n1) / (y1 * 4294967296 + y0) ≤ q) (e : q * y1 + r = u) (hq : q ≤ 4294967296) (hr : 4294967296 ≤ r) : q = (u * 4294967296 + n1) / (y1 * 4294967296 + y0) := by
  obtain ⟨h1, h2, h3, h4, h5, h6, h7, h8⟩ := n
  have a : q * y0 ≤ 4294967296 * y0 := Int.mul_le_mul_of_nonneg_right hq h3
  have := knuth_le e (by omega) (show q * y0 ≤ r * 4294967296 + n1 by omega)
  omega


/-! ### Sizes and signs -/
end Go.Proofs.Ytkifdppppihjcaa.DV

namespace Go.Proofs.Ytkifdppppihjcaa.DV
open Go.RowKit

theorem bitLenAux_bounds : ∀ (f x : Nat), 0 < x → x < 2 ^ f → 0 < Lib.bitLenAux f x ∧ 2 ^ (Lib.bitLenAux f x - 1) ≤ x ∧ x < 2 ^ Lib.bitLenAux f x := by
  intro f
  induction f with
  | zero => intro x h0 h1; simp at h1; omega
  | succ f ih =>
    intro x h0 h1
    simp only [Lib.bitLenAux]
    rw [if_neg (by omega)]
    by_cases hx : x / 2 = 0
    · have : x = 1 := by omega
      subst this
      have e : Lib.bitLenAux f (1 / 2) = 0 := by
        cases f <;> simp [Lib.bitLenAux]
      rw [e]
      exact ⟨by omega, by decide, by decide⟩
    · obtain ⟨a, b, c⟩ := ih (x / 2) (by omega) (by rw [Nat.pow_succ] at h1; omega)
      refine ⟨by omega, ?_, ?_⟩
      · have e : 1 + Lib.bitLenAux f (x / 2) - 1 = (Lib.bitLenAux f (x / 2) - 1) + 1 := by omega
        rw [e, Nat.pow_succ]
        omega
      · rw [Nat.add_comm, Nat.pow_succ]
        omega

/-- The normalizing shift of a word that is not 0. -/
theorem norm_shift (y : Int) (h0 : 0 < y) (h1 : y < 18446744073709551616) :
    ∃ s : Nat, s ≤ 63 ∧ (64 - (Lib.bitLen y.toNat : Int)) = (s : Int) ∧ 9223372036854775808 ≤ y * 2 ^ s ∧ y * 2 ^ s < 18446744073709551616 := by
  obtain ⟨n, rfl⟩ := Int.eq_ofNat_of_zero_le (Int.le_of_lt h0)
  obtain ⟨a, b, c⟩ := bitLenAux_bounds 64 n (by omega) (by omega)
  have d : Lib.bitLenAux 64 n ≤ 64 := by
    by_cases h : Lib.bitLenAux 64 n ≤ 64
    · exact h
    · have : 2 ^ 64 ≤ 2 ^ (Lib.bitLenAux 64 n - 1) := Nat.pow_le_pow_right (by decide) (by omega)
      omega
  refine ⟨64 - Lib.bitLenAux 64 n, by omega, ?_, ?_, ?_⟩
  · simp only [Int.toNat_natCast, Lib.bitLen]; omega
  · have e : 2 ^ (Lib.bitLenAux 64 n - 1) * 2 ^ (64 - Lib.bitLenAux 64 n) = 2 ^ 63 := by
      rw [← Nat.pow_add]; congr 1; omega
    have := Nat.mul_le_mul_right (2 ^ (64 - Lib.bitLenAux 64 n)) b
    rw [e] at this
    have h2 : ((2 ^ 63 : Nat) : Int) ≤ ((n * 2 ^ (64 - Lib.bitLenAux 64 n) : Nat) : Int) := by exact_mod_cast this
    rw [Int.natCast_mul, Int.natCast_pow] at h2
    exact h2
  · have e : 2 ^ Lib.bitLenAux 64 n * 2 ^ (64 - Lib.bitLenAux 64 n) = 2 ^ 64 := by
      rw [← Nat.pow_add]; congr 1; omega
    have := Nat.mul_lt_mul_of_pos_right c (Nat.pow_pos (n := 64 - Lib.bitLenAux 64 n) (show 0 < 2 by decide))
    rw [e] at this
    have h2 : ((n * 2 ^ (64 - Lib.bitLenAux 64 n) : Nat) : Int) < ((2 ^ 64 : Nat) : Int) := by exact_mod_cast this
    rw [Int.natCast_mul, Int.natCast_pow] at h2
    exact h2

theorem and_mask32 (x : Int) (h0 : 0 ≤ x) (h1 : x < 18446744073709551616) : bits .and .u64 x 4294967295 = x % 4294967296 := by
  rw [u64_and x 4294967295 h0 h1 (by decide) (by decide)]
  obtain ⟨n, rfl⟩ := Int.eq_ofNat_of_zero_le h0
  have : n &&& 4294967295 = n % 4294967296 := Nat.and_two_pow_sub_one_eq_mod n 32
  simp only [Int.toNat_natCast]
  show ((n &&& 4294967295 : Nat) : Int) = _
  rw [this]; rfl

theorem or_join (s : Nat) (a b : Int) (ha : 0 ≤ a) (h1 : a * 2 ^ s < 18446744073709551616) (hb : 0 ≤ b) (hb1 : b < 2 ^ s) (hb2 : b < 18446744073709551616) : bits .or .u64 (a * 2 ^ s) b = a * 2 ^ s + b := by
  obtain ⟨m, rfl⟩ := Int.eq_ofNat_of_zero_le ha
  obtain ⟨n, rfl⟩ := Int.eq_ofNat_of_zero_le hb
  have e : (m : Int) * 2 ^ s = ((m * 2 ^ s : Nat) : Int) := by rw [Int.natCast_mul, Int.natCast_pow]; rfl
  have hb' : n < 2 ^ s := by
    have : (n : Int) < ((2 ^ s : Nat) : Int) := by rw [Int.natCast_pow]; exact hb1
    exact_mod_cast this
  rw [e] at h1 ⊢
  rw [u64_or_nat (m * 2 ^ s) n (by omega) (by omega), nat_join s (m * 2 ^ s) n (Nat.mul_mod_left _ _) hb', Int.natCast_add]

structure Pre (hi lo y : Int) (s : Nat) (Y y1 y0 u n1 n0 : Int) : Prop where
  norm : Norm u n1 y1 y0
  eY : Y = y1 * 4294967296 + y0
  Y1 : Y < 18446744073709551616
  n0l : 0 ≤ n0
  n0h : n0 < 4294967296
  main : u * 18446744073709551616 + n1 * 4294967296 + n0 = (hi * 18446744073709551616 + lo) * 2 ^ s
  sY : Y = y * 2 ^ s

theorem pre_start (hi lo y : Int) (s : Nat) (hs : s ≤ 63) (h0 : 0 ≤ hi) (h1 : hi < y) (hl : 0 ≤ lo) (hl1 : lo < 18446744073709551616) (hY : 9223372036854775808 ≤ y * 2 ^ s) (hY1 : y * 2 ^ s < 18446744073709551616) :
    Pre hi lo y s (IntKind.u64.wrap (y * 2 ^ s)) (IntKind.u64.wrap (y * 2 ^ s) / 4294967296) (bits .and .u64 (IntKind.u64.wrap (y * 2 ^ s)) 4294967295)
      (bits .or .u64 (IntKind.u64.wrap (hi * 2 ^ s)) (lo / 2 ^ (64 - s))) (IntKind.u64.wrap (lo * 2 ^ s) / 4294967296) (bits .and .u64 (IntKind.u64.wrap (lo * 2 ^ s)) 4294967295) := by
  simp only [IntKind.wrap_u64]
  have eY : y * 2 ^ s % 18446744073709551616 = y * 2 ^ s := Int.emod_eq_of_lt (by omega) hY1
  have p0 : (0 : Int) < 2 ^ s := Int.pow_pos (by decide)
  have q0 : (0 : Int) < 2 ^ (64 - s) := Int.pow_pos (by decide)
  have pq : (2 : Int) ^ s * 2 ^ (64 - s) = 18446744073709551616 := by
    rw [← Int.pow_add, show s + (64 - s) = 64 by omega]; decide
  have hy : (hi + 1) * 2 ^ s ≤ y * 2 ^ s := Int.mul_le_mul_of_nonneg_right (by omega) (Int.le_of_lt p0)
  rw [Int.add_mul, Int.one_mul] at hy
  have hh0 : 0 ≤ hi * 2 ^ s := Int.mul_nonneg h0 (Int.le_of_lt p0)
  have eh : hi * 2 ^ s % 18446744073709551616 = hi * 2 ^ s := Int.emod_eq_of_lt hh0 (by omega)
  have d0 := Int.mul_ediv_add_emod lo (2 ^ (64 - s))
  have r0 := Int.emod_nonneg lo (show (2 : Int) ^ (64 - s) ≠ 0 by omega)
  have r1 := Int.emod_lt_of_pos lo q0
  have a0 : 0 ≤ lo / 2 ^ (64 - s) := Int.ediv_nonneg hl (Int.le_of_lt q0)
  have a1 : lo / 2 ^ (64 - s) < 2 ^ s := Int.ediv_lt_of_lt_mul q0 (by rw [pq]; exact hl1)
  have elo : lo * 2 ^ s = (lo / 2 ^ (64 - s)) * 18446744073709551616 + (lo % 2 ^ (64 - s)) * 2 ^ s := by
    have : lo * 2 ^ s = (2 ^ (64 - s) * (lo / 2 ^ (64 - s)) + lo % 2 ^ (64 - s)) * 2 ^ s := by rw [d0]
    rw [this, Int.add_mul, ← pq, Int.mul_comm (2 ^ (64 - s)) (lo / 2 ^ (64 - s)), Int.mul_assoc, Int.mul_comm (2 ^ (64 - s)) (2 ^ s)]
  have m0 : 0 ≤ (lo % 2 ^ (64 - s)) * 2 ^ s := Int.mul_nonneg r0 (Int.le_of_lt p0)
  have m1 : (lo % 2 ^ (64 - s)) * 2 ^ s < 18446744073709551616 := by
    have := Int.mul_lt_mul_of_pos_right r1 p0
    rw [Int.mul_comm (2 ^ (64 - s)) (2 ^ s), pq] at this
    exact this
  have elm : lo * 2 ^ s % 18446744073709551616 = (lo % 2 ^ (64 - s)) * 2 ^ s := by omega
  rw [eY, eh, or_join s hi _ h0 (by omega) a0 a1 (by omega), and_mask32 _ (by omega) hY1, and_mask32 _ (by omega) (by omega)]
  have main : (hi * 2 ^ s + lo / 2 ^ (64 - s)) * 18446744073709551616 + lo * 2 ^ s % 18446744073709551616 = (hi * 18446744073709551616 + lo) * 2 ^ s := by
    have e1 : (hi * 18446744073709551616 + lo) * 2 ^ s = (hi * 2 ^ s) * 18446744073709551616 + lo * 2 ^ s := by
      rw [Int.add_mul, Int.mul_assoc, Int.mul_comm 18446744073709551616 (2 ^ s), ← Int.mul_assoc]
    rw [e1]; omega
  refine ⟨⟨?_, ?_, ?_, ?_, ?_, ?_, ?_, ?_⟩, ?_, ?_, ?_, ?_, ?_, ?_⟩ <;> omega

/-- Both digits: the quotient and the rest. -/
theorem pre_done {hi lo y : Int} {s : Nat} {Y y1 y0 u n1 n0 : Int} (p : Pre hi lo y s Y y1 y0 u n1 n0) :
    (u * 4294967296 + n1) / Y * 4294967296 + ((u * 4294967296 + n1) % Y * 4294967296 + n0) / Y = (hi * 18446744073709551616 + lo) / y ∧
    ((u * 4294967296 + n1) % Y * 4294967296 + n0) % Y / 2 ^ s = (hi * 18446744073709551616 + lo) % y := by
  obtain ⟨n, eY, Y1, n0l, n0h, main, sY⟩ := p
  obtain ⟨h1, h2, h3, h4, h5, h6, h7, h8⟩ := n
  have Y0 : 0 < Y := by omega
  have d1 := Int.mul_ediv_add_emod (u * 4294967296 + n1) Y
  have d2 := Int.mul_ediv_add_emod ((u * 4294967296 + n1) % Y * 4294967296 + n0) Y
  have r0 := Int.emod_nonneg ((u * 4294967296 + n1) % Y * 4294967296 + n0) (show Y ≠ 0 by omega)
  have r1 := Int.emod_lt_of_pos ((u * 4294967296 + n1) % Y * 4294967296 + n0) Y0
  generalize (u * 4294967296 + n1) / Y = q1 at *
  generalize ((u * 4294967296 + n1) % Y * 4294967296 + n0) / Y = q0 at *
  generalize ((u * 4294967296 + n1) % Y * 4294967296 + n0) % Y = r at *
  have e : (hi * 18446744073709551616 + lo) * 2 ^ s = (q1 * 4294967296 + q0) * Y + r := by
    have : (q1 * 4294967296 + q0) * Y = (Y * q1) * 4294967296 + Y * q0 := by
      rw [Int.add_mul, Int.mul_comm q0 Y, Int.mul_assoc, Int.mul_comm 4294967296 Y, ← Int.mul_assoc, Int.mul_comm q1 Y]
    omega
  have p0 : (0 : Int) < 2 ^ s := Int.pow_pos (by decide)
  rw [sY] at e r1
  generalize hi * 18446744073709551616 + lo = N at *
  generalize q1 * 4294967296 + q0 = Q at *
  have e2 : (N - Q * y) * 2 ^ s = r := by
    rw [Int.sub_mul, Int.mul_assoc]; omega
  have a0 : 0 ≤ N - Q * y := by
    by_cases h : 0 ≤ N - Q * y
    · exact h
    · have := Int.mul_lt_mul_of_pos_right (show N - Q * y < 0 by omega) p0
      rw [Int.zero_mul] at this
      omega
  have a1 : N - Q * y < y := by
    by_cases h : N - Q * y < y
    · exact h
    · have := Int.mul_le_mul_of_nonneg_right (show y ≤ N - Q * y by omega) (Int.le_of_lt p0)
      omega
  have hy : 0 < y := by omega
  obtain ⟨f1, f2⟩ := ediv_of hy (show Q * y + (N - Q * y) = N by omega) a0 a1
  refine ⟨f1.symm, ?_⟩
  rw [f2, ← e2]
  exact Int.mul_ediv_cancel _ (by omega)

theorem mul_small {q y : Int} (h0 : 0 ≤ q) (h1 : q < 4294967296) (g0 : 0 ≤ y) (g1 : y < 4294967296) : 0 ≤ q * y ∧ q * y ≤ 18446744065119617025 := by
  have := Int.mul_le_mul (show q ≤ 4294967295 by omega) (show y ≤ 4294967295 by omega) g0 (by omega)
  exact ⟨Int.mul_nonneg h0 g0, by omega⟩
theorem guess_rest {u y1 : Int} (h : u < 18446744073709551616) (h0 : 0 ≤ u) (h1 : 2147483648 ≤ y1) : u - u / y1 * y1 = IntKind.u64.wrap (u - IntKind.u64.wrap (u / y1 * y1)) := by
  have e := Int.mul_ediv_add_emod u y1
  have r0 := Int.emod_nonneg u (show y1 ≠ 0 by omega)
  have r1 := Int.emod_lt_of_pos u (show 0 < y1 by omega)
  have a0 := Int.ediv_nonneg h0 (show 0 ≤ y1 by omega)
  have m0 := Int.mul_nonneg a0 (show 0 ≤ y1 by omega)
  have c := Int.mul_comm y1 (u / y1)
  simp only [IntKind.wrap_u64]
  omega

theorem pre_rest {hi lo y : Int} {s : Nat} {Y y1 y0 u n1 n0 q : Int} (p : Pre hi lo y s Y y1 y0 u n1 n0) (hq : q = (u * 4294967296 + n1) / (y1 * 4294967296 + y0)) :
    IntKind.u64.wrap (IntKind.u64.wrap (IntKind.u64.wrap (u * 4294967296) + n1) - IntKind.u64.wrap (q * Y)) = (u * 4294967296 + n1) % Y := by
  have h := p.norm.digit
  rw [← p.eY] at h hq
  rw [← hq] at h
  obtain ⟨n, eY, Y1, n0l, n0h, main, sY⟩ := p
  obtain ⟨h1, h2, h3, h4, h5, h6, h7, h8⟩ := n
  have d1 := Int.mul_ediv_add_emod (u * 4294967296 + n1) Y
  have r0 := Int.emod_nonneg (u * 4294967296 + n1) (show Y ≠ 0 by omega)
  have r1 := Int.emod_lt_of_pos (u * 4294967296 + n1) (show 0 < Y by omega)
  rw [← hq, Int.mul_comm Y q] at d1
  simp only [IntKind.wrap_u64]
  omega
theorem pre_second {hi lo y : Int} {s : Nat} {Y y1 y0 u n1 n0 t : Int} (p : Pre hi lo y s Y y1 y0 u n1 n0) (ht : t = (u * 4294967296 + n1) % Y) : Norm t n0 y1 y0 := by
  obtain ⟨n, eY, Y1, n0l, n0h, main, sY⟩ := p
  obtain ⟨h1, h2, h3, h4, h5, h6, h7, h8⟩ := n
  have r0 := Int.emod_nonneg (u * 4294967296 + n1) (show Y ≠ 0 by omega)
  have r1 := Int.emod_lt_of_pos (u * 4294967296 + n1) (show 0 < Y by omega)
  exact ⟨h1, h2, h3, h4, n0l, n0h, by omega, by omega⟩
theorem pre_out {hi lo y : Int} {s : Nat} {Y y1 y0 u n1 n0 q t q0 : Int} (p : Pre hi lo y s Y y1 y0 u n1 n0) (hq : q = (u * 4294967296 + n1) / (y1 * 4294967296 + y0)) (ht : t = (u * 4294967296 + n1) % Y) (hq0 : q0 = (t * 4294967296 + n0) / (y1 * 4294967296 + y0)) :
    IntKind.u64.wrap (IntKind.u64.wrap (q * 4294967296) + q0) = (hi * 18446744073709551616 + lo) / y ∧
    IntKind.u64.wrap (IntKind.u64.wrap (IntKind.u64.wrap (t * 4294967296) + n0) - IntKind.u64.wrap (q0 * Y)) / 2 ^ s = (hi * 18446744073709551616 + lo) % y := by
  have d := p.norm.digit
  have d' := (pre_second p ht).digit
  have f := pre_done p
  rw [← p.eY] at d d' hq hq0
  rw [← ht, ← hq, ← hq0] at f
  rw [← hq] at d
  rw [← hq0] at d'
  have N := pre_second p ht
  obtain ⟨n, eY, Y1, n0l, n0h, main, sY⟩ := p
  obtain ⟨h1, h2, h3, h4, h5, h6, h7, h8⟩ := N
  have d1 := Int.mul_ediv_add_emod (t * 4294967296 + n0) Y
  have r0 := Int.emod_nonneg (t * 4294967296 + n0) (show Y ≠ 0 by omega)
  have r1 := Int.emod_lt_of_pos (t * 4294967296 + n0) (show 0 < Y by omega)
  rw [← hq0, Int.mul_comm Y q0] at d1
  refine ⟨?_, ?_⟩
  · simp only [IntKind.wrap_u64]
    omega
  · rw [← f.2]
    congr 1
    simp only [IntKind.wrap_u64]
    omega

end Go.Proofs.Ytkifdppppihjcaa.DV

namespace Go.Proofs.Ytkifdppppihjcaa.DV
open Go.RowKit Go.Shelf
theorem ret2 {k l : IntKind} {a b c d : Int} (h : a = b) (g : c = d) : Ending.returned (.tuple #[.int k a, .int l c]) = .returned (.tuple #[.int k b, .int l d]) := by rw [h, g]
theorem ret_int {k : IntKind} {a b : Int} (h : a = b) : Value.int k a = .int k b := by rw [h]
theorem lz64 (x : Int) (w : World) (h : Word x) :
    Calls Try.prog 58 #[.int .u64 x] w fun e w' => e = .returned (.int .i64 (64 - (Lib.bitLen x.toNat : Int))) ∧ w = w' :=
  (Try.bits_LeadingZeros64 x w h.1 (by have := h.2; omega)).mono fun _ _ ⟨a, b⟩ => ⟨a, b.symm⟩
set_option maxRecDepth 100000 in
set_option maxHeartbeats 1000000 in
theorem div64_big (hi lo y : Int) (w : World) (k1 : hi < y) (k2 : 0 < hi) (hl : 0 ≤ lo) (hl1 : lo < 18446744073709551616) (hy1 : y < 18446744073709551616) :
    Calls Try.prog 40 #[.int .u64 hi, .int .u64 lo, .int .u64 y] w fun e w' => e = .returned (.tuple #[.int .u64 ((hi * 18446744073709551616 + lo) / y), .int .u64 ((hi * 18446744073709551616 + lo) % y)]) ∧ w = w' := by
  obtain ⟨s, hs, hse0, hY, hY1⟩ := norm_shift y (by omega) hy1
  have P := pre_start hi lo y s hs (by omega) k1 hl hl1 hY hY1
  have hnz : ¬IntKind.u64.wrap (y * 2 ^ s) / 4294967296 = 0 := by rw [IntKind.wrap_u64]; omega
  have hse := Lib.hid hse0
  have HP := Lib.hid P
  have k0 : ¬ y = 0 := by omega
  clear hse0 hY hY1 P
  go_enter Try.func40, Try.ntmps40
  go_upto_region 8 with (go_at_call 58; refine (lz64 _ _ ⟨by omega, by omega⟩).mono ?_; rintro e w' ⟨rfl, rfl⟩; rw [hse.out])
  go_upto_region 14 with (fail)
  go_cut [2, 8, 9, 10, 11, 13, 14] (fun v2 v8 v9 v10 v11 v13 v14 wc => ∃ Y y1 y0 u n1 n0 : Int, v2 = .int .u64 Y ∧ v8 = .int .u64 s ∧ v9 = .int .u64 y1 ∧ v10 = .int .u64 y0 ∧ v11 = .int .u64 u ∧ v13 = .int .u64 n1 ∧ v14 = .int .u64 n0 ∧ Hid (Pre hi lo y s Y y1 y0 u n1 n0) ∧ w = wc)
  case first =>
    go_wp2
    go_meet
    case rel =>
      exact ⟨_, _, _, _, _, _, rfl, rfl, rfl, rfl, rfl, rfl, rfl, HP, rfl⟩
  case rest =>
    obtain ⟨Y, y1, y0, u, n1, n0, rfl, rfl, rfl, rfl, rfl, rfl, rfl, hP, rfl⟩ := hcut
    clear HP
    have b1 := hP.out.norm.y1l
    have b2 := hP.out.norm.y1h
    have b3 := hP.out.norm.y0l
    have b4 := hP.out.norm.y0h
    have b5 := hP.out.norm.n1l
    have b6 := hP.out.norm.n1h
    have b7 := hP.out.norm.ul
    have b8 := hP.out.norm.uh
    have c1 := hP.out.Y1
    have c2 := hP.out.n0l
    have c3 := hP.out.n0h
    have G := Lib.hid (guess_start hP.out.norm)
    go_upto_block 0 with (fail)
    go_cut [15, 16] (fun v15 v16 wc => (∃ q r : Int, v15 = .int .u64 q ∧ v16 = .int .u64 r ∧ Hid (q = (u * 4294967296 + n1) / (y1 * 4294967296 + y0))) ∧ w = wc)
    case first =>
      go_wp2_with fail
      go_loop [15, 16] (fun v15 v16 => ∃ q r : Int, v15 = .int .u64 q ∧ v16 = .int .u64 r ∧ Hid (Guess u n1 y1 y0 q r)) (fun v15 _ => (intOf v15).toNat)
      case atStart => exact ⟨_, _, rfl, ret_int (guess_rest (by omega) b7 b1).symm, G⟩
      case round =>
        obtain ⟨q, r, rfl, rfl, hg⟩ := hrel
        have g1 := hg.out.hi
        have g2 := hg.out.r0
        have g3 := hg.out.r1
        have g4 : 0 ≤ q := by have := hg.out.lo; have := hP.out.norm.digit; omega
        by_cases h1 : 4294967296 ≤ q
        · have d := guess_down hP.out.norm hg.out (.inl h1)
          have D := Lib.hid d
          clear d
          by_cases h3 : 4294967296 ≤ r + y1
          · go_wp2
            go_meet
            case rel => exact ⟨⟨_, _, rfl, rfl, guess_break hP.out.norm D.out.1 D.out.2.1 D.out.2.2.1 h3⟩, rfl⟩
          · go_wp2
            go_round
            case rel => exact ⟨_, _, rfl, rfl, ⟨D.out.2.1, by omega, D.out.1, by omega, by omega⟩⟩
            case measure => simp [intOf]; omega
        · have g5 := mul_small g4 (show q < 4294967296 by omega) b3 b4
          have g6 := g5.1
          have g7 := g5.2
          clear g5
          by_cases h2 : 4294967296 * r + n1 < q * y0
          · have d := guess_down hP.out.norm hg.out (.inr (by omega))
            have D := Lib.hid d
            clear d
            have g8 : 1 ≤ q := by have := D.out.2.2.2; omega
            by_cases h3 : 4294967296 ≤ r + y1
            · go_wp2
              go_meet
              case rel => exact ⟨⟨_, _, rfl, rfl, guess_break hP.out.norm D.out.1 D.out.2.1 D.out.2.2.1 h3⟩, rfl⟩
            · go_wp2
              go_round
              case rel => exact ⟨_, _, rfl, rfl, ⟨D.out.2.1, by omega, D.out.1, by omega, by omega⟩⟩
              case measure => simp [intOf]; omega
          · go_wp2
            go_meet
            case rel => exact ⟨⟨_, _, rfl, rfl, guess_done hP.out.norm hg.out (by omega)⟩, rfl⟩
    case rest =>
      obtain ⟨⟨q, r, rfl, rfl, hq⟩, rfl⟩ := hcut
      clear G
      go_upto_region 21 with (fail)
      go_cut [17] (fun v17 wc => (∃ t : Int, v17 = .int .u64 t ∧ Hid (t = (u * 4294967296 + n1) % Y)) ∧ w = wc)
      case first =>
        go_wp2
        go_meet
        case rel => exact ⟨⟨_, rfl, pre_rest hP.out hq.out⟩, rfl⟩
      case rest =>
        obtain ⟨⟨t, rfl, ht⟩, rfl⟩ := hcut
        have hN := Lib.hid (pre_second hP.out ht.out)
        have t0 := hN.out.ul
        have t1 := hN.out.uh
        have G2 := Lib.hid (guess_start hN.out)
        go_upto_block 2 with (fail)
        go_cut [18, 16] (fun v18 v16 wc => (∃ q r : Int, v18 = .int .u64 q ∧ v16 = .int .u64 r ∧ Hid (q = (t * 4294967296 + n0) / (y1 * 4294967296 + y0))) ∧ w = wc)
        case first =>
          go_wp2_with fail
          go_loop [18, 16] (fun v18 v16 => ∃ q r : Int, v18 = .int .u64 q ∧ v16 = .int .u64 r ∧ Hid (Guess t n0 y1 y0 q r)) (fun v18 _ => (intOf v18).toNat)
          case atStart => exact ⟨_, _, rfl, ret_int (guess_rest (by omega) t0 b1).symm, G2⟩
          case round =>
            obtain ⟨q, r, rfl, rfl, hg⟩ := hrel
            have g1 := hg.out.hi
            have g2 := hg.out.r0
            have g3 := hg.out.r1
            have g4 : 0 ≤ q := by have := hg.out.lo; have := hN.out.digit; omega
            by_cases h1 : 4294967296 ≤ q
            · have d := guess_down hN.out hg.out (.inl h1)
              have D := Lib.hid d
              clear d
              by_cases h3 : 4294967296 ≤ r + y1
              · go_wp2
                go_meet
                case rel => exact ⟨⟨_, _, rfl, rfl, guess_break hN.out D.out.1 D.out.2.1 D.out.2.2.1 h3⟩, rfl⟩
              · go_wp2
                go_round
                case rel => exact ⟨_, _, rfl, rfl, ⟨D.out.2.1, by omega, D.out.1, by omega, by omega⟩⟩
                case measure => simp [intOf]; omega
            · have g5 := mul_small g4 (show q < 4294967296 by omega) b3 b4
              have g6 := g5.1
              have g7 := g5.2
              clear g5
              by_cases h2 : 4294967296 * r + n0 < q * y0
              · have d := guess_down hN.out hg.out (.inr (by omega))
                have D := Lib.hid d
                clear d
                have g8 : 1 ≤ q := by have := D.out.2.2.2; omega
                by_cases h3 : 4294967296 ≤ r + y1
                · go_wp2
                  go_meet
                  case rel => exact ⟨⟨_, _, rfl, rfl, guess_break hN.out D.out.1 D.out.2.1 D.out.2.2.1 h3⟩, rfl⟩
                · go_wp2
                  go_round
                  case rel => exact ⟨_, _, rfl, rfl, ⟨D.out.2.1, by omega, D.out.1, by omega, by omega⟩⟩
                  case measure => simp [intOf]; omega
              · go_wp2
                go_meet
                case rel => exact ⟨⟨_, _, rfl, rfl, guess_done hN.out hg.out (by omega)⟩, rfl⟩
        case rest =>
          obtain ⟨⟨q0, r0, rfl, rfl, hq0⟩, rfl⟩ := hcut
          have F := Lib.hid (pre_out hP.out hq.out ht.out hq0.out)
          have hs1 : (s : Int) ≤ 63 := by omega
          go_wp2
          go_ret2
          exact ⟨ret2 F.out.1 F.out.2, rfl⟩

theorem div64_small (lo y : Int) (w : World) (k1 : 0 < y) (hl : 0 ≤ lo) (hl1 : lo < 18446744073709551616) :
    Calls Try.prog 40 #[.int .u64 0, .int .u64 lo, .int .u64 y] w fun e w' => e = .returned (.tuple #[.int .u64 (lo / y), .int .u64 (lo % y)]) ∧ ∃ n, w' = w.drewN n := by
  have k0 : ¬ y = 0 := by omega
  go_enter Try.func40, Try.ntmps40
  go_wp2_with fail
  go_quiet (fail)
  go_wp2
  go_ret2
  exact ⟨rfl, _, rfl⟩

/-- math/bits.Div64, where it answers. -/
theorem div64 (hi lo y : Int) (w : World) (h0 : 0 ≤ hi) (h1 : hi < y) (hl : Word lo) (hy : Word y) :
    Calls Try.prog 40 #[.int .u64 hi, .int .u64 lo, .int .u64 y] w fun e w' => e = .returned (.tuple #[.int .u64 ((hi * 18446744073709551616 + lo) / y), .int .u64 ((hi * 18446744073709551616 + lo) % y)]) ∧ ∃ n, w' = w.drewN n := by
  by_cases h : hi = 0
  · subst h
    rw [Int.zero_mul, Int.zero_add]
    exact div64_small lo y w h1 hl.1 hl.2
  · exact (div64_big hi lo y w h1 (by omega) hl.1 hl.2 hy.2).mono fun e w' ⟨he, hw⟩ => ⟨he, 0, hw.symm⟩

end Go.Proofs.Ytkifdppppihjcaa.DV

namespace Go.Proofs.Ytkifdppppihjcaa
set_option linter.unusedVariables false
set_option linter.unusedSimpArgs false
open Go.RowKit Go.Shelf SF
theorem neg_c (a : Nat) (ha : W a) (w : World) : Calls Try.prog 8 #[.int .u64 a] w fun e w' => e = .returned (.int .u64 ((negV a : Nat) : Int)) ∧ w = w' := by
  have N1 := Lib.hid (isnan_c a ha)
  have X := bxor_sign ha
  unfold negV
  obtain ⟨n, hn⟩ : ∃ n, nan a = n := ⟨_, rfl⟩
  rw [hn] at N1 ⊢
  clear hn
  cases n
  · go_enter Try.func8, Try.ntmps8
    go_wp2_with (first
      | (go_at_call 33; (with_reducible refine (N1.out _).mono ?_); rintro e1 w1 ⟨rfl, rfl⟩))
    go_ret
    exact ⟨rfl, rfl⟩
  · go_enter Try.func8, Try.ntmps8
    go_wp2_with (first
      | (go_at_call 33; (with_reducible refine (N1.out _).mono ?_); rintro e1 w1 ⟨rfl, rfl⟩))
    go_ret
    exact ⟨rfl, rfl⟩
theorem abs_c (a : Nat) (ha : W a) (w : World) : Calls Try.prog 15 #[.int .u64 a] w fun e w' => e = .returned (.int .u64 ((absV a : Nat) : Int)) ∧ w = w' := by
  have N1 := Lib.hid (isnan_c a ha)
  have X := bandnot_sign ha
  unfold absV
  obtain ⟨n, hn⟩ : ∃ n, nan a = n := ⟨_, rfl⟩
  rw [hn] at N1 ⊢
  clear hn
  cases n
  · go_enter Try.func15, Try.ntmps15
    go_wp2_with (first
      | (go_at_call 33; (with_reducible refine (N1.out _).mono ?_); rintro e1 w1 ⟨rfl, rfl⟩))
    go_ret
    exact ⟨rfl, rfl⟩
  · go_enter Try.func15, Try.ntmps15
    go_wp2_with (first
      | (go_at_call 33; (with_reducible refine (N1.out _).mono ?_); rintro e1 w1 ⟨rfl, rfl⟩))
    go_ret
    exact ⟨rfl, rfl⟩
theorem retI {k : IntKind} {a b : Int} (h : a = b) : Ending.returned (.int k a) = .returned (.int k b) := by rw [h]
theorem W_mag (a : Nat) : W (mag a) := W_of (by have := mag_lt a; omega)
theorem W_negV {a : Nat} (ha : W a) : W (negV a) := by unfold negV; split; exact W_of (by decide); exact W_sg (mag_lt a)
theorem W_absV {a : Nat} (ha : W a) : W (absV a) := by unfold absV; split; exact W_of (by decide); exact W_mag a
theorem sub_c (a b : Nat) (ha : W a) (hb : W b) (w : World) : Calls Try.prog 24 #[.int .u64 a, .int .u64 b] w fun e w' => e = .returned (.int .u64 ((subV a b : Nat) : Int)) ∧ Below w.heap.size w w' := by
  have N := Lib.hid (neg_c b hb)
  have A := Lib.hid (add_c a (negV b) ha (W_negV hb))
  go_enter Try.func24, Try.ntmps24
  go_wp2_with (first
    | (go_at_call 8; (with_reducible refine (N.out _).mono ?_); rintro e1 w1 ⟨rfl, rfl⟩)
    | (go_at_call 18; (with_reducible refine (A.out _).mono ?_); rintro e1 w1 ⟨rfl, hb1⟩))
  go_ret
  exact ⟨rfl, hb1⟩
theorem mul64_c (x y : Nat) (hx : W x) (hy : W y) (w : World) : Calls Try.prog 46 #[.int .u64 x, .int .u64 y] w fun e w' => e = .returned (.tuple #[.int .u64 ((x * y / 18446744073709551616 : Nat) : Int), .int .u64 ((x * y % 18446744073709551616 : Nat) : Int)]) ∧ w = w' :=
  (Try.bits_Mul64 x y hx hy w).mono fun _ _ ⟨h1, h2⟩ => ⟨h1, h2.symm⟩
theorem mul_fine {w w1 w2 w3 : World} {o1 o2 : Obj} (h1 : Below w.heap.size w w1) (h2 : Below w1.heap.size w1 w2) (h3 : Below ((w2.alloc o1).alloc o2).heap.size ((w2.alloc o1).alloc o2) w3) : Below w.heap.size w w3 := by
  have a := below_then h1 h1.size h2
  have b := (a.alloc a.size o1).alloc (by have := a.size; simp; omega) o2
  exact below_then b b.size h3
set_option maxHeartbeats 1000000 in
theorem mul_n1 (a b : Nat) (p q : Bool) (G1 : Hid (PB 34 a p)) (G2 : Hid (PB 34 b q)) (N1 : Hid (PB 33 a true)) (w : World) : Calls Try.prog 20 #[.int .u64 a, .int .u64 b] w fun e w' => e = .returned (.int .u64 (9221120237041090560)) ∧ Below w.heap.size w w' := by
  go_enter Try.func20, Try.ntmps20
  go_wp2_with (first
    | (go_at_call 34; (with_reducible refine (G1.out _).mono ?_); rintro e1 w1 ⟨rfl, rfl⟩)
    | (go_at_call 34; (with_reducible refine (G2.out _).mono ?_); rintro e1 w1 ⟨rfl, rfl⟩)
    | (go_at_call 33; (with_reducible refine (N1.out _).mono ?_); rintro e1 w1 ⟨rfl, rfl⟩))
  go_ret
  exact ⟨rfl, Below.refl _ _⟩
set_option maxHeartbeats 1000000 in
theorem mul_n2 (a b : Nat) (p q : Bool) (G1 : Hid (PB 34 a p)) (G2 : Hid (PB 34 b q)) (N1 : Hid (PB 33 a false)) (N2 : Hid (PB 33 b true)) (w : World) : Calls Try.prog 20 #[.int .u64 a, .int .u64 b] w fun e w' => e = .returned (.int .u64 (9221120237041090560)) ∧ Below w.heap.size w w' := by
  go_enter Try.func20, Try.ntmps20
  go_wp2_with (first
    | (go_at_call 34; (with_reducible refine (G1.out _).mono ?_); rintro e1 w1 ⟨rfl, rfl⟩)
    | (go_at_call 34; (with_reducible refine (G2.out _).mono ?_); rintro e1 w1 ⟨rfl, rfl⟩)
    | (go_at_call 33; (with_reducible refine (N1.out _).mono ?_); rintro e1 w1 ⟨rfl, rfl⟩)
    | (go_at_call 33; (with_reducible refine (N2.out _).mono ?_); rintro e1 w1 ⟨rfl, rfl⟩))
  go_ret
  exact ⟨rfl, Below.refl _ _⟩
set_option maxHeartbeats 1000000 in
theorem mul_iz (a b : Nat) (p q : Bool) (G1 : Hid (PB 34 a p)) (G2 : Hid (PB 34 b q)) (N1 : Hid (PB 33 a false)) (N2 : Hid (PB 33 b false)) (I1 : Hid (PB 35 a true)) (Z2 : Hid (PB 36 b true)) (w : World) : Calls Try.prog 20 #[.int .u64 a, .int .u64 b] w fun e w' => e = .returned (.int .u64 (9221120237041090560)) ∧ Below w.heap.size w w' := by
  go_enter Try.func20, Try.ntmps20
  go_wp2_with (first
    | (go_at_call 34; (with_reducible refine (G1.out _).mono ?_); rintro e1 w1 ⟨rfl, rfl⟩)
    | (go_at_call 34; (with_reducible refine (G2.out _).mono ?_); rintro e1 w1 ⟨rfl, rfl⟩)
    | (go_at_call 33; (with_reducible refine (N1.out _).mono ?_); rintro e1 w1 ⟨rfl, rfl⟩)
    | (go_at_call 33; (with_reducible refine (N2.out _).mono ?_); rintro e1 w1 ⟨rfl, rfl⟩)
    | (go_at_call 35; (with_reducible refine (I1.out _).mono ?_); rintro e1 w1 ⟨rfl, rfl⟩)
    | (go_at_call 36; (with_reducible refine (Z2.out _).mono ?_); rintro e1 w1 ⟨rfl, rfl⟩))
  go_ret
  exact ⟨rfl, Below.refl _ _⟩
set_option maxHeartbeats 1000000 in
theorem mul_zi (a b : Nat) (p q : Bool) (G1 : Hid (PB 34 a p)) (G2 : Hid (PB 34 b q)) (N1 : Hid (PB 33 a false)) (N2 : Hid (PB 33 b false)) (I1 : Hid (PB 35 a false)) (Z1 : Hid (PB 36 a true)) (I2 : Hid (PB 35 b true)) (w : World) : Calls Try.prog 20 #[.int .u64 a, .int .u64 b] w fun e w' => e = .returned (.int .u64 (9221120237041090560)) ∧ Below w.heap.size w w' := by
  go_enter Try.func20, Try.ntmps20
  go_wp2_with (first
    | (go_at_call 34; (with_reducible refine (G1.out _).mono ?_); rintro e1 w1 ⟨rfl, rfl⟩)
    | (go_at_call 34; (with_reducible refine (G2.out _).mono ?_); rintro e1 w1 ⟨rfl, rfl⟩)
    | (go_at_call 33; (with_reducible refine (N1.out _).mono ?_); rintro e1 w1 ⟨rfl, rfl⟩)
    | (go_at_call 33; (with_reducible refine (N2.out _).mono ?_); rintro e1 w1 ⟨rfl, rfl⟩)
    | (go_at_call 35; (with_reducible refine (I1.out _).mono ?_); rintro e1 w1 ⟨rfl, rfl⟩)
    | (go_at_call 36; (with_reducible refine (Z1.out _).mono ?_); rintro e1 w1 ⟨rfl, rfl⟩)
    | (go_at_call 35; (with_reducible refine (I2.out _).mono ?_); rintro e1 w1 ⟨rfl, rfl⟩))
  go_ret
  exact ⟨rfl, Below.refl _ _⟩
set_option maxHeartbeats 1000000 in
theorem mul_i1 (a b : Nat) (p q : Bool) (R : Int) (SG : Hid (∀ w, Calls Try.prog 37 #[.int .u64 9218868437227405312, .bool (!(p == q))] w fun e w' => e = .returned (.int .u64 R) ∧ w = w')) (G1 : Hid (PB 34 a p)) (G2 : Hid (PB 34 b q)) (N1 : Hid (PB 33 a false)) (N2 : Hid (PB 33 b false)) (I1 : Hid (PB 35 a true)) (Z2 : Hid (PB 36 b false)) (Z1 : Hid (PB 36 a false)) (w : World) : Calls Try.prog 20 #[.int .u64 a, .int .u64 b] w fun e w' => e = .returned (.int .u64 (R)) ∧ Below w.heap.size w w' := by
  go_enter Try.func20, Try.ntmps20
  go_wp2_with (first
    | (go_at_call 34; (with_reducible refine (G1.out _).mono ?_); rintro e1 w1 ⟨rfl, rfl⟩)
    | (go_at_call 34; (with_reducible refine (G2.out _).mono ?_); rintro e1 w1 ⟨rfl, rfl⟩)
    | (go_at_call 33; (with_reducible refine (N1.out _).mono ?_); rintro e1 w1 ⟨rfl, rfl⟩)
    | (go_at_call 33; (with_reducible refine (N2.out _).mono ?_); rintro e1 w1 ⟨rfl, rfl⟩)
    | (go_at_call 35; (with_reducible refine (I1.out _).mono ?_); rintro e1 w1 ⟨rfl, rfl⟩)
    | (go_at_call 36; (with_reducible refine (Z2.out _).mono ?_); rintro e1 w1 ⟨rfl, rfl⟩)
    | (go_at_call 36; (with_reducible refine (Z1.out _).mono ?_); rintro e1 w1 ⟨rfl, rfl⟩)
    | (go_at_call 37; (with_reducible refine (SG.out _).mono ?_); rintro e1 w1 ⟨rfl, rfl⟩))
  go_ret
  exact ⟨rfl, Below.refl _ _⟩
set_option maxHeartbeats 1000000 in
theorem mul_i2 (a b : Nat) (p q : Bool) (R : Int) (SG : Hid (∀ w, Calls Try.prog 37 #[.int .u64 9218868437227405312, .bool (!(p == q))] w fun e w' => e = .returned (.int .u64 R) ∧ w = w')) (G1 : Hid (PB 34 a p)) (G2 : Hid (PB 34 b q)) (N1 : Hid (PB 33 a false)) (N2 : Hid (PB 33 b false)) (I1 : Hid (PB 35 a false)) (Z1 : Hid (PB 36 a false)) (I2 : Hid (PB 35 b true)) (w : World) : Calls Try.prog 20 #[.int .u64 a, .int .u64 b] w fun e w' => e = .returned (.int .u64 (R)) ∧ Below w.heap.size w w' := by
  go_enter Try.func20, Try.ntmps20
  go_wp2_with (first
    | (go_at_call 34; (with_reducible refine (G1.out _).mono ?_); rintro e1 w1 ⟨rfl, rfl⟩)
    | (go_at_call 34; (with_reducible refine (G2.out _).mono ?_); rintro e1 w1 ⟨rfl, rfl⟩)
    | (go_at_call 33; (with_reducible refine (N1.out _).mono ?_); rintro e1 w1 ⟨rfl, rfl⟩)
    | (go_at_call 33; (with_reducible refine (N2.out _).mono ?_); rintro e1 w1 ⟨rfl, rfl⟩)
    | (go_at_call 35; (with_reducible refine (I1.out _).mono ?_); rintro e1 w1 ⟨rfl, rfl⟩)
    | (go_at_call 36; (with_reducible refine (Z1.out _).mono ?_); rintro e1 w1 ⟨rfl, rfl⟩)
    | (go_at_call 35; (with_reducible refine (I2.out _).mono ?_); rintro e1 w1 ⟨rfl, rfl⟩)
    | (go_at_call 37; (with_reducible refine (SG.out _).mono ?_); rintro e1 w1 ⟨rfl, rfl⟩))
  go_ret
  exact ⟨rfl, Below.refl _ _⟩
set_option maxHeartbeats 1000000 in
theorem mul_f0 (a b : Nat) (p q : Bool) (ma ea mb eb h l R : Int) (HSA : Hid (PSplit a p ma ea)) (HSB : Hid (PSplit b q mb eb)) (ba : -1074 ≤ ea ∧ ea ≤ 971) (bb : -1074 ≤ eb ∧ eb ≤ 971) (HM : Hid (∀ w, Calls Try.prog 46 #[.int .u64 ma, .int .u64 mb] w fun e w' => e = .returned (.tuple #[.int .u64 h, .int .u64 l]) ∧ w = w')) (HPK : Hid (PPack (!(p == q)) h l (ea + eb) false R)) (G1 : Hid (PB 34 a p)) (G2 : Hid (PB 34 b q)) (N1 : Hid (PB 33 a false)) (N2 : Hid (PB 33 b false)) (I1 : Hid (PB 35 a false)) (I2 : Hid (PB 35 b false)) (Z1 : Hid (PB 36 a false)) (w : World) : Calls Try.prog 20 #[.int .u64 a, .int .u64 b] w fun e w' => e = .returned (.int .u64 (R)) ∧ Below w.heap.size w w' := by
  go_enter Try.func20, Try.ntmps20
  go_wp2_with (first
    | (go_at_call 34; (with_reducible refine (G1.out _).mono ?_); rintro e1 w1 ⟨rfl, rfl⟩)
    | (go_at_call 34; (with_reducible refine (G2.out _).mono ?_); rintro e1 w1 ⟨rfl, rfl⟩)
    | (go_at_call 33; (with_reducible refine (N1.out _).mono ?_); rintro e1 w1 ⟨rfl, rfl⟩)
    | (go_at_call 33; (with_reducible refine (N2.out _).mono ?_); rintro e1 w1 ⟨rfl, rfl⟩)
    | (go_at_call 35; (with_reducible refine (I1.out _).mono ?_); rintro e1 w1 ⟨rfl, rfl⟩)
    | (go_at_call 35; (with_reducible refine (I2.out _).mono ?_); rintro e1 w1 ⟨rfl, rfl⟩)
    | (go_at_call 36; (with_reducible refine (Z1.out _).mono ?_); rintro e1 w1 ⟨rfl, rfl⟩)
    | (go_at_call 39; (with_reducible refine (HSA.out _).mono ?_); rintro e1 w1 ⟨rfl, hb1⟩)
    | (go_at_call 39; (with_reducible refine (HSB.out _).mono ?_); rintro e2 w2 ⟨rfl, hb2⟩)
    | (go_at_call 46; (with_reducible refine (HM.out _).mono ?_); rintro e3 w3 ⟨rfl, rfl⟩)
    | (go_at_call 41; (with_reducible refine (HPK.out _).mono ?_); rintro e4 w4 ⟨rfl, hb4⟩))
  go_ret
  exact ⟨rfl, mul_fine hb1 hb2 hb4⟩
set_option maxHeartbeats 1000000 in
theorem mul_f1 (a b : Nat) (p q : Bool) (ma ea mb eb h l R : Int) (HSA : Hid (PSplit a p ma ea)) (HSB : Hid (PSplit b q mb eb)) (ba : -1074 ≤ ea ∧ ea ≤ 971) (bb : -1074 ≤ eb ∧ eb ≤ 971) (HM : Hid (∀ w, Calls Try.prog 46 #[.int .u64 ma, .int .u64 mb] w fun e w' => e = .returned (.tuple #[.int .u64 h, .int .u64 l]) ∧ w = w')) (HPK : Hid (PPack (!(p == q)) h l (ea + eb) false R)) (G1 : Hid (PB 34 a p)) (G2 : Hid (PB 34 b q)) (N1 : Hid (PB 33 a false)) (N2 : Hid (PB 33 b false)) (I1 : Hid (PB 35 a false)) (I2 : Hid (PB 35 b false)) (Z1 : Hid (PB 36 a true)) (w : World) : Calls Try.prog 20 #[.int .u64 a, .int .u64 b] w fun e w' => e = .returned (.int .u64 (R)) ∧ Below w.heap.size w w' := by
  go_enter Try.func20, Try.ntmps20
  go_wp2_with (first
    | (go_at_call 34; (with_reducible refine (G1.out _).mono ?_); rintro e1 w1 ⟨rfl, rfl⟩)
    | (go_at_call 34; (with_reducible refine (G2.out _).mono ?_); rintro e1 w1 ⟨rfl, rfl⟩)
    | (go_at_call 33; (with_reducible refine (N1.out _).mono ?_); rintro e1 w1 ⟨rfl, rfl⟩)
    | (go_at_call 33; (with_reducible refine (N2.out _).mono ?_); rintro e1 w1 ⟨rfl, rfl⟩)
    | (go_at_call 35; (with_reducible refine (I1.out _).mono ?_); rintro e1 w1 ⟨rfl, rfl⟩)
    | (go_at_call 35; (with_reducible refine (I2.out _).mono ?_); rintro e1 w1 ⟨rfl, rfl⟩)
    | (go_at_call 36; (with_reducible refine (Z1.out _).mono ?_); rintro e1 w1 ⟨rfl, rfl⟩)
    | (go_at_call 39; (with_reducible refine (HSA.out _).mono ?_); rintro e1 w1 ⟨rfl, hb1⟩)
    | (go_at_call 39; (with_reducible refine (HSB.out _).mono ?_); rintro e2 w2 ⟨rfl, hb2⟩)
    | (go_at_call 46; (with_reducible refine (HM.out _).mono ?_); rintro e3 w3 ⟨rfl, rfl⟩)
    | (go_at_call 41; (with_reducible refine (HPK.out _).mono ?_); rintro e4 w4 ⟨rfl, hb4⟩))
  go_ret
  exact ⟨rfl, mul_fine hb1 hb2 hb4⟩
theorem inf_zer {a : Nat} (h : inf a = true) : zer a = false := by unfold inf at h; unfold zer; simp at h ⊢; omega
theorem two_div (n : Nat) : two (n / 18446744073709551616) (n % 18446744073709551616) = n := by unfold two; omega
theorem mul_c (a b : Nat) (ha : W a) (hb : W b) (w : World) : Calls Try.prog 20 #[.int .u64 a, .int .u64 b] w fun e w' => e = .returned (.int .u64 ((mulV a b : Nat) : Int)) ∧ Below w.heap.size w w' := by
  have N1 := Lib.hid (isnan_c a ha)
  have N2 := Lib.hid (isnan_c b hb)
  have I1 := Lib.hid (isinf_c a ha)
  have I2 := Lib.hid (isinf_c b hb)
  have Z1 := Lib.hid (iszero_c a ha)
  have Z2 := Lib.hid (iszero_c b hb)
  have G1 := Lib.hid (isneg_c a ha)
  have G2 := Lib.hid (isneg_c b hb)
  have SG := Lib.hid (sign_c 9218868437227405312 (ng a != ng b) (by decide))
  by_cases n1 : nan a = true
  · rw [show mulV a b = NaN by simp [mulV, n1]]; rw [n1] at N1; exact mul_n1 a b _ _ G1 G2 N1 w
  have n1 := Bool.eq_false_iff.2 n1; rw [n1] at N1
  by_cases n2 : nan b = true
  · rw [show mulV a b = NaN by simp [mulV, n1, n2]]; rw [n2] at N2; exact mul_n2 a b _ _ G1 G2 N1 N2 w
  have n2 := Bool.eq_false_iff.2 n2; rw [n2] at N2
  by_cases i1 : inf a = true
  · have z1 := inf_zer i1
    rw [i1] at I1; rw [z1] at Z1
    by_cases z2 : zer b = true
    · rw [show mulV a b = NaN by simp [mulV, n1, n2, i1, z2]]; rw [z2] at Z2; exact mul_iz a b _ _ G1 G2 N1 N2 I1 Z2 w
    · have z2 := Bool.eq_false_iff.2 z2; rw [z2] at Z2
      rw [show mulV a b = sg (ng a != ng b) Inf by simp [mulV, n1, n2, i1, z1, z2]]
      exact mul_i1 a b _ _ _ SG G1 G2 N1 N2 I1 Z2 Z1 w
  have i1 := Bool.eq_false_iff.2 i1; rw [i1] at I1
  by_cases i2 : inf b = true
  · rw [i2] at I2
    by_cases z1 : zer a = true
    · rw [show mulV a b = NaN by simp [mulV, n1, n2, i1, i2, z1]]; rw [z1] at Z1; exact mul_zi a b _ _ G1 G2 N1 N2 I1 Z1 I2 w
    · have z1 := Bool.eq_false_iff.2 z1; rw [z1] at Z1
      rw [show mulV a b = sg (ng a != ng b) Inf by simp [mulV, n1, n2, i1, i2, z1]]
      exact mul_i2 a b _ _ _ SG G1 G2 N1 N2 I1 Z1 I2 w
  have i2 := Bool.eq_false_iff.2 i2; rw [i2] at I2
  have ba : -1074 ≤ se a ∧ se a ≤ 971 := ⟨se_ge a, se_le n1 i1⟩
  have bb : -1074 ≤ se b ∧ se b ≤ 971 := ⟨se_ge b, se_le n2 i2⟩
  have HSA := Lib.hid (split_c a ha)
  have HSB := Lib.hid (split_c b hb)
  have la := sm_lt a
  have lb := sm_lt b
  have HM := Lib.hid (mul64_c (sm a) (sm b) (W_of (by omega)) (W_of (by omega)))
  have mlt : sm a * sm b < 9007199254740992 * 9007199254740992 := by
    calc sm a * sm b ≤ sm a * 9007199254740992 := Nat.mul_le_mul_left _ (Nat.le_of_lt lb)
      _ < 9007199254740992 * 9007199254740992 := Nat.mul_lt_mul_of_pos_right la (by decide)
  have HPK := Lib.hid (pack_c (ng a != ng b) (sm a * sm b / 18446744073709551616) (sm a * sm b % 18446744073709551616) (se a + se b) false (W_of (by omega)) (W_of (Nat.mod_lt _ (by decide))))
  rw [two_div] at HPK
  rw [show mulV a b = mulF a b by simp [mulV, n1, n2, i1, i2]]
  obtain ⟨z, hz⟩ : ∃ z, zer a = z := ⟨_, rfl⟩
  rw [hz] at Z1
  cases z
  · exact mul_f0 a b _ _ _ _ _ _ _ _ _ HSA HSB ba bb HM HPK G1 G2 N1 N2 I1 I2 Z1 w
  · exact mul_f1 a b _ _ _ _ _ _ _ _ _ HSA HSB ba bb HM HPK G1 G2 N1 N2 I1 I2 Z1 w
/-- A number with all its digits. -/
theorem full_c (n : Bool) (m i : Nat) (e : Int) (h0 : m ≠ 0) (hi : bl m + i = 53) (he : -1074 ≤ e ∧ e ≤ 971) (w : World) : Calls Try.prog 38 #[num n m e] w fun e' w' => e' = .returned (num n (m * 2 ^ i) (e - i)) ∧ Below w.heap.size w w' := by
  have b1 := bl_pos h0
  have lt := bl_lt m
  have hm : m < 18446744073709551616 := Nat.lt_of_lt_of_le lt (by
    calc 2 ^ bl m ≤ 2 ^ 64 := Nat.pow_le_pow_right (by decide) (by omega)
      _ = 18446744073709551616 := by decide)
  have hmi : m * 2 ^ i < 9007199254740992 := by
    calc m * 2 ^ i < 2 ^ bl m * 2 ^ i := Nat.mul_lt_mul_of_pos_right lt (pow_pos i)
      _ = 9007199254740992 := by rw [← Nat.pow_add, hi]
  have L : ∀ w, Calls Try.prog 58 #[.int .u64 (m : Int)] w fun e w' => e = .returned (.int .i64 ((i : Int) + 11)) ∧ w = w' := fun w =>
    (Try.bits_LeadingZeros64 (m : Int) w (by omega) (by omega)).mono fun _ _ ⟨h1, h2⟩ => ⟨by rw [h1, Int.toNat_natCast, bitLen_bl hm]; exact retI (by omega), h2.symm⟩
  have HL := Lib.hid L
  have w1 : IntKind.u64.wrap ((m : Int) * 2 ^ i) = ((m * 2 ^ i : Nat) : Int) := by
    have e1 : ((m : Int) * 2 ^ i) = ((m * 2 ^ i : Nat) : Int) := by rw [Int.natCast_mul, Int.natCast_pow]; rfl
    rw [IntKind.wrap_u64, e1]; omega
  have i1 : i ≤ 53 := by omega
  have W1 := Lib.hid w1
  clear L hm lt w1 hi
  unfold num
  go_enter Try.func38, Try.ntmps38
  go_wp2_with (first
    | (go_at_call 58; (with_reducible refine (HL.out _).mono ?_); rintro e1 w1 ⟨rfl, rfl⟩))
  rw [W1.out]
  exact bodyPost_ret (v := num n (m * 2 ^ i) (e - i)) (by simp [num, results, Try.results38, go_sem]) rfl ⟨rfl, ((Below.refl _ _).alloc (Nat.le_refl _) _).alloc (by simp) _⟩
end Go.Proofs.Ytkifdppppihjcaa

namespace Go.Proofs.Ytkifdppppihjcaa
set_option linter.unusedVariables false
set_option linter.unusedSimpArgs false
open Go.RowKit Go.Shelf SF
abbrev PFull (n : Bool) (m e m' e' : Int) : Prop := ∀ w, Calls Try.prog 38 #[.agg #[.bool n, .int .u64 m, .int .i64 e]] w fun x w' => x = .returned (.agg #[.bool n, .int .u64 m', .int .i64 e']) ∧ Below w.heap.size w w'
abbrev PSign (m : Int) (n : Bool) (R : Int) : Prop := ∀ w, Calls Try.prog 37 #[.int .u64 m, .bool n] w fun e w' => e = .returned (.int .u64 R) ∧ w = w'
theorem div_fine {w w1 w2 w3 w4 w5 w6 : World} {o1 o2 : Obj} (h1 : Below w.heap.size w w1) (h2 : Below w1.heap.size w1 w2) (h3 : Below w2.heap.size w2 w3) (h4 : Below w3.heap.size w3 w4) (h5 : Below ((w4.alloc o1).alloc o2).heap.size ((w4.alloc o1).alloc o2) w5) (h6 : Below w5.heap.size w5 w6) : Below w.heap.size w w6 := by
  have a := below_then h1 h1.size h2
  have a := below_then a a.size h3
  have a := below_then a a.size h4
  have b := (a.alloc a.size o1).alloc (by have := a.size; simp; omega) o2
  have b := below_then b b.size h5
  exact below_then b b.size h6
set_option maxHeartbeats 1000000 in
theorem div_n1 (a b : Nat) (p q : Bool) (G1 : Hid (PB 34 a p)) (G2 : Hid (PB 34 b q)) (N1 : Hid (PB 33 a true)) (w : World) : Calls Try.prog 17 #[.int .u64 a, .int .u64 b] w fun e w' => e = .returned (.int .u64 (9221120237041090560)) ∧ Below w.heap.size w w' := by
  go_enter Try.func17, Try.ntmps17
  go_wp2_with (first
    | (go_at_call 34; (with_reducible refine (G1.out _).mono ?_); rintro e1 w1 ⟨rfl, rfl⟩)
    | (go_at_call 34; (with_reducible refine (G2.out _).mono ?_); rintro e1 w1 ⟨rfl, rfl⟩)
    | (go_at_call 33; (with_reducible refine (N1.out _).mono ?_); rintro e1 w1 ⟨rfl, rfl⟩))
  go_ret
  exact ⟨rfl, Below.refl _ _⟩
set_option maxHeartbeats 1000000 in
theorem div_n2 (a b : Nat) (p q : Bool) (G1 : Hid (PB 34 a p)) (G2 : Hid (PB 34 b q)) (N1 : Hid (PB 33 a false)) (N2 : Hid (PB 33 b true)) (w : World) : Calls Try.prog 17 #[.int .u64 a, .int .u64 b] w fun e w' => e = .returned (.int .u64 (9221120237041090560)) ∧ Below w.heap.size w w' := by
  go_enter Try.func17, Try.ntmps17
  go_wp2_with (first
    | (go_at_call 34; (with_reducible refine (G1.out _).mono ?_); rintro e1 w1 ⟨rfl, rfl⟩)
    | (go_at_call 34; (with_reducible refine (G2.out _).mono ?_); rintro e1 w1 ⟨rfl, rfl⟩)
    | (go_at_call 33; (with_reducible refine (N1.out _).mono ?_); rintro e1 w1 ⟨rfl, rfl⟩)
    | (go_at_call 33; (with_reducible refine (N2.out _).mono ?_); rintro e1 w1 ⟨rfl, rfl⟩))
  go_ret
  exact ⟨rfl, Below.refl _ _⟩
set_option maxHeartbeats 1000000 in
theorem div_ii (a b : Nat) (p q : Bool) (G1 : Hid (PB 34 a p)) (G2 : Hid (PB 34 b q)) (N1 : Hid (PB 33 a false)) (N2 : Hid (PB 33 b false)) (I1 : Hid (PB 35 a true)) (I2 : Hid (PB 35 b true)) (w : World) : Calls Try.prog 17 #[.int .u64 a, .int .u64 b] w fun e w' => e = .returned (.int .u64 (9221120237041090560)) ∧ Below w.heap.size w w' := by
  go_enter Try.func17, Try.ntmps17
  go_wp2_with (first
    | (go_at_call 34; (with_reducible refine (G1.out _).mono ?_); rintro e1 w1 ⟨rfl, rfl⟩)
    | (go_at_call 34; (with_reducible refine (G2.out _).mono ?_); rintro e1 w1 ⟨rfl, rfl⟩)
    | (go_at_call 33; (with_reducible refine (N1.out _).mono ?_); rintro e1 w1 ⟨rfl, rfl⟩)
    | (go_at_call 33; (with_reducible refine (N2.out _).mono ?_); rintro e1 w1 ⟨rfl, rfl⟩)
    | (go_at_call 35; (with_reducible refine (I1.out _).mono ?_); rintro e1 w1 ⟨rfl, rfl⟩)
    | (go_at_call 35; (with_reducible refine (I2.out _).mono ?_); rintro e1 w1 ⟨rfl, rfl⟩))
  go_ret
  exact ⟨rfl, Below.refl _ _⟩
set_option maxHeartbeats 1000000 in
theorem div_zz (a b : Nat) (p q : Bool) (G1 : Hid (PB 34 a p)) (G2 : Hid (PB 34 b q)) (N1 : Hid (PB 33 a false)) (N2 : Hid (PB 33 b false)) (I1 : Hid (PB 35 a false)) (Z1 : Hid (PB 36 a true)) (Z2 : Hid (PB 36 b true)) (w : World) : Calls Try.prog 17 #[.int .u64 a, .int .u64 b] w fun e w' => e = .returned (.int .u64 (9221120237041090560)) ∧ Below w.heap.size w w' := by
  go_enter Try.func17, Try.ntmps17
  go_wp2_with (first
    | (go_at_call 34; (with_reducible refine (G1.out _).mono ?_); rintro e1 w1 ⟨rfl, rfl⟩)
    | (go_at_call 34; (with_reducible refine (G2.out _).mono ?_); rintro e1 w1 ⟨rfl, rfl⟩)
    | (go_at_call 33; (with_reducible refine (N1.out _).mono ?_); rintro e1 w1 ⟨rfl, rfl⟩)
    | (go_at_call 33; (with_reducible refine (N2.out _).mono ?_); rintro e1 w1 ⟨rfl, rfl⟩)
    | (go_at_call 35; (with_reducible refine (I1.out _).mono ?_); rintro e1 w1 ⟨rfl, rfl⟩)
    | (go_at_call 36; (with_reducible refine (Z1.out _).mono ?_); rintro e1 w1 ⟨rfl, rfl⟩)
    | (go_at_call 36; (with_reducible refine (Z2.out _).mono ?_); rintro e1 w1 ⟨rfl, rfl⟩))
  go_ret
  exact ⟨rfl, Below.refl _ _⟩
set_option maxHeartbeats 1000000 in
theorem div_i1 (a b : Nat) (p q : Bool) (R : Int) (SG : Hid (PSign 9218868437227405312 (!(p == q)) R)) (G1 : Hid (PB 34 a p)) (G2 : Hid (PB 34 b q)) (N1 : Hid (PB 33 a false)) (N2 : Hid (PB 33 b false)) (I1 : Hid (PB 35 a true)) (I2 : Hid (PB 35 b false)) (Z1 : Hid (PB 36 a false)) (w : World) : Calls Try.prog 17 #[.int .u64 a, .int .u64 b] w fun e w' => e = .returned (.int .u64 (R)) ∧ Below w.heap.size w w' := by
  go_enter Try.func17, Try.ntmps17
  go_wp2_with (first
    | (go_at_call 34; (with_reducible refine (G1.out _).mono ?_); rintro e1 w1 ⟨rfl, rfl⟩)
    | (go_at_call 34; (with_reducible refine (G2.out _).mono ?_); rintro e1 w1 ⟨rfl, rfl⟩)
    | (go_at_call 33; (with_reducible refine (N1.out _).mono ?_); rintro e1 w1 ⟨rfl, rfl⟩)
    | (go_at_call 33; (with_reducible refine (N2.out _).mono ?_); rintro e1 w1 ⟨rfl, rfl⟩)
    | (go_at_call 35; (with_reducible refine (I1.out _).mono ?_); rintro e1 w1 ⟨rfl, rfl⟩)
    | (go_at_call 35; (with_reducible refine (I2.out _).mono ?_); rintro e1 w1 ⟨rfl, rfl⟩)
    | (go_at_call 36; (with_reducible refine (Z1.out _).mono ?_); rintro e1 w1 ⟨rfl, rfl⟩)
    | (go_at_call 37; (with_reducible refine (SG.out _).mono ?_); rintro e1 w1 ⟨rfl, rfl⟩))
  go_ret
  exact ⟨rfl, Below.refl _ _⟩
set_option maxHeartbeats 1000000 in
theorem div_z2 (a b : Nat) (p q : Bool) (R : Int) (SG : Hid (PSign 9218868437227405312 (!(p == q)) R)) (G1 : Hid (PB 34 a p)) (G2 : Hid (PB 34 b q)) (N1 : Hid (PB 33 a false)) (N2 : Hid (PB 33 b false)) (I1 : Hid (PB 35 a false)) (Z1 : Hid (PB 36 a false)) (Z2 : Hid (PB 36 b true)) (w : World) : Calls Try.prog 17 #[.int .u64 a, .int .u64 b] w fun e w' => e = .returned (.int .u64 (R)) ∧ Below w.heap.size w w' := by
  go_enter Try.func17, Try.ntmps17
  go_wp2_with (first
    | (go_at_call 34; (with_reducible refine (G1.out _).mono ?_); rintro e1 w1 ⟨rfl, rfl⟩)
    | (go_at_call 34; (with_reducible refine (G2.out _).mono ?_); rintro e1 w1 ⟨rfl, rfl⟩)
    | (go_at_call 33; (with_reducible refine (N1.out _).mono ?_); rintro e1 w1 ⟨rfl, rfl⟩)
    | (go_at_call 33; (with_reducible refine (N2.out _).mono ?_); rintro e1 w1 ⟨rfl, rfl⟩)
    | (go_at_call 35; (with_reducible refine (I1.out _).mono ?_); rintro e1 w1 ⟨rfl, rfl⟩)
    | (go_at_call 36; (with_reducible refine (Z1.out _).mono ?_); rintro e1 w1 ⟨rfl, rfl⟩)
    | (go_at_call 36; (with_reducible refine (Z2.out _).mono ?_); rintro e1 w1 ⟨rfl, rfl⟩)
    | (go_at_call 37; (with_reducible refine (SG.out _).mono ?_); rintro e1 w1 ⟨rfl, rfl⟩))
  go_ret
  exact ⟨rfl, Below.refl _ _⟩
set_option maxHeartbeats 1000000 in
theorem div_z1 (a b : Nat) (p q : Bool) (R : Int) (SG : Hid (PSign 0 (!(p == q)) R)) (G1 : Hid (PB 34 a p)) (G2 : Hid (PB 34 b q)) (N1 : Hid (PB 33 a false)) (N2 : Hid (PB 33 b false)) (I1 : Hid (PB 35 a false)) (Z1 : Hid (PB 36 a true)) (Z2 : Hid (PB 36 b false)) (I2 : Hid (PB 35 b false)) (w : World) : Calls Try.prog 17 #[.int .u64 a, .int .u64 b] w fun e w' => e = .returned (.int .u64 (R)) ∧ Below w.heap.size w w' := by
  go_enter Try.func17, Try.ntmps17
  go_wp2_with (first
    | (go_at_call 34; (with_reducible refine (G1.out _).mono ?_); rintro e1 w1 ⟨rfl, rfl⟩)
    | (go_at_call 34; (with_reducible refine (G2.out _).mono ?_); rintro e1 w1 ⟨rfl, rfl⟩)
    | (go_at_call 33; (with_reducible refine (N1.out _).mono ?_); rintro e1 w1 ⟨rfl, rfl⟩)
    | (go_at_call 33; (with_reducible refine (N2.out _).mono ?_); rintro e1 w1 ⟨rfl, rfl⟩)
    | (go_at_call 35; (with_reducible refine (I1.out _).mono ?_); rintro e1 w1 ⟨rfl, rfl⟩)
    | (go_at_call 36; (with_reducible refine (Z1.out _).mono ?_); rintro e1 w1 ⟨rfl, rfl⟩)
    | (go_at_call 36; (with_reducible refine (Z2.out _).mono ?_); rintro e1 w1 ⟨rfl, rfl⟩)
    | (go_at_call 35; (with_reducible refine (I2.out _).mono ?_); rintro e1 w1 ⟨rfl, rfl⟩)
    | (go_at_call 37; (with_reducible refine (SG.out _).mono ?_); rintro e1 w1 ⟨rfl, rfl⟩))
  go_ret
  exact ⟨rfl, Below.refl _ _⟩
set_option maxHeartbeats 1000000 in
theorem div_z1i2 (a b : Nat) (p q : Bool) (R : Int) (SG : Hid (PSign 0 (!(p == q)) R)) (G1 : Hid (PB 34 a p)) (G2 : Hid (PB 34 b q)) (N1 : Hid (PB 33 a false)) (N2 : Hid (PB 33 b false)) (I1 : Hid (PB 35 a false)) (Z1 : Hid (PB 36 a true)) (Z2 : Hid (PB 36 b false)) (I2 : Hid (PB 35 b true)) (w : World) : Calls Try.prog 17 #[.int .u64 a, .int .u64 b] w fun e w' => e = .returned (.int .u64 (R)) ∧ Below w.heap.size w w' := by
  go_enter Try.func17, Try.ntmps17
  go_wp2_with (first
    | (go_at_call 34; (with_reducible refine (G1.out _).mono ?_); rintro e1 w1 ⟨rfl, rfl⟩)
    | (go_at_call 34; (with_reducible refine (G2.out _).mono ?_); rintro e1 w1 ⟨rfl, rfl⟩)
    | (go_at_call 33; (with_reducible refine (N1.out _).mono ?_); rintro e1 w1 ⟨rfl, rfl⟩)
    | (go_at_call 33; (with_reducible refine (N2.out _).mono ?_); rintro e1 w1 ⟨rfl, rfl⟩)
    | (go_at_call 35; (with_reducible refine (I1.out _).mono ?_); rintro e1 w1 ⟨rfl, rfl⟩)
    | (go_at_call 36; (with_reducible refine (Z1.out _).mono ?_); rintro e1 w1 ⟨rfl, rfl⟩)
    | (go_at_call 36; (with_reducible refine (Z2.out _).mono ?_); rintro e1 w1 ⟨rfl, rfl⟩)
    | (go_at_call 35; (with_reducible refine (I2.out _).mono ?_); rintro e1 w1 ⟨rfl, rfl⟩)
    | (go_at_call 37; (with_reducible refine (SG.out _).mono ?_); rintro e1 w1 ⟨rfl, rfl⟩))
  go_ret
  exact ⟨rfl, Below.refl _ _⟩
set_option maxHeartbeats 1000000 in
theorem div_i2 (a b : Nat) (p q : Bool) (R : Int) (SG : Hid (PSign 0 (!(p == q)) R)) (G1 : Hid (PB 34 a p)) (G2 : Hid (PB 34 b q)) (N1 : Hid (PB 33 a false)) (N2 : Hid (PB 33 b false)) (I1 : Hid (PB 35 a false)) (Z1 : Hid (PB 36 a false)) (Z2 : Hid (PB 36 b false)) (I2 : Hid (PB 35 b true)) (w : World) : Calls Try.prog 17 #[.int .u64 a, .int .u64 b] w fun e w' => e = .returned (.int .u64 (R)) ∧ Below w.heap.size w w' := by
  go_enter Try.func17, Try.ntmps17
  go_wp2_with (first
    | (go_at_call 34; (with_reducible refine (G1.out _).mono ?_); rintro e1 w1 ⟨rfl, rfl⟩)
    | (go_at_call 34; (with_reducible refine (G2.out _).mono ?_); rintro e1 w1 ⟨rfl, rfl⟩)
    | (go_at_call 33; (with_reducible refine (N1.out _).mono ?_); rintro e1 w1 ⟨rfl, rfl⟩)
    | (go_at_call 33; (with_reducible refine (N2.out _).mono ?_); rintro e1 w1 ⟨rfl, rfl⟩)
    | (go_at_call 35; (with_reducible refine (I1.out _).mono ?_); rintro e1 w1 ⟨rfl, rfl⟩)
    | (go_at_call 36; (with_reducible refine (Z1.out _).mono ?_); rintro e1 w1 ⟨rfl, rfl⟩)
    | (go_at_call 36; (with_reducible refine (Z2.out _).mono ?_); rintro e1 w1 ⟨rfl, rfl⟩)
    | (go_at_call 35; (with_reducible refine (I2.out _).mono ?_); rintro e1 w1 ⟨rfl, rfl⟩)
    | (go_at_call 37; (with_reducible refine (SG.out _).mono ?_); rintro e1 w1 ⟨rfl, rfl⟩))
  go_ret
  exact ⟨rfl, Below.refl _ _⟩
set_option maxHeartbeats 1000000 in
theorem div_fin (a b : Nat) (p q : Bool) (ma0 ea0 mb0 eb0 ma ea mb eb qq rr R : Int) (HSA : Hid (PSplit a p ma0 ea0)) (HSB : Hid (PSplit b q mb0 eb0)) (HFA : Hid (PFull p ma0 ea0 ma ea)) (HFB : Hid (PFull q mb0 eb0 mb eb)) (ba : -2000 ≤ ea ∧ ea ≤ 2000) (bb : -2000 ≤ eb ∧ eb ≤ 2000) (ma0' : 0 ≤ ma ∧ ma < 18446744073709551616) (HD : Hid (∀ w, Calls Try.prog 40 #[.int .u64 (ma / 2), .int .u64 (IntKind.u64.wrap (ma * 9223372036854775808)), .int .u64 mb] w fun e w' => e = .returned (.tuple #[.int .u64 qq, .int .u64 rr]) ∧ Below w.heap.size w w')) (z : Bool) (hz : (rr != 0) = z) (HPK : Hid (PPack (!(p == q)) 0 qq (ea - eb - 63) z R)) (G1 : Hid (PB 34 a p)) (G2 : Hid (PB 34 b q)) (N1 : Hid (PB 33 a false)) (N2 : Hid (PB 33 b false)) (I1 : Hid (PB 35 a false)) (Z1 : Hid (PB 36 a false)) (Z2 : Hid (PB 36 b false)) (I2 : Hid (PB 35 b false)) (w : World) : Calls Try.prog 17 #[.int .u64 a, .int .u64 b] w fun e w' => e = .returned (.int .u64 (R)) ∧ Below w.heap.size w w' := by
  go_enter Try.func17, Try.ntmps17
  go_wp2_with (first
    | (go_at_call 34; (with_reducible refine (G1.out _).mono ?_); rintro e1 w1 ⟨rfl, rfl⟩)
    | (go_at_call 34; (with_reducible refine (G2.out _).mono ?_); rintro e1 w1 ⟨rfl, rfl⟩)
    | (go_at_call 33; (with_reducible refine (N1.out _).mono ?_); rintro e1 w1 ⟨rfl, rfl⟩)
    | (go_at_call 33; (with_reducible refine (N2.out _).mono ?_); rintro e1 w1 ⟨rfl, rfl⟩)
    | (go_at_call 35; (with_reducible refine (I1.out _).mono ?_); rintro e1 w1 ⟨rfl, rfl⟩)
    | (go_at_call 36; (with_reducible refine (Z1.out _).mono ?_); rintro e1 w1 ⟨rfl, rfl⟩)
    | (go_at_call 36; (with_reducible refine (Z2.out _).mono ?_); rintro e1 w1 ⟨rfl, rfl⟩)
    | (go_at_call 35; (with_reducible refine (I2.out _).mono ?_); rintro e1 w1 ⟨rfl, rfl⟩)
    | (go_at_call 39; (with_reducible refine (HSA.out _).mono ?_); rintro e1 w1 ⟨rfl, hb1⟩)
    | (go_at_call 38; (with_reducible refine (HFA.out _).mono ?_); rintro e2 w2 ⟨rfl, hb2⟩)
    | (go_at_call 39; (with_reducible refine (HSB.out _).mono ?_); rintro e3 w3 ⟨rfl, hb3⟩)
    | (go_at_call 38; (with_reducible refine (HFB.out _).mono ?_); rintro e4 w4 ⟨rfl, hb4⟩)
    | (go_at_call 40; (with_reducible refine (HD.out _).mono ?_); rintro e5 w5 ⟨rfl, hb5⟩; obtain ⟨⟨k0, k1, k2⟩, ⟨k3, k4, k5⟩⟩ := two_cells hb5)
    | (go_at_call 41; (with_reducible refine (HPK.out _).mono ?_); rintro e6 w6 ⟨rfl, hb6⟩))
  go_ret
  exact ⟨rfl, div_fine hb1 hb2 hb3 hb4 hb5 hb6⟩
theorem two_lo (n : Nat) : two 0 n = n := by unfold two; omega
theorem div64_c (hi lo y : Nat) (h1 : hi < y) (hl : W lo) (hy : W y) (w : World) : Calls Try.prog 40 #[.int .u64 hi, .int .u64 lo, .int .u64 y] w fun e w' => e = .returned (.tuple #[.int .u64 ((two hi lo / y : Nat) : Int), .int .u64 ((two hi lo % y : Nat) : Int)]) ∧ Below w.heap.size w w' := by
  unfold W at hl hy
  refine (DV.div64 hi lo y w (by omega) (by omega) ⟨by omega, by omega⟩ ⟨by omega, by omega⟩).mono ?_
  rintro e w' ⟨he, n, hn⟩
  subst hn
  refine ⟨?_, below_drewN (Below.refl _ _) _⟩
  rw [he]
  exact DV.ret2 (by unfold two; rw [Int.natCast_ediv, Int.natCast_add, Int.natCast_mul]; rfl) (by unfold two; rw [Int.natCast_emod, Int.natCast_add, Int.natCast_mul]; rfl)
theorem div_c (a b : Nat) (ha : W a) (hb : W b) (w : World) : Calls Try.prog 17 #[.int .u64 a, .int .u64 b] w fun e w' => e = .returned (.int .u64 ((divV a b : Nat) : Int)) ∧ Below w.heap.size w w' := by
  have N1 := Lib.hid (isnan_c a ha)
  have N2 := Lib.hid (isnan_c b hb)
  have I1 := Lib.hid (isinf_c a ha)
  have I2 := Lib.hid (isinf_c b hb)
  have Z1 := Lib.hid (iszero_c a ha)
  have Z2 := Lib.hid (iszero_c b hb)
  have G1 := Lib.hid (isneg_c a ha)
  have G2 := Lib.hid (isneg_c b hb)
  have SG := Lib.hid (sign_c 9218868437227405312 (ng a != ng b) (by decide))
  have S0 := Lib.hid (sign_c 0 (ng a != ng b) (by decide))
  by_cases n1 : nan a = true
  · rw [show divV a b = NaN by simp [divV, n1]]; rw [n1] at N1; exact div_n1 a b _ _ G1 G2 N1 w
  have n1 := Bool.eq_false_iff.2 n1; rw [n1] at N1
  by_cases n2 : nan b = true
  · rw [show divV a b = NaN by simp [divV, n1, n2]]; rw [n2] at N2; exact div_n2 a b _ _ G1 G2 N1 N2 w
  have n2 := Bool.eq_false_iff.2 n2; rw [n2] at N2
  by_cases i1 : inf a = true
  · have z1 := inf_zer i1
    rw [i1] at I1; rw [z1] at Z1
    by_cases i2 : inf b = true
    · rw [show divV a b = NaN by simp [divV, n1, n2, i1, i2]]; rw [i2] at I2; exact div_ii a b _ _ G1 G2 N1 N2 I1 I2 w
    · have i2 := Bool.eq_false_iff.2 i2; rw [i2] at I2
      rw [show divV a b = sg (ng a != ng b) Inf by simp [divV, n1, n2, i1, i2, z1]]
      exact div_i1 a b _ _ _ SG G1 G2 N1 N2 I1 I2 Z1 w
  have i1 := Bool.eq_false_iff.2 i1; rw [i1] at I1
  by_cases z2 : zer b = true
  · rw [z2] at Z2
    by_cases z1 : zer a = true
    · rw [show divV a b = NaN by simp [divV, n1, n2, i1, z1, z2]]; rw [z1] at Z1; exact div_zz a b _ _ G1 G2 N1 N2 I1 Z1 Z2 w
    · have z1 := Bool.eq_false_iff.2 z1; rw [z1] at Z1
      rw [show divV a b = sg (ng a != ng b) Inf by simp [divV, n1, n2, i1, z1, z2]]
      exact div_z2 a b _ _ _ SG G1 G2 N1 N2 I1 Z1 Z2 w
  have z2 := Bool.eq_false_iff.2 z2; rw [z2] at Z2
  by_cases i2 : inf b = true
  · rw [i2] at I2
    rw [show divV a b = sg (ng a != ng b) 0 by simp [divV, n1, n2, i1, i2, z2]]
    by_cases z1 : zer a = true
    · rw [z1] at Z1; exact div_z1i2 a b _ _ _ S0 G1 G2 N1 N2 I1 Z1 Z2 I2 w
    · have z1 := Bool.eq_false_iff.2 z1; rw [z1] at Z1
      exact div_i2 a b _ _ _ S0 G1 G2 N1 N2 I1 Z1 Z2 I2 w
  have i2 := Bool.eq_false_iff.2 i2; rw [i2] at I2
  by_cases z1 : zer a = true
  · rw [show divV a b = sg (ng a != ng b) 0 by simp [divV, n1, n2, i1, i2, z1, z2]]
    rw [z1] at Z1; exact div_z1 a b _ _ _ S0 G1 G2 N1 N2 I1 Z1 Z2 I2 w
  have z1 := Bool.eq_false_iff.2 z1; rw [z1] at Z1
  rw [show divV a b = divF a b by simp [divV, n1, n2, i1, i2, z1, z2]]
  have ba : -1074 ≤ se a ∧ se a ≤ 971 := ⟨se_ge a, se_le n1 i1⟩
  have bb : -1074 ≤ se b ∧ se b ≤ 971 := ⟨se_ge b, se_le n2 i2⟩
  have HSA := Lib.hid (split_c a ha)
  have HSB := Lib.hid (split_c b hb)
  have la := sm_lt a
  have lb := sm_lt b
  have h0 : sm a ≠ 0 := fun c => by rw [sm_zero.1 c] at z1; cases z1
  have h1 : sm b ≠ 0 := fun c => by rw [sm_zero.1 c] at z2; cases z2
  have e53 : (2 : Nat) ^ 53 = 9007199254740992 := by decide
  have ka : bl (sm a) ≤ 53 := bl_le_of_lt (by rw [e53]; exact la)
  have kb : bl (sm b) ≤ 53 := bl_le_of_lt (by rw [e53]; exact lb)
  obtain ⟨i, hi⟩ : ∃ i, bl (sm a) + i = 53 := ⟨53 - bl (sm a), by omega⟩
  obtain ⟨j, hj⟩ : ∃ j, bl (sm b) + j = 53 := ⟨53 - bl (sm b), by omega⟩
  have HFA := Lib.hid (full_c (ng a) (sm a) i (se a) h0 hi ba)
  have HFB := Lib.hid (full_c (ng b) (sm b) j (se b) h1 hj bb)
  obtain ⟨Q1, Q2⟩ := quo_prog (x := sm a) (y := sm b) (se a - se b) i j hi hj h0 h1
  have e64 : (2 : Nat) ^ 64 = 18446744073709551616 := by decide
  have e63 : (2 : Nat) ^ 63 = 9223372036854775808 := by decide
  rw [e64] at Q2
  rw [e63] at Q1 Q2
  have full_lt : ∀ {m k : Nat}, bl m + k = 53 → m * 2 ^ k < 9007199254740992 := fun {m k} h => by
    calc m * 2 ^ k < 2 ^ bl m * 2 ^ k := Nat.mul_lt_mul_of_pos_right (bl_lt m) (pow_pos k)
      _ = 9007199254740992 := by rw [← Nat.pow_add, h]
  have full_ge : ∀ {m k : Nat}, m ≠ 0 → bl m + k = 53 → 4503599627370496 ≤ m * 2 ^ k := fun {m k} h0 h => by
    calc 4503599627370496 = 2 ^ (bl m - 1) * 2 ^ k := by rw [← Nat.pow_add, show bl m - 1 + k = 52 by have := bl_pos h0; omega]
      _ ≤ m * 2 ^ k := Nat.mul_le_mul_right _ (bl_le h0)
  have x1 := full_lt hi
  have y1 := full_lt hj
  have y0 := full_ge h1 hj
  obtain ⟨x, hx⟩ : ∃ x, sm a * 2 ^ i = x := ⟨_, rfl⟩
  obtain ⟨y, hy⟩ : ∃ y, sm b * 2 ^ j = y := ⟨_, rfl⟩
  rw [hx] at Q1 Q2 x1
  rw [hy] at Q1 Q2 y1 y0
  rw [hx] at HFA
  rw [hy] at HFB
  have HD0 := div64_c (x / 2) (x * 9223372036854775808 % 18446744073709551616) y (by omega) (W_of (Nat.mod_lt _ (by decide))) (W_of (by omega))
  have tt : two (x / 2) (x * 9223372036854775808 % 18446744073709551616) = x * 9223372036854775808 := by unfold two; omega
  rw [tt] at HD0
  have HPK := Lib.hid (pack_c (ng a != ng b) 0 (x * 9223372036854775808 / y) (se a - i - (se b - j) - 63) (decide (x * 9223372036854775808 % y ≠ 0)) (W_of (by decide)) (W_of Q2))
  rw [two_lo, show se a - i - (se b - j) - 63 = se a - se b - i + j - 63 by omega, Q1] at HPK
  have hw : IntKind.u64.wrap ((x : Int) * 9223372036854775808) = ((x * 9223372036854775808 % 18446744073709551616 : Nat) : Int) := by rw [IntKind.wrap_u64]; omega
  refine div_fin a b _ _ (sm a) (se a) (sm b) (se b) x (se a - i) y (se b - j) ((x * 9223372036854775808 / y : Nat) : Int) ((x * 9223372036854775808 % y : Nat) : Int) _ HSA HSB HFA HFB (by omega) (by omega) (by omega) (Lib.hid ?_) (decide (x * 9223372036854775808 % y ≠ 0)) ?_ ?_ G1 G2 N1 N2 I1 Z1 Z2 I2 w
  · rw [hw, show ((x : Int) / 2) = ((x / 2 : Nat) : Int) by omega]; exact HD0
  · generalize x * 9223372036854775808 % y = r; rw [Bool.eq_iff_iff]; simp only [bne_iff_ne, decide_eq_true_eq]; omega
  · rw [show se a - i - (se b - j) - 63 = se a - se b - i + j - 63 by omega]; exact HPK
end Go.Proofs.Ytkifdppppihjcaa

namespace Go.Proofs.Ytkifdppppihjcaa
set_option linter.unusedVariables false
set_option linter.unusedSimpArgs false
open Go.RowKit Go.Shelf SF
theorem i64_and1 (n : Int) : bits .and .i64 n 1 = n % 2 := by
  have h1 : (BitVec.ofInt 64 1).toNat = 2 ^ 1 - 1 := by decide
  have key : (BitVec.ofInt 64 n &&& BitVec.ofInt 64 1).toNat = (n % ((2 ^ 64 : Nat) : Int)).toNat % 2 ^ 1 := by
    rw [BitVec.toNat_and, BitVec.toNat_ofInt, h1, Nat.and_two_pow_sub_one_eq_mod]
  show IntKind.i64.wrap ((BitVec.ofInt 64 n &&& BitVec.ofInt 64 1).toNat : Nat) = n % 2
  rw [key, IntKind.wrap_i64]
  omega
/-- Where the root's loop stands. -/
structure RootAt (m i : Nat) (s b : Int) (r t : Nat) : Prop where
  hi : i ≤ 61
  hs : s = (r : Int)
  hb : b = ((if i = 0 then 0 else 2 ^ (i - 1) : Nat) : Int)
  hm : r % 2 ^ i = 0
  hl : r + 2 ^ i ≤ 2305843009213693952
  hr : rootL m i r = t
theorem root_at (m t : Nat) (h : rootL m 61 0 = t) : RootAt m 61 0 1152921504606846976 0 t := ⟨by decide, rfl, by decide, by decide, by decide, h⟩
theorem half_pow (j : Nat) : ((2 ^ j : Nat) : Int) / 2 = ((if j = 0 then 0 else 2 ^ (j - 1) : Nat) : Int) := by
  by_cases h : j = 0
  · subst h; rfl
  · rw [if_neg h]
    obtain ⟨k, rfl⟩ : ∃ k, j = k + 1 := ⟨j - 1, by omega⟩
    rw [Nat.add_sub_cancel, Nat.pow_succ]; omega
/-- A round of it. -/
theorem root_round {m j r t : Nat} {s b : Int} (h : RootAt m (j + 1) s b r t) :
    bits .or .u64 s b = ((r + 2 ^ j : Nat) : Int) ∧ W (r + 2 ^ j) ∧ b = ((2 ^ j : Nat) : Int) ∧ 0 < 2 ^ j ∧
    ((r + 2 ^ j) * (r + 2 ^ j) ≤ m → RootAt m j ((r + 2 ^ j : Nat) : Int) (b / 2) (r + 2 ^ j) t) ∧ (¬ (r + 2 ^ j) * (r + 2 ^ j) ≤ m → RootAt m j s (b / 2) r t) := by
  have hb : b = ((2 ^ j : Nat) : Int) := h.hb
  have hm := h.hm
  have hl := h.hl
  have hr := h.hr
  have hi := h.hi
  have pj := pow_pos j
  rw [Nat.pow_succ] at hm hl
  have d1 : r % 2 ^ j = 0 := by
    have := Nat.mod_mul_right_mod r (2 ^ j) 2
    rw [hm] at this; rw [← this]; exact Nat.zero_mod _
  have Wt : W (r + 2 ^ j) := by unfold W; omega
  refine ⟨?_, Wt, hb, pj, fun c => ⟨by omega, rfl, by rw [hb, half_pow], by rw [Nat.add_mod_right]; exact d1, by omega, ?_⟩, fun c => ⟨by omega, h.hs, by rw [hb, half_pow], d1, by omega, ?_⟩⟩
  · rw [h.hs, hb]
    have hm' : r % 2 ^ (j + 1) = 0 := h.hm
    exact bor_at (s := j + 1) hm' (by rw [Nat.pow_succ]; omega) (by unfold W at *; omega) (by unfold W at *; omega)
  · rw [← hr]; show _ = if _ then _ else _; rw [if_pos c]
  · rw [← hr]; show _ = if _ then _ else _; rw [if_neg c]
theorem sq_le {t hi lo : Nat} (h : W lo) : t * t ≤ two hi lo ↔ (t * t / 18446744073709551616 < hi ∨ (t * t / 18446744073709551616 = hi ∧ t * t % 18446744073709551616 ≤ lo)) := by
  unfold two
  unfold W at h
  generalize t * t = x
  omega
theorem sq_eq {t hi lo : Nat} (hl : W lo) : t * t = two hi lo ↔ (t * t / 18446744073709551616 = hi ∧ t * t % 18446744073709551616 = lo) := by
  unfold two
  unfold W at hl
  generalize t * t = x
  omega
theorem root_c (hi lo : Nat) (hh : W hi) (hl : W lo) (R : Nat) (hR : rootL (two hi lo) 61 0 = R) (z : Bool) (hz : decide (R * R ≠ two hi lo) = z) (hRW : W R) (w : World) : Calls Try.prog 45 #[.int .u64 hi, .int .u64 lo] w fun e w' => e = .returned (.tuple #[.int .u64 R, .bool z]) ∧ w = w' := by
  have S := Lib.hid (root_at _ _ hR)
  have LAST := Lib.hid (mul64_c R R hRW hRW)
  have LE := Lib.hid (sq_eq (t := R) (hi := hi) hl)
  have HZ := Lib.hid hz
  have hlo := Lib.hid hl
  clear hz hR hh hl
  go_enter Try.func45, Try.ntmps45
  go_wp2_with fail
  go_loop [6, 7] (fun s b => ∃ (x y : Int), s = .int .u64 x ∧ b = .int .u64 y ∧ Hid (∃ i r, RootAt (two hi lo) i x y r R)) (fun _ b => (intOf b).toNat)
  case atStart => exact ⟨_, _, rfl, rfl, Lib.hid ⟨_, _, S.out⟩⟩
  case round =>
    obtain ⟨s, b, rfl, rfl, hA⟩ := hrel
    obtain ⟨i, r, hA⟩ := hA.out
    clear S
    cases i with
    | zero =>
      have hb0 : b = 0 := hA.hb
      have hr0 : r = R := hA.hr
      have hs0 : s = (R : Int) := by rw [hA.hs, hr0]
      subst hs0 hb0
      clear hA
      generalize R * R / 18446744073709551616 = h at LAST LE
      generalize R * R % 18446744073709551616 = l at LAST LE
      by_cases c1 : h = hi
      · subst c1
        have ez : ((l : Int) != (lo : Int)) = z := by
          rw [← HZ.out, Bool.eq_iff_iff]; simp only [bne_iff_ne, decide_eq_true_eq]
          have := LE.out
          constructor
          · intro g c; exact g (by have := (this.1 c).2; omega)
          · intro g c; exact g (this.2 ⟨rfl, by omega⟩)
        clear LE HZ
        have EZ := Lib.hid ez
        clear ez
        go_wp2_with (first
          | (go_at_call 46; (with_reducible refine (LAST.out _).mono ?_); rintro e1 w1 ⟨rfl, rfl⟩))
        go_ret2
        refine ⟨?_, rfl⟩
        rw [← EZ.out]; rfl
      · have e1 : ¬ (h : Int) = (hi : Int) := by omega
        have ez : z = true := by rw [← HZ.out, decide_eq_true]; exact fun g => c1 (LE.out.1 g).1
        subst ez
        clear LE HZ c1
        go_wp2_with (first
          | (go_at_call 46; (with_reducible refine (LAST.out _).mono ?_); rintro e1 w1 ⟨rfl, rfl⟩))
        go_ret2
        exact ⟨rfl, rfl⟩
    | succ j =>
      obtain ⟨q1, q2, q3, q4, q5, q6⟩ := root_round hA
      have b0 : 0 < b := by omega
      have SL := sq_le (t := r + 2 ^ j) (hi := hi) (lo := lo) hlo.out
      rw [SL] at q5 q6
      have HM := Lib.hid (mul64_c (r + 2 ^ j) (r + 2 ^ j) q2 q2)
      clear hA LE HZ LAST SL q2 q3 q4
      generalize (r + 2 ^ j) * (r + 2 ^ j) / 18446744073709551616 = h at HM q5 q6
      generalize (r + 2 ^ j) * (r + 2 ^ j) % 18446744073709551616 = l at HM q5 q6
      generalize r + 2 ^ j = T at HM q1 q5
      have Q5 := Lib.hid q5
      have Q6 := Lib.hid q6
      clear q5 q6
      by_cases c1 : (h : Int) < hi
      · have N := Q5.out (.inl (by omega))
        clear Q5 Q6
        go_wp2_with (first
          | (go_at_call 46; (with_reducible refine (HM.out _).mono ?_); rintro e1 w1 ⟨rfl, rfl⟩))
        go_round
        case rel => exact ⟨_, _, rfl, rfl, Lib.hid ⟨_, _, N⟩⟩
        case measure => simp [intOf]; omega
      · by_cases c2 : (h : Int) = (hi : Int)
        · by_cases c3 : (l : Int) ≤ lo
          · have N := Q5.out (.inr ⟨by omega, by omega⟩)
            clear Q5 Q6
            go_wp2_with (first
              | (go_at_call 46; (with_reducible refine (HM.out _).mono ?_); rintro e1 w1 ⟨rfl, rfl⟩))
            go_round
            case rel => exact ⟨_, _, rfl, rfl, Lib.hid ⟨_, _, N⟩⟩
            case measure => simp [intOf]; omega
          · have N := Q6.out (fun g => by rcases g with g | g <;> omega)
            clear Q5 Q6
            go_wp2_with (first
              | (go_at_call 46; (with_reducible refine (HM.out _).mono ?_); rintro e1 w1 ⟨rfl, rfl⟩))
            go_round
            case rel => exact ⟨_, _, rfl, rfl, Lib.hid ⟨_, _, N⟩⟩
            case measure => simp [intOf]; omega
        · skip
          have N := Q6.out (fun g => by rcases g with g | g; omega; exact absurd g.1 (by omega))
          clear Q5 Q6
          go_wp2_with (first
            | (go_at_call 46; (with_reducible refine (HM.out _).mono ?_); rintro e1 w1 ⟨rfl, rfl⟩))
          go_round
          case rel => exact ⟨_, _, rfl, rfl, Lib.hid ⟨_, _, N⟩⟩
          case measure => simp [intOf]; omega
end Go.Proofs.Ytkifdppppihjcaa

namespace Go.Proofs.Ytkifdppppihjcaa
set_option linter.unusedVariables false
set_option linter.unusedSimpArgs false
open Go.RowKit Go.Shelf SF
theorem sqrt_fine {w w1 w2 w4 : World} {o1 : Obj} (h1 : Below w.heap.size w w1) (h2 : Below w1.heap.size w1 w2) (h5 : Below (w2.alloc o1).heap.size (w2.alloc o1) w4) : Below w.heap.size w w4 := by
  have a := below_then h1 h1.size h2
  have b := a.alloc a.size o1
  exact below_then b b.size h5
set_option maxHeartbeats 1000000 in
theorem sqrt_n1 (a : Nat) (N1 : Hid (PB 33 a true)) (w : World) : Calls Try.prog 19 #[.int .u64 a] w fun e w' => e = .returned (.int .u64 (9221120237041090560)) ∧ Below w.heap.size w w' := by
  go_enter Try.func19, Try.ntmps19
  go_wp2_with (first
    | (go_at_call 33; (with_reducible refine (N1.out _).mono ?_); rintro e1 w1 ⟨rfl, rfl⟩))
  go_ret
  exact ⟨rfl, Below.refl _ _⟩
set_option maxHeartbeats 1000000 in
theorem sqrt_z1 (a : Nat) (N1 : Hid (PB 33 a false)) (Z1 : Hid (PB 36 a true)) (w : World) : Calls Try.prog 19 #[.int .u64 a] w fun e w' => e = .returned (.int .u64 ((a : Int))) ∧ Below w.heap.size w w' := by
  go_enter Try.func19, Try.ntmps19
  go_wp2_with (first
    | (go_at_call 33; (with_reducible refine (N1.out _).mono ?_); rintro e1 w1 ⟨rfl, rfl⟩)
    | (go_at_call 36; (with_reducible refine (Z1.out _).mono ?_); rintro e1 w1 ⟨rfl, rfl⟩))
  go_ret
  exact ⟨rfl, Below.refl _ _⟩
set_option maxHeartbeats 1000000 in
theorem sqrt_g1 (a : Nat) (N1 : Hid (PB 33 a false)) (Z1 : Hid (PB 36 a false)) (G1 : Hid (PB 34 a true)) (w : World) : Calls Try.prog 19 #[.int .u64 a] w fun e w' => e = .returned (.int .u64 (9221120237041090560)) ∧ Below w.heap.size w w' := by
  go_enter Try.func19, Try.ntmps19
  go_wp2_with (first
    | (go_at_call 33; (with_reducible refine (N1.out _).mono ?_); rintro e1 w1 ⟨rfl, rfl⟩)
    | (go_at_call 36; (with_reducible refine (Z1.out _).mono ?_); rintro e1 w1 ⟨rfl, rfl⟩)
    | (go_at_call 34; (with_reducible refine (G1.out _).mono ?_); rintro e1 w1 ⟨rfl, rfl⟩))
  go_ret
  exact ⟨rfl, Below.refl _ _⟩
set_option maxHeartbeats 1000000 in
theorem sqrt_i1 (a : Nat) (N1 : Hid (PB 33 a false)) (Z1 : Hid (PB 36 a false)) (G1 : Hid (PB 34 a false)) (I1 : Hid (PB 35 a true)) (w : World) : Calls Try.prog 19 #[.int .u64 a] w fun e w' => e = .returned (.int .u64 ((a : Int))) ∧ Below w.heap.size w w' := by
  go_enter Try.func19, Try.ntmps19
  go_wp2_with (first
    | (go_at_call 33; (with_reducible refine (N1.out _).mono ?_); rintro e1 w1 ⟨rfl, rfl⟩)
    | (go_at_call 36; (with_reducible refine (Z1.out _).mono ?_); rintro e1 w1 ⟨rfl, rfl⟩)
    | (go_at_call 34; (with_reducible refine (G1.out _).mono ?_); rintro e1 w1 ⟨rfl, rfl⟩)
    | (go_at_call 35; (with_reducible refine (I1.out _).mono ?_); rintro e1 w1 ⟨rfl, rfl⟩))
  go_ret
  exact ⟨rfl, Below.refl _ _⟩
set_option maxHeartbeats 1000000 in
theorem sqrt_f0 (a : Nat) (ma0 ea0 ma ea s Q R : Int) (z : Bool) (HSA : Hid (PSplit a false ma0 ea0)) (HFA : Hid (PFull false ma0 ea0 ma ea)) (ba : -2000 ≤ ea ∧ ea ≤ 2000) (bm : 0 ≤ ma ∧ ma < 9007199254740992) (BIT : bits .and .i64 ea 1 = 0) (HR : Hid (∀ w, Calls Try.prog 45 #[.int .u64 (ma / 4), .int .u64 (IntKind.u64.wrap (ma * 4611686018427387904))] w fun e w' => e = .returned (.tuple #[.int .u64 s, .bool z]) ∧ w = w')) (hQ : (ea - 62).tdiv 2 = Q) (bQ : -3000 ≤ Q ∧ Q ≤ 3000) (HPK : Hid (PPack false 0 s Q z R)) (N1 : Hid (PB 33 a false)) (Z1 : Hid (PB 36 a false)) (G1 : Hid (PB 34 a false)) (I1 : Hid (PB 35 a false)) (w : World) : Calls Try.prog 19 #[.int .u64 a] w fun e w' => e = .returned (.int .u64 (R)) ∧ Below w.heap.size w w' := by
  go_enter Try.func19, Try.ntmps19
  go_wp2_with (first
    | (go_at_call 33; (with_reducible refine (N1.out _).mono ?_); rintro e1 w1 ⟨rfl, rfl⟩)
    | (go_at_call 36; (with_reducible refine (Z1.out _).mono ?_); rintro e1 w1 ⟨rfl, rfl⟩)
    | (go_at_call 34; (with_reducible refine (G1.out _).mono ?_); rintro e1 w1 ⟨rfl, rfl⟩)
    | (go_at_call 35; (with_reducible refine (I1.out _).mono ?_); rintro e1 w1 ⟨rfl, rfl⟩)
    | (go_at_call 39; (with_reducible refine (HSA.out _).mono ?_); rintro e1 w1 ⟨rfl, hb1⟩)
    | (go_at_call 38; (with_reducible refine (HFA.out _).mono ?_); rintro e2 w2 ⟨rfl, hb2⟩)
    | (go_at_call 45; (with_reducible refine (HR.out _).mono ?_); rintro e5 w5 ⟨rfl, rfl⟩)
    | (go_at_call 41; (with_reducible refine (HPK.out _).mono ?_); rintro e6 w6 ⟨rfl, hb6⟩))
  go_ret
  exact ⟨rfl, sqrt_fine hb1 hb2 hb6⟩
set_option maxHeartbeats 1000000 in
theorem sqrt_f1 (a : Nat) (ma0 ea0 ma ea s Q R : Int) (z : Bool) (HSA : Hid (PSplit a false ma0 ea0)) (HFA : Hid (PFull false ma0 ea0 ma ea)) (ba : -2000 ≤ ea ∧ ea ≤ 2000) (bm : 0 ≤ ma ∧ ma < 9007199254740992) (BIT : bits .and .i64 ea 1 = 1) (HR : Hid (∀ w, Calls Try.prog 45 #[.int .u64 ((ma * 2) / 4), .int .u64 (IntKind.u64.wrap ((ma * 2) * 4611686018427387904))] w fun e w' => e = .returned (.tuple #[.int .u64 s, .bool z]) ∧ w = w')) (hQ : (ea - 1 - 62).tdiv 2 = Q) (bQ : -3000 ≤ Q ∧ Q ≤ 3000) (HPK : Hid (PPack false 0 s Q z R)) (N1 : Hid (PB 33 a false)) (Z1 : Hid (PB 36 a false)) (G1 : Hid (PB 34 a false)) (I1 : Hid (PB 35 a false)) (w : World) : Calls Try.prog 19 #[.int .u64 a] w fun e w' => e = .returned (.int .u64 (R)) ∧ Below w.heap.size w w' := by
  go_enter Try.func19, Try.ntmps19
  go_wp2_with (first
    | (go_at_call 33; (with_reducible refine (N1.out _).mono ?_); rintro e1 w1 ⟨rfl, rfl⟩)
    | (go_at_call 36; (with_reducible refine (Z1.out _).mono ?_); rintro e1 w1 ⟨rfl, rfl⟩)
    | (go_at_call 34; (with_reducible refine (G1.out _).mono ?_); rintro e1 w1 ⟨rfl, rfl⟩)
    | (go_at_call 35; (with_reducible refine (I1.out _).mono ?_); rintro e1 w1 ⟨rfl, rfl⟩)
    | (go_at_call 39; (with_reducible refine (HSA.out _).mono ?_); rintro e1 w1 ⟨rfl, hb1⟩)
    | (go_at_call 38; (with_reducible refine (HFA.out _).mono ?_); rintro e2 w2 ⟨rfl, hb2⟩)
    | (go_at_call 45; (with_reducible refine (HR.out _).mono ?_); rintro e5 w5 ⟨rfl, rfl⟩)
    | (go_at_call 41; (with_reducible refine (HPK.out _).mono ?_); rintro e6 w6 ⟨rfl, hb6⟩))
  go_ret
  exact ⟨rfl, sqrt_fine hb1 hb2 hb6⟩
theorem sg_false (p : Nat) : sg false p = p := rfl
theorem tdiv_two {x : Int} (h : x % 2 = 0) : x.tdiv 2 = x / 2 := Int.tdiv_eq_ediv_of_dvd (Int.dvd_of_emod_eq_zero h)
theorem sqrt_key (a i δ : Nat) (la : sm a < 9007199254740992) (h0 : sm a ≠ 0) (hi : bl (sm a) + i = 53) (x1 : sm a * 2 ^ i < 9007199254740992) (hd : δ = 0 ∨ δ = 1) (he : (se a - i - δ) % 2 = 0) : ∃ (s : Nat) (z : Bool), W s ∧ (∀ w, Calls Try.prog 45 #[.int .u64 (((sm a * 2 ^ i * 2 ^ δ / 4 : Nat)) : Int), .int .u64 ((sm a * 2 ^ i * 2 ^ δ * 4611686018427387904 % 18446744073709551616 : Nat) : Int)] w fun e w' => e = .returned (.tuple #[.int .u64 s, .bool z]) ∧ w = w') ∧ pat s ((se a - i - δ - 62) / 2) z = sqrtF a := by
  have x2 : sm a * 2 ^ i * 2 ^ δ < 18014398509481984 := by
    rcases hd with rfl | rfl
    · rw [Nat.pow_zero]; omega
    · rw [Nat.pow_one]; omega
  have e62 : (2 : Nat) ^ 62 = 4611686018427387904 := by decide
  have ep : sm a * 2 ^ (i + δ + 62) = sm a * 2 ^ i * 2 ^ δ * 4611686018427387904 := by rw [Nat.pow_add, Nat.pow_add, e62]; simp only [Nat.mul_assoc]
  have P := fun s hs => sqrt_prog (a := a) i δ s h0 hi hd he hs
  rw [ep] at P
  obtain ⟨x, hx⟩ : ∃ x, sm a * 2 ^ i * 2 ^ δ = x := ⟨_, rfl⟩
  rw [hx] at P x2 ⊢
  have tt : two (x / 4) (x * 4611686018427387904 % 18446744073709551616) = x * 4611686018427387904 := by unfold two; omega
  have ml : x * 4611686018427387904 < 2 ^ 122 := by
    have e122 : (2 : Nat) ^ 122 = 1152921504606846976 * 4611686018427387904 := by decide
    rw [e122]
    exact Nat.mul_lt_mul_of_pos_right (by omega) (by decide)
  have IR := rootL_is (x * 4611686018427387904) 61 0 (Nat.zero_le _) (by rw [Nat.zero_add, ← Nat.pow_add]; exact ml)
  obtain ⟨R, hR⟩ : ∃ R, rootL (x * 4611686018427387904) 61 0 = R := ⟨_, rfl⟩
  rw [hR] at IR
  have RW : W R := by
    rcases Nat.lt_or_ge R 18446744073709551616 with c | c
    · exact c
    · exfalso
      have h1 := IR.1
      have h2 : 18446744073709551616 * 18446744073709551616 ≤ R * R := Nat.mul_le_mul c c
      have h3 : 2 ^ 122 < 18446744073709551616 * 18446744073709551616 := by decide
      exact absurd (Nat.lt_of_lt_of_le h3 (Nat.le_trans h2 h1)) (Nat.not_lt.2 (Nat.le_of_lt ml))
  exact ⟨R, _, RW, root_c (x / 4) (x * 4611686018427387904 % 18446744073709551616) (W_of (by omega)) (W_of (Nat.mod_lt _ (by decide))) R (by rw [tt]; exact hR) _ rfl RW, by rw [tt]; exact P R IR⟩
theorem sqrt_c (a : Nat) (ha : W a) (w : World) : Calls Try.prog 19 #[.int .u64 a] w fun e w' => e = .returned (.int .u64 ((sqrtV a : Nat) : Int)) ∧ Below w.heap.size w w' := by
  have N1 := Lib.hid (isnan_c a ha)
  have I1 := Lib.hid (isinf_c a ha)
  have Z1 := Lib.hid (iszero_c a ha)
  have G1 := Lib.hid (isneg_c a ha)
  by_cases n1 : nan a = true
  · rw [show sqrtV a = NaN by simp [sqrtV, n1]]; rw [n1] at N1; exact sqrt_n1 a N1 w
  have n1 := Bool.eq_false_iff.2 n1; rw [n1] at N1
  by_cases z1 : zer a = true
  · rw [show sqrtV a = a by simp [sqrtV, n1, z1]]; rw [z1] at Z1; exact sqrt_z1 a N1 Z1 w
  have z1 := Bool.eq_false_iff.2 z1; rw [z1] at Z1
  by_cases g1 : ng a = true
  · rw [show sqrtV a = NaN by simp [sqrtV, n1, z1, g1]]; rw [g1] at G1; exact sqrt_g1 a N1 Z1 G1 w
  have g1 := Bool.eq_false_iff.2 g1; rw [g1] at G1
  by_cases i1 : inf a = true
  · rw [show sqrtV a = a by simp [sqrtV, n1, z1, g1, i1]]; rw [i1] at I1; exact sqrt_i1 a N1 Z1 G1 I1 w
  have i1 := Bool.eq_false_iff.2 i1; rw [i1] at I1
  rw [show sqrtV a = sqrtF a by simp [sqrtV, n1, z1, g1, i1]]
  have ba : -1074 ≤ se a ∧ se a ≤ 971 := ⟨se_ge a, se_le n1 i1⟩
  have HSA := Lib.hid (split_c a ha)
  rw [g1] at HSA
  have la := sm_lt a
  have h0 : sm a ≠ 0 := fun c => by rw [sm_zero.1 c] at z1; cases z1
  have e53 : (2 : Nat) ^ 53 = 9007199254740992 := by decide
  have ka : bl (sm a) ≤ 53 := bl_le_of_lt (by rw [e53]; exact la)
  obtain ⟨i, hi⟩ : ∃ i, bl (sm a) + i = 53 := ⟨53 - bl (sm a), by omega⟩
  have HFA := Lib.hid (full_c false (sm a) i (se a) h0 hi ba)
  have x1 : sm a * 2 ^ i < 9007199254740992 := by
    calc sm a * 2 ^ i < 2 ^ bl (sm a) * 2 ^ i := Nat.mul_lt_mul_of_pos_right (bl_lt _) (pow_pos i)
      _ = 9007199254740992 := by rw [← Nat.pow_add, hi]
  have key := fun δ hd he => sqrt_key a i δ la h0 hi x1 hd he
  have B := i64_and1 (se a - i)
  rcases Int.emod_two_eq (se a - i) with o | o
  · rw [o] at B
    obtain ⟨s, z, sW, HR, E⟩ := key 0 (.inl rfl) (by omega)
    rw [Nat.pow_zero, Nat.mul_one] at HR
    rw [show se a - i - (0 : Nat) - 62 = se a - i - 62 by omega] at E
    obtain ⟨x, hx⟩ : ∃ x, sm a * 2 ^ i = x := ⟨_, rfl⟩
    rw [hx] at HR HFA x1
    have HPK := Lib.hid (pack_c false 0 s ((se a - i - 62) / 2) z (W_of (by decide)) sW)
    rw [two_lo, E, sg_false] at HPK
    have hw : IntKind.u64.wrap ((x : Int) * 4611686018427387904) = ((x * 4611686018427387904 % 18446744073709551616 : Nat) : Int) := by rw [IntKind.wrap_u64]; omega
    exact sqrt_f0 a (sm a) (se a) x (se a - i) s ((se a - i - 62) / 2) _ z HSA HFA (by omega) (by omega) B (Lib.hid (by rw [hw, show ((x : Int) / 4) = ((x / 4 : Nat) : Int) by omega]; exact HR)) (tdiv_two (by omega)) (by omega) HPK N1 Z1 G1 I1 w
  · rw [o] at B
    obtain ⟨s, z, sW, HR, E⟩ := key 1 (.inr rfl) (by omega)
    rw [Nat.pow_one] at HR
    rw [show se a - i - (1 : Nat) - 62 = se a - i - 1 - 62 by omega] at E
    obtain ⟨x, hx⟩ : ∃ x, sm a * 2 ^ i = x := ⟨_, rfl⟩
    rw [hx] at HR HFA x1
    have HPK := Lib.hid (pack_c false 0 s ((se a - i - 1 - 62) / 2) z (W_of (by decide)) sW)
    rw [two_lo, E, sg_false] at HPK
    have hw : IntKind.u64.wrap ((x : Int) * 2 * 4611686018427387904) = ((x * 2 * 4611686018427387904 % 18446744073709551616 : Nat) : Int) := by rw [IntKind.wrap_u64]; omega
    exact sqrt_f1 a (sm a) (se a) x (se a - i) s ((se a - i - 1 - 62) / 2) _ z HSA HFA (by omega) (by omega) B (Lib.hid (by rw [hw, show ((x : Int) * 2 / 4) = ((x * 2 / 4 : Nat) : Int) by omega]; exact HR)) (tdiv_two (by omega)) (by omega) HPK N1 Z1 G1 I1 w
end Go.Proofs.Ytkifdppppihjcaa
