/- Plain arithmetic of cells and doubles: no program in sight. -/
import Derived.WalkKit
import Derived.Laws.BitsAllLaws
namespace Go.Proofs.Ytecgkhijiogggaa.DV
open Go.RowKit

/-- A cell read without a sign. -/
def U (a : Int) : Int := a % 18446744073709551616
/-- A signed double. -/
def D (lo hi : Int) : Int := hi * 18446744073709551616 + lo % 18446744073709551616
/-- An unsigned double. -/
def UD (lo hi : Int) : Int := (hi % 18446744073709551616) * 18446744073709551616 + lo % 18446744073709551616
def dlo (v : Int) : Int := wrap64 v
def dhi (v : Int) : Int := wrap64 (v / 18446744073709551616)
def sg (b : Bool) (n : Int) : Int := if b then -n else n
def Cell (a : Int) : Prop := -9223372036854775808 ≤ a ∧ a ≤ 9223372036854775807
def Word (a : Int) : Prop := 0 ≤ a ∧ a < 18446744073709551616

theorem u_word (a : Int) : Word (U a) := ⟨by unfold U; omega, by unfold U; omega⟩

/-! ### Division by digits -/
theorem ediv_of {a b q r : Int} (h : 0 < b) (e : q * b + r = a) (h0 : 0 ≤ r) (h1 : r < b) : a / b = q ∧ a % b = r := by
  have := (Int.ediv_emod_unique (a := a) (b := b) (r := r) (q := q) h).2 ⟨by rw [Int.mul_comm b q]; omega, h0, h1⟩
  exact this

theorem bit_step (p bit d : Int) (hd : 0 < d) (h0 : 0 ≤ bit) (h1 : bit ≤ 1) :
    (d ≤ 2 * (p % d) + bit → (2 * p + bit) / d = 2 * (p / d) + 1 ∧ (2 * p + bit) % d = 2 * (p % d) + bit - d) ∧
    (2 * (p % d) + bit < d → (2 * p + bit) / d = 2 * (p / d) ∧ (2 * p + bit) % d = 2 * (p % d) + bit) := by
  have e := Int.mul_ediv_add_emod p d
  have r0 := Int.emod_nonneg p (show d ≠ 0 by omega)
  have r1 := Int.emod_lt_of_pos p hd
  have e1 : (2 * (p / d) + 1) * d = 2 * (d * (p / d)) + d := by
    rw [Int.add_mul, Int.one_mul, Int.mul_assoc, Int.mul_comm (p / d) d]
  have e2 : (2 * (p / d)) * d = 2 * (d * (p / d)) := by
    rw [Int.mul_assoc, Int.mul_comm (p / d) d]
  exact ⟨fun h => ediv_of hd (by omega) (by omega) (by omega), fun h => ediv_of hd (by omega) (by omega) (by omega)⟩

/-! ### Knuth's step: a digit of the quotient -/
section
variable {u n1 y1 y0 q r : Int}
theorem knuth_eq (e : q * y1 + r = u) : u * 4294967296 + n1 - q * (y1 * 4294967296 + y0) = r * 4294967296 + n1 - q * y0 := by
  have : q * (y1 * 4294967296 + y0) = (q * y1) * 4294967296 + q * y0 := by rw [Int.mul_add, Int.mul_assoc]
  omega
theorem knuth_down (e : q * y1 + r = u) (hy : 0 < y1 * 4294967296 + y0) (h : r * 4294967296 + n1 < q * y0) : (u * 4294967296 + n1) / (y1 * 4294967296 + y0) ≤ q - 1 := by
  have := knuth_eq (n1 := n1) (y0 := y0) e
  have := Int.ediv_lt_of_lt_mul hy (a := u * 4294967296 + n1) (b := q) (by omega)
  omega
theorem knuth_le (e : q * y1 + r = u) (hy : 0 < y1 * 4294967296 + y0) (h : q * y0 ≤ r * 4294967296 + n1) : q ≤ (u * 4294967296 + n1) / (y1 * 4294967296 + y0) := by
  have := knuth_eq (n1 := n1) (y0 := y0) e
  exact Int.le_ediv_of_mul_le hy (by omega)
end

/-- The guess of a digit: what the loop keeps. -/
structure Guess (u n1 y1 y0 q r : Int) : Prop where
  eq : q * y1 + r = u
  hi : q ≤ 4294967297
  lo : (u * 4294967296 + n1) / (y1 * 4294967296 + y0) ≤ q
  r0 : 0 ≤ r
  r1 : r < 4294967296
/-- What the divisor and the dividend are. -/
structure Norm (u n1 y1 y0 : Int) : Prop where
  y1l : 2147483648 ≤ y1
  y1h : y1 < 4294967296
  y0l : 0 ≤ y0
  y0h : y0 < 4294967296
  n1l : 0 ≤ n1
  n1h : n1 < 4294967296
  ul : 0 ≤ u
  uh : u < y1 * 4294967296 + y0

theorem Norm.digit {u n1 y1 y0 : Int} (n : Norm u n1 y1 y0) : 0 ≤ (u * 4294967296 + n1) / (y1 * 4294967296 + y0) ∧ (u * 4294967296 + n1) / (y1 * 4294967296 + y0) < 4294967296 := by
  obtain ⟨h1, h2, h3, h4, h5, h6, h7, h8⟩ := n
  exact ⟨Int.ediv_nonneg (by omega) (by omega), Int.ediv_lt_of_lt_mul (by omega) (by omega)⟩

theorem guess_start {u n1 y1 y0 : Int} (n : Norm u n1 y1 y0) : Guess u n1 y1 y0 (u / y1) (u - u / y1 * y1) := by
  have nd := n.digit
  obtain ⟨h1, h2, h3, h4, h5, h6, h7, h8⟩ := n
  have e := Int.mul_ediv_add_emod u y1
  have r0 := Int.emod_nonneg u (show y1 ≠ 0 by omega)
  have r1 := Int.emod_lt_of_pos u (show 0 < y1 by omega)
  have c := Int.mul_comm y1 (u / y1)
  refine ⟨by omega, ?_, ?_, by omega, by omega⟩
  · have : u / y1 < 4294967298 := Int.ediv_lt_of_lt_mul (by omega) (by omega)
    omega
  · have := Int.ediv_lt_of_lt_mul (a := u * 4294967296 + n1) (b := u / y1 + 1) (c := y1 * 4294967296 + y0) (by omega) (by
      have e2 : (u / y1 + 1) * (y1 * 4294967296 + y0) = (u / y1 * y1) * 4294967296 + y1 * 4294967296 + (u / y1) * y0 + y0 := by
        rw [Int.add_mul, Int.one_mul, Int.mul_add, Int.mul_assoc]; omega
      have : 0 ≤ (u / y1) * y0 := Int.mul_nonneg (Int.ediv_nonneg h7 (by omega)) h3
      omega)
    omega

theorem guess_down {u n1 y1 y0 q r : Int} (n : Norm u n1 y1 y0) (g : Guess u n1 y1 y0 q r) (h : 4294967296 ≤ q ∨ r * 4294967296 + n1 < q * y0) :
    (u * 4294967296 + n1) / (y1 * 4294967296 + y0) ≤ q - 1 ∧ (q - 1) * y1 + (r + y1) = u ∧ q - 1 ≤ 4294967296 ∧ 0 ≤ q - 1 := by
  have nd := n.digit
  obtain ⟨h1, h2, h3, h4, h5, h6, h7, h8⟩ := n
  obtain ⟨g1, g2, g3, g4, g5⟩ := g
  have e : (q - 1) * y1 = q * y1 - y1 := by rw [Int.sub_mul, Int.one_mul]
  rcases h with h | h
  · exact ⟨by omega, by omega, by omega, by omega⟩
  · have := knuth_down g1 (by omega) h
    exact ⟨this, by omega, by omega, by omega⟩

/-- The loop's test fails: the guess is the digit. -/
theorem guess_done {u n1 y1 y0 q r : Int} (n : Norm u n1 y1 y0) (g : Guess u n1 y1 y0 q r) (h : q * y0 ≤ r * 4294967296 + n1) : q = (u * 4294967296 + n1) / (y1 * 4294967296 + y0) := by
  have := knuth_le g.eq (by have := n.y1l; have := n.y0l; omega) h
  have := g.lo
  omega
/-- The rest has grown over a digit: the guess is the digit. -/
theorem guess_break {u n1 y1 y0 q r : Int} (n : Norm u n1 y1 y0) (l : (u * 4294967296 + n1) / (y1 * 4294967296 + y0) ≤ q) (e : q * y1 + r = u) (hq : q ≤ 4294967296) (hr : 4294967296 ≤ r) : q = (u * 4294967296 + n1) / (y1 * 4294967296 + y0) := by
  obtain ⟨h1, h2, h3, h4, h5, h6, h7, h8⟩ := n
  have a : q * y0 ≤ 4294967296 * y0 := Int.mul_le_mul_of_nonneg_right hq h3
  have := knuth_le e (by omega) (show q * y0 ≤ r * 4294967296 + n1 by omega)
  omega


/-! ### Sizes and signs -/
def aC (a : Int) : Int := if a < 0 then -a else a
def aD (lo hi : Int) : Int := if hi < 0 then -(D lo hi) else D lo hi
theorem aC_word {a : Int} (h : Cell a) : Word (aC a) := by
  obtain ⟨h0, h1⟩ := h
  unfold aC
  split <;> exact ⟨by omega, by omega⟩
theorem mod_word (a : Int) : Word (a % 18446744073709551616) := ⟨by omega, by omega⟩
theorem mul_lt {x y : Int} (hx : Word x) (hy : Word y) : 0 ≤ x * y ∧ x * y ≤ 340282366920938463426481119284349108225 := by
  obtain ⟨x0, x1⟩ := hx
  obtain ⟨y0, y1⟩ := hy
  have := Int.mul_le_mul (show x ≤ 18446744073709551615 by omega) (show y ≤ 18446744073709551615 by omega) y0 (by omega)
  exact ⟨Int.mul_nonneg x0 y0, by omega⟩
theorem hi_word {x y : Int} (hx : Word x) (hy : Word y) : Word (x * y / 18446744073709551616) := by
  have := mul_lt hx hy
  exact ⟨by omega, by omega⟩
theorem mul_sg (a b : Int) : a * b = sg (!(decide (a < 0) == decide (b < 0))) (aC a * aC b) := by
  unfold sg aC
  by_cases ha : a < 0 <;> by_cases hb : b < 0 <;> simp [ha, hb, Int.neg_mul, Int.mul_neg]
end Go.Proofs.Ytecgkhijiogggaa.DV
