/- The contract of the reference's Text. -/
import Derived.Test.YtjioombinbngpaaQ
import Derived.Test.YtjioombinbngpaaU
import Derived.Test.YtjioombinbngpaaR
namespace Go.Proofs.Ytjioombinbngpaa
set_option linter.unusedVariables false
set_option linter.unusedSimpArgs false
open Go.RowKit Go.Shelf

theorem rudivS (N b x : Int) (h0 : 0 ≤ N) (h1 : N < M2) (hb0 : 2 ≤ b) (hb1 : b ≤ 36) (hx : N / 18446744073709551616 % b = x) (w : World) :
    Calls Try.prog 28 #[.int .i64 (dlo N), .int .i64 x, .int .i64 b] w fun e w' => e = .returned (.tuple #[.int .i64 (N % b), .int .i64 (dlo (N / b)), .int .i64 0]) ∧ w = w' := by
  have H := rudiv_c (dlo N) x b ⟨by omega, by omega⟩ w
  unfold M2 at h1
  obtain ⟨d1, d2, d3, d4⟩ := div_words (N / 18446744073709551616) (N % 18446744073709551616) b hb0 hb1 (by omega) (by omega) (by omega) (by omega) N (by omega)
  rw [hx] at d1 d2 d3 d4
  have x0 := Int.emod_nonneg (N / 18446744073709551616) (show b ≠ 0 by omega)
  have x1 := Int.emod_lt_of_pos (N / 18446744073709551616) (show 0 < b by omega)
  rw [hx] at x0 x1
  have r0 := Int.emod_nonneg N (show b ≠ 0 by omega)
  have r1 := Int.emod_lt_of_pos N (show 0 < b by omega)
  have e1 : U b = b := by unfold U; omega
  have e2 : U x = x := by unfold U; omega
  have e3 : UD (dlo N) x = x * 18446744073709551616 + N % 18446744073709551616 := by unfold UD dlo wrap64; omega
  have e4 : udivV (dlo N) x b = trip (N % b) (dlo (N / b)) 0 := by
    unfold udivV
    rw [if_neg (by omega), e1, e2, if_neg (by omega), e3, d2]
    have a1 : wrap64 (N % b) = N % b := by unfold wrap64; omega
    have a2 : wrap64 ((x * 18446744073709551616 + N % 18446744073709551616) / b) = dlo (N / b) := by rw [← d1]; unfold dlo wrap64; omega
    rw [a1, a2]
  rw [e4] at H
  exact H
theorem dhi_div (N b : Int) (hb : 0 < b) : wrap64 (N / 18446744073709551616 / b) = dhi (N / b) := by
  unfold dhi
  rw [← ediv_two _ _ _ (by decide) hb, ← ediv_two _ _ _ hb (by decide), Int.mul_comm]
theorem dlohi_zero (N : Int) (h0 : 0 ≤ N) (h1 : N < M2) (a : dlo N = 0) (b : dhi N = 0) : N = 0 := by
  unfold dlo dhi wrap64 at *; unfold M2 at h1; omega
def alpha : ByteArray := ⟨#[48, 49, 50, 51, 52, 53, 54, 55, 56, 57, 65, 66, 67, 68, 69, 70, 71, 72, 73, 74, 75, 76, 77, 78, 79, 80, 81, 82, 83, 84, 85, 86, 87, 88, 89, 90]⟩
theorem alpha_size : alpha.size = 36 := rfl
theorem alpha_digs : ∀ k : Fin 36, (((alpha[k.val]'(by rw [alpha_size]; exact k.isLt)).toNat : Int)) = dig ((k.val : Nat) : Int) := by decide
theorem alpha_get (r : Int) (h0 : 0 ≤ r) (h1 : r < 36) : ∀ h, ((((⟨#[48, 49, 50, 51, 52, 53, 54, 55, 56, 57, 65, 66, 67, 68, 69, 70, 71, 72, 73, 74, 75, 76, 77, 78, 79, 80, 81, 82, 83, 84, 85, 86, 87, 88, 89, 90]⟩ : ByteArray)[r.toNat]'h).toNat : Nat) : Int) = dig r := by
  intro h
  obtain ⟨k, rfl⟩ := Int.eq_ofNat_of_zero_le h0
  exact alpha_digs ⟨k, by omega⟩
theorem alpha_at (r : Int) (h0 : 0 ≤ r) (h1 : r < 36) (w : World) :
    (Instr.index 9 (.string ⟨#[48, 49, 50, 51, 52, 53, 54, 55, 56, 57, 65, 66, 67, 68, 69, 70, 71, 72, 73, 74, 75, 76, 77, 78, 79, 80, 81, 82, 83, 84, 85, 86, 87, 88, 89, 90]⟩) (.int .i64 r)).run Try.prog w = .ok (.int .u8 (dig r)) w := by
  obtain ⟨k, rfl⟩ := Int.eq_ofNat_of_zero_le h0
  have hk : k < 36 := by omega
  clear h0 h1
  have hsz : alpha.size = 36 := rfl
  have key := alpha_digs
  show (Instr.index 9 (.string alpha) (.int .i64 (k : Int))).run Try.prog w = _
  rw [run_index_string w _ _ _ _ Try.underlying9, dif_pos ⟨by omega, by rw [hsz]; omega⟩]
  have := key ⟨k, hk⟩
  simp only [Int.toNat_natCast]
  simp only at this
  rw [this]
end Go.Proofs.Ytjioombinbngpaa
