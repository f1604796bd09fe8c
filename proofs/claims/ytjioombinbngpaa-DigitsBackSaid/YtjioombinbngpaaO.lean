/- Digits that are written, plainly. -/
import Derived.Test.YtjioombinbngpaaG
namespace Go.Proofs.Ytjioombinbngpaa
set_option linter.unusedVariables false
set_option linter.unusedSimpArgs false
open Go.RowKit

def dig (r : Int) : Int := if r < 10 then 48 + r else 55 + r
/-- The first k digits, the least first. -/
def digs (b N : Int) (k : Nat) : List Int := (List.range k).map fun j => dig (N / b ^ j % b)
/-- How many digits there are. -/
def cntD (b : Int) : Nat → Int → Nat
  | 0, _ => 1
  | f + 1, N => if N / b = 0 then 1 else 1 + cntD b f (N / b)
def txt (b N : Int) : List Int := (digs b N (cntD b 127 N)).reverse
theorem pow_pos' {b : Int} (hb : 0 < b) (k : Nat) : 0 < b ^ k := Int.pow_pos hb
theorem div_pow_succ (b N : Int) (hb : 0 < b) (k : Nat) : N / b ^ (k + 1) = N / b ^ k / b := by
  rw [Int.pow_succ, ediv_two _ _ _ (pow_pos' hb k) hb]
theorem two_pow_le (b : Int) (hb : 2 ≤ b) (k : Nat) : 2 ^ k ≤ b ^ k := by
  induction k with
  | zero => simp
  | succ k ih =>
    rw [Int.pow_succ, Int.pow_succ]
    have h0 : (0 : Int) < 2 ^ k := pow_pos' (by omega) k
    calc (2 : Int) ^ k * 2 ≤ b ^ k * 2 := by omega
      _ ≤ b ^ k * b := Int.mul_le_mul_of_nonneg_left hb (by omega)
theorem div_small (b N : Int) (hb : 2 ≤ b) (h0 : 0 ≤ N) (h1 : N < M2) : N / b ^ 128 = 0 := by
  have := two_pow_le b hb 128
  unfold M2 at h1
  exact Int.ediv_eq_zero_of_lt h0 (by omega)
/-- The count is the first power that is too large. -/
theorem cntD_is (b : Int) (hb : 0 < b) : ∀ (f : Nat) (N : Int) (n : Nat), n ≤ f + 1 → 1 ≤ n → (∀ j, 0 < j → j < n → ¬ N / b ^ j = 0) → N / b ^ n = 0 → cntD b f N = n := by
  intro f
  induction f with
  | zero => intro N n h1 h2 _ _; unfold cntD; omega
  | succ f ih =>
    intro N n h1 h2 hlo hhi
    unfold cntD
    by_cases hn : n = 1
    · subst hn
      rw [Int.pow_succ, Int.pow_zero, Int.one_mul] at hhi
      rw [if_pos hhi]
    · have h3 := hlo 1 (by omega) (by omega)
      rw [Int.pow_succ, Int.pow_zero, Int.one_mul] at h3
      rw [if_neg h3]
      have e : ∀ j, N / b / b ^ j = N / b ^ (j + 1) := fun j => by
        rw [Int.pow_succ, Int.mul_comm, ediv_two _ _ _ hb (pow_pos' hb j)]
      have := ih (N / b) (n - 1) (by omega) (by omega) (fun j hj hj' => by rw [e]; exact hlo (j + 1) (by omega) (by omega)) (by rw [e, Nat.sub_add_cancel h2]; exact hhi)
      omega
theorem txt_is (b N : Int) (hb : 0 < b) (n : Nat) (h1 : n ≤ 128) (h2 : 1 ≤ n) (hlo : ∀ j, 0 < j → j < n → ¬ N / b ^ j = 0) (hhi : N / b ^ n = 0) : txt b N = (digs b N n).reverse := by
  unfold txt
  rw [cntD_is b hb 127 N n (by omega) h2 hlo hhi]
theorem digs_length (b N : Int) (k : Nat) : (digs b N k).length = k := by unfold digs; simp
theorem digs_get (b N : Int) (k j : Nat) (h : j < k) : (digs b N k).getD j 0 = dig (N / b ^ j % b) := by
  unfold digs
  simp [List.getD_eq_getElem?_getD, List.getElem?_map, List.getElem?_range h]
theorem digs_rev_get (b N : Int) (k j : Nat) (h : j < k) : (digs b N k).reverse.getD j 0 = dig (N / b ^ (k - 1 - j) % b) := by
  rw [← digs_get b N k (k - 1 - j) (by omega)]
  have hl := digs_length b N k
  simp only [List.getD_eq_getElem?_getD]
  rw [List.getElem?_reverse (by omega), hl]
theorem dig_range (r : Int) (h0 : 0 ≤ r) (h1 : r < 36) : 0 ≤ dig r ∧ dig r < 256 := by unfold dig; split <;> omega
theorem digs_byt (b N : Int) (hb : 2 ≤ b) (hb1 : b ≤ 36) (k : Nat) : Byt (digs b N k) := by
  intro x hx
  unfold digs at hx
  simp only [List.mem_map, List.mem_range] at hx
  obtain ⟨j, _, rfl⟩ := hx
  have h0 := Int.emod_nonneg (N / b ^ j) (show b ≠ 0 by omega)
  have h1 := Int.emod_lt_of_pos (N / b ^ j) (show 0 < b by omega)
  exact dig_range _ h0 (by omega)
theorem txt_byt (b N : Int) (hb : 2 ≤ b) (hb1 : b ≤ 36) : Byt (txt b N) := by
  intro x hx
  exact digs_byt b N hb hb1 _ x (by unfold txt at hx; simpa using hx)
/-- One step of a division in words. -/
theorem div_words (h l b : Int) (hb : 2 ≤ b) (hb1 : b ≤ 36) (h0 : 0 ≤ h) (h1 : h < 18446744073709551616) (l0 : 0 ≤ l) (l1 : l < 18446744073709551616) (N : Int) (hN : N = h * 18446744073709551616 + l) :
    h / b * 18446744073709551616 + (h % b * 18446744073709551616 + l) / b = N / b ∧ (h % b * 18446744073709551616 + l) % b = N % b ∧ 0 ≤ (h % b * 18446744073709551616 + l) / b ∧ (h % b * 18446744073709551616 + l) / b < 18446744073709551616 := by
  have hr0 := Int.emod_nonneg h (show b ≠ 0 by omega)
  have hr1 := Int.emod_lt_of_pos h (show 0 < b by omega)
  have e := Int.mul_ediv_add_emod h b
  have e2 : N = (h % b * 18446744073709551616 + l) + h / b * 18446744073709551616 * b := by
    have : h / b * 18446744073709551616 * b = b * (h / b) * 18446744073709551616 := by rw [Int.mul_right_comm, Int.mul_comm (h / b) b]
    rw [hN, this]; omega
  refine ⟨?_, ?_, Int.ediv_nonneg (by omega) (by omega), ?_⟩
  · rw [e2, Int.add_mul_ediv_right _ _ (show b ≠ 0 by omega)]; omega
  · rw [e2, Int.add_mul_emod_self_right]
  · apply Int.ediv_lt_of_lt_mul (by omega)
    have : (h % b) * 18446744073709551616 + l < b * 18446744073709551616 := by omega
    omega
end Go.Proofs.Ytjioombinbngpaa
