/- Floats as exact numbers, rounded once: plainly (7). -/
import Derived.Test.YtecgkhijiogggaaS6
namespace Go.Proofs.Ytecgkhijiogggaa.SF
set_option linter.unusedVariables false
set_option linter.unusedSimpArgs false

theorem mod_top (m d : Nat) : m % 2 ^ (d + 1) = m / 2 ^ d % 2 * 2 ^ d + m % 2 ^ d ∧ m / 2 ^ (d + 1) = m / 2 ^ d / 2 := by
  constructor
  · rw [Nat.pow_succ, Nat.mod_mul, Nat.mul_comm (2 ^ d), Nat.add_comm]
  · rw [Nat.pow_succ, Nat.div_div_eq_div_mul]
/-- By the digit behind the last one. -/
theorem rne_half (m d : Nat) (rest : Bool) : rne m (d + 1) rest = if m / 2 ^ d % 2 = 1 ∧ (m % 2 ^ d ≠ 0 ∨ rest = true ∨ m / 2 ^ (d + 1) % 2 = 1) then m / 2 ^ (d + 1) + 1 else m / 2 ^ (d + 1) := by
  obtain ⟨h1, h2⟩ := mod_top m d
  unfold rne
  have hl := Nat.mod_lt m (pow_pos d)
  rw [h1]
  obtain ⟨b, hb⟩ : ∃ b, m / 2 ^ d % 2 = b := ⟨_, rfl⟩
  have hb2 : b < 2 := by rw [← hb]; exact Nat.mod_lt _ (by decide)
  obtain ⟨r, hr⟩ : ∃ r, m % 2 ^ d = r := ⟨_, rfl⟩
  obtain ⟨H, hH⟩ : ∃ H, 2 ^ d = H := ⟨_, rfl⟩
  obtain ⟨n, hn⟩ : ∃ n, m / 2 ^ (d + 1) = n := ⟨_, rfl⟩
  rw [hr, hH] at hl
  rw [hb, hr, hH, hn, show 2 ^ (d + 1) = 2 * H by rw [← hH, Nat.pow_succ]; omega]
  have key : (2 * H < 2 * (b * H + r) ∨ 2 * (b * H + r) = 2 * H ∧ (rest = true ∨ n % 2 = 1)) ↔ (b = 1 ∧ (r ≠ 0 ∨ rest = true ∨ n % 2 = 1)) := by
    rcases (show b = 0 ∨ b = 1 by omega) with rfl | rfl
    · constructor
      · rintro (h | ⟨h, _⟩) <;> omega
      · rintro ⟨h, _⟩; omega
    · constructor
      · rintro (h | ⟨h, g⟩)
        · exact ⟨rfl, .inl (by omega)⟩
        · exact ⟨rfl, .inr g⟩
      · rintro ⟨_, h⟩
        by_cases c : r = 0
        · rcases h with h | h
          · exact absurd c h
          · exact .inr ⟨by omega, h⟩
        · exact .inl (by omega)
  by_cases k : (2 * H < 2 * (b * H + r) ∨ 2 * (b * H + r) = 2 * H ∧ (rest = true ∨ n % 2 = 1))
  · rw [if_pos k, if_pos (key.1 k)]
  · rw [if_neg k, if_neg (fun g => k (key.2 g))]
/-- The integer of a float: when it is too great. -/
theorem toM_big {t : Nat} (h1 : 0 ≤ se t) : (170141183460469231731687303715884105728 ≤ toM t ↔ (sm t ≠ 0 ∧ 128 ≤ (bl (sm t) : Int) + se t)) ∧ (toM t = 170141183460469231731687303715884105728 ↔ (sm t = 4503599627370496 ∧ se t = 75)) := by
  have e : toM t = sm t * 2 ^ (se t).toNat := by unfold toM; rw [if_pos h1]
  have P127 : (2 : Nat) ^ 127 = 170141183460469231731687303715884105728 := by decide
  rw [e]
  by_cases z : sm t = 0
  · rw [z]; simp
  have hb := bl_mul (se t).toNat z
  constructor
  · constructor
    · intro h
      refine ⟨z, ?_⟩
      have := lt_bl_of_le (k := 127) (by rw [P127]; exact h)
      omega
    · rintro ⟨_, h⟩
      rw [← P127]
      have g := bl_le (Nat.mul_ne_zero z (show 2 ^ (se t).toNat ≠ 0 by have := pow_pos (se t).toNat; omega))
      exact Nat.le_trans (pow_le (by omega)) g
  · have hl := sm_lt t
    have hn := sm_norm (a := t) (by omega)
    constructor
    · intro h
      have b1 : bl (sm t) = 53 := by
        have : bl (sm t) ≤ 53 := bl_le_of_lt (k := 53) hl
        have : 52 < bl (sm t) := lt_bl_of_le (k := 52) hn
        omega
      have b2 : bl (sm t * 2 ^ (se t).toNat) = 128 := by rw [h]; decide
      have e75 : (se t).toNat = 75 := by omega
      rw [e75] at h
      refine ⟨?_, by omega⟩
      have : 4503599627370496 * 2 ^ 75 = 170141183460469231731687303715884105728 := by decide
      rw [← this] at h
      exact Nat.eq_of_mul_eq_mul_right (pow_pos 75) h
    · rintro ⟨h, g⟩
      rw [h, g]
      decide
theorem toM_small {t : Nat} (h1 : se t < 0) : toM t = sm t / 2 ^ (min (-se t) 63).toNat ∧ toM t < 9007199254740992 := by
  have e : toM t = sm t / 2 ^ (-se t).toNat := by unfold toM; rw [if_neg (by omega)]
  have hl := sm_lt t
  constructor
  · rw [e]
    by_cases c : -se t ≤ 63
    · rw [show min (-se t) 63 = -se t by omega]
    · rw [show min (-se t) 63 = 63 by omega]
      have : sm t < 2 ^ 63 := by have : (2 : Nat) ^ 63 = 9223372036854775808 := by decide
                                 omega
      have : sm t < 2 ^ (-se t).toNat := Nat.lt_of_lt_of_le this (pow_le (by omega))
      rw [Nat.div_eq_of_lt this, Nat.div_eq_of_lt (by assumption)]
  · rw [e]
    exact Nat.lt_of_le_of_lt (Nat.div_le_self _ _) hl
/-- The most and the least 128 digits. -/
theorem make_top (V n : Nat) (e : Int) (hb : bl V = 128 + n) : pat V e false = pat (V / 2 ^ n) (e + n) (decide (V % 2 ^ n ≠ 0)) := by
  have h := Nat.div_add_mod V (2 ^ n)
  rw [Nat.mul_comm] at h
  have hv : V ≠ 0 := by intro c; subst c; rw [bl_zero] at hb; omega
  have big : 2 ^ 127 ≤ V / 2 ^ n := by
    rw [Nat.le_div_iff_mul_le (pow_pos n), ← Nat.pow_add]
    have := bl_le hv
    rw [hb] at this
    exact Nat.le_trans (pow_le (by omega)) this
  have := pat_sticky (V / 2 ^ n) n (V % 2 ^ n) (e + n) e (Nat.le_trans (by decide) big) (Nat.mod_lt _ (pow_pos n)) (by omega)
  rw [h] at this
  exact this
end Go.Proofs.Ytecgkhijiogggaa.SF
