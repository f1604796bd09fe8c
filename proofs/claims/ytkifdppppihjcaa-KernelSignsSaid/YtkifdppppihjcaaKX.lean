/- Texts KX, for this seat. -/
import Derived.Test.YtkifdppppihjcaaKL
namespace Go.Proofs.Ytkifdppppihjcaa.SF
set_option linter.unusedVariables false
set_option linter.unusedSimpArgs false

theorem mag_absV {y : Nat} (h : nan y = false) : absV y = mag y := by unfold absV; rw [h]; rfl
theorem mag_mag (y : Nat) : mag (mag y) = mag y := by unfold mag; omega
theorem ng_mag (y : Nat) : ng (mag y) = false := by unfold ng; exact decide_eq_false (by have := mag_lt y; omega)
theorem nanOf_mag (y : Nat) : nan (mag y) = nan y := by unfold nan; rw [mag_mag]
theorem toLo_small {a q : Nat} (h1 : nan a = false) (h2 : inf a = false) (hq : q ≤ 67108864) (ht : wholeV 0 a = pat q 0 false) : toLo a = q := by
  have key : toM (pat q 0 false) = q ∧ ng (pat q 0 false) = false := by
    by_cases h0 : q = 0
    · subst h0; rw [pat_zero]; exact ⟨toM_zero, by decide⟩
    · have a1 := toM_whole false h0 hq
      have a2 := (nf_whole false h0 hq).ng
      rw [show ∀ z, sg false z = z from fun _ => rfl] at a1 a2
      exact ⟨a1, a2⟩
  unfold toLo toFail toBad toI
  rw [h1, h2, ht, key.1, key.2]
  rw [show decide (170141183460469231731687303715884105728 ≤ q) = false from decide_eq_false (by omega)]
  simp only [Bool.false_or, Bool.false_and, Bool.false_eq_true, if_false]
  unfold wr; omega
theorem cell_range {y : Nat} (h : nan y = false) (g : belowV (ofV 1024) (absV y) = false) : 0 ≤ toLo (absV y) ∧ toLo (absV y) ≤ 100000 := by
  rw [mag_absV h] at g ⊢
  have hn : nan (mag y) = false := by rw [nanOf_mag]; exact h
  have hm : mag y ≤ 4652218415073722368 := by
    unfold belowV okV cmpV cmpI ordV at g
    rw [show ofV 1024 = 4652218415073722368 by decide, hn, show nan 4652218415073722368 = false by decide, show ng 4652218415073722368 = false by decide, ng_mag, mag_mag, show mag 4652218415073722368 = 4652218415073722368 by decide] at g
    simp at g
    split at g
    · exact absurd g (by decide)
    · omega
  have hi : inf (mag y) = false := by unfold inf; rw [mag_mag]; exact decide_eq_false (by omega)
  by_cases hz : zer (mag y) = true
  · have e : mag y = 0 := by unfold zer at hz; rw [mag_mag] at hz; exact of_decide_eq_true hz
    rw [e]; unfold toLo; rw [zero_facts.2.2.2.1, zero_facts.2.2.2.2.1]; decide
  · have hz := Bool.eq_false_iff.2 hz
    have se1 : se (mag y) ≤ -42 := by unfold se ex; rw [mag_mag]; split <;> omega
    have ht : wholeV 0 (mag y) = pat (sm (mag y) / 2 ^ (-se (mag y)).toNat) 0 false := by
      unfold wholeV wq
      rw [hn, hi, hz, ng_mag, if_neg (show ¬ 0 ≤ se (mag y) by omega)]
      simp [sg]
    have hq : sm (mag y) / 2 ^ (-se (mag y)).toNat ≤ 2048 := by
      have h1 := sm_lt (mag y)
      have h2 : 2 ^ 42 ≤ 2 ^ (-se (mag y)).toNat := pow_le (by omega)
      have h3 : sm (mag y) / 2 ^ (-se (mag y)).toNat ≤ sm (mag y) / 2 ^ 42 := Nat.div_le_div_left h2 (by decide)
      have : sm (mag y) / 2 ^ 42 ≤ 2048 := by omega
      omega
    obtain ⟨q, hqq⟩ : ∃ q, sm (mag y) / 2 ^ (-se (mag y)).toNat = q := ⟨_, rfl⟩
    rw [hqq] at ht hq
    rw [toLo_small hn hi (by omega) ht]
    omega
theorem neg_nan {x : Nat} (h : nan x = true) : negV x = NaN := by unfold negV; rw [if_pos h]
theorem neg_neg {x : Nat} (hx : W x) (h : nan x = false) : negV (negV x) = x := by
  have h2 : nan (negV x) = false := by unfold nan at h ⊢; rw [negV_mag (by unfold nan; exact h)]; exact h
  rw [negV_ok h2, negV_mag h, negV_ng h, Bool.not_not]
  exact sg_mag hx
theorem add_nan {a b : Nat} (h : nan a = true) : addV a b = NaN := by unfold addV; rw [h]; rfl
