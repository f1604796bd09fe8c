/- A character read as it was written, plainly; what is left of any bytes, plainly. -/
import Derived.Test.YtpkfkipnagajkaaDoorI
namespace Go.Proofs.YtpkfkipnagajkaaDoor
set_option linter.unusedVariables false
set_option linter.unusedSimpArgs false
open Go.RowKit

theorem gar_above (l : List Int) : ∀ k i, gar l k < i → i ≤ k → bkT (l.take i) ≠ 0
  | 0, i, h, g => by omega
  | k + 1, i, h, g => by
    unfold gar at h
    by_cases c : bkT (l.take (k + 1)) = 0
    · rw [if_pos c] at h; omega
    · rw [if_neg c] at h
      by_cases e : i = k + 1
      · subst e; exact c
      · exact gar_above l k i h (by omega)
theorem gar_at (l : List Int) : ∀ k, gar l k ≠ 0 → bkT (l.take (gar l k)) = 0
  | 0, h => absurd rfl h
  | k + 1, h => by
    unfold gar at h ⊢
    by_cases c : bkT (l.take (k + 1)) = 0
    · rw [if_pos c]; exact c
    · rw [if_neg c] at h ⊢; exact gar_at l k h
theorem bkT_nil : bkT [] = -77 := by decide
theorem gar_whole (l : List Int) (h : bkT l = 0) : gar l l.length = l.length := by
  have hne : l.length ≠ 0 := fun g => by rw [List.eq_nil_of_length_eq_zero g, bkT_nil] at h; cases h
  obtain ⟨k, hk⟩ : ∃ k, l.length = k + 1 := ⟨l.length - 1, by omega⟩
  rw [hk]
  unfold gar
  rw [← hk, List.take_length, if_pos h]
/-- The four forms of a character. -/
theorem enc_forms {u : Int} (h : isC u = true) :
    (0 ≤ u ∧ u < 128 ∧ enc u = [u]) ∨ (128 ≤ u ∧ u < 2048 ∧ enc u = [192 + u / 64, 128 + u % 64]) ∨
    (2048 ≤ u ∧ u < 65536 ∧ ¬ (55296 ≤ u ∧ u ≤ 57343) ∧ enc u = [224 + u / 4096, 128 + u / 64 % 64, 128 + u % 64]) ∨
    (65536 ≤ u ∧ u ≤ 1114111 ∧ enc u = [240 + u / 262144, 128 + u / 4096 % 64, 128 + u / 64 % 64, 128 + u % 64]) := by
  have b := isC_iff h
  unfold enc
  rw [if_pos h]
  unfold Lib.encodeRuneZ
  by_cases h1 : u < 128
  · left; rw [if_pos (by omega)]; exact ⟨by omega, h1, rfl⟩
  by_cases h2 : u < 2048
  · right; left; rw [if_neg (by omega), if_pos (by omega)]; exact ⟨by omega, h2, rfl⟩
  by_cases h3 : u < 65536
  · right; right; left; rw [if_neg (by omega), if_neg (by omega), if_pos (by omega)]; exact ⟨by omega, h3, b.2.2, rfl⟩
  · right; right; right; rw [if_neg (by omega), if_neg (by omega), if_neg (by omega), if_pos (by omega)]; exact ⟨by omega, b.2.1, rfl⟩
theorem dec_cons1 (a : Int) (t : List Int) (h : a < 128) : dec (a :: t) = (a, 1) := by
  unfold dec D4
  rw [if_neg (by simp), if_pos (by simpa using h)]
  rfl
theorem dec_cons2 (a b : Int) (t : List Int) (h : ok2 2 a b) : dec (a :: b :: t) = (u2 a b, 2) := by
  unfold ok2 at h
  unfold dec D4
  simp only [List.length_cons, List.getD_cons_zero, List.getD_cons_succ]
  rw [if_neg (by omega), if_neg (by omega), if_pos (show ok2 (t.length + 1 + 1) a b by unfold ok2; exact ⟨h.1, h.2.1, by omega, h.2.2.2⟩)]
theorem dec_cons3 (a b c : Int) (t : List Int) (h : ok3 3 a b c) : dec (a :: b :: c :: t) = (u3 a b c, 3) := by
  unfold ok3 at h
  unfold dec D4
  simp only [List.length_cons, List.getD_cons_zero, List.getD_cons_succ]
  rw [if_neg (by omega), if_neg (by omega), if_neg (fun g : ok2 _ a b => by unfold ok2 at g; omega), if_pos (show ok3 (t.length + 1 + 1 + 1) a b c by unfold ok3; exact ⟨h.1, h.2.1, by omega, h.2.2.2⟩)]
theorem dec_cons4 (a b c d : Int) (t : List Int) (h : ok4 4 a b c d) : dec (a :: b :: c :: d :: t) = (u4 a b c d, 4) := by
  unfold ok4 at h
  unfold dec D4
  simp only [List.length_cons, List.getD_cons_zero, List.getD_cons_succ]
  rw [if_neg (by omega), if_neg (by omega), if_neg (fun g : ok2 _ a b => by unfold ok2 at g; omega), if_neg (fun g : ok3 _ a b c => by unfold ok3 at g; omega), if_pos (show ok4 (t.length + 1 + 1 + 1 + 1) a b c d by unfold ok4; exact ⟨h.1, h.2.1, by omega, h.2.2.2⟩)]
theorem dec_co (a : Int) (t : List Int) (h : co a) : (dec (a :: t)).2 = 0 := by
  unfold co at h
  unfold dec D4
  simp only [List.length_cons, List.getD_cons_zero]
  rw [if_neg (by omega), if_neg (by omega), if_neg (fun g => by unfold ok2 at g; omega), if_neg (fun g => by unfold ok3 at g; omega), if_neg (fun g => by unfold ok4 at g; omega)]
theorem bkAt_app (x E : List Int) (h : (dec E).2 = E.length) : bkAt (x ++ E) E.length := by
  unfold bkAt
  rw [List.length_append]
  refine ⟨by omega, ?_⟩
  rw [show x.length + E.length - E.length = x.length by omega, List.drop_left]
  exact h
theorem bkAt_no (x A : List Int) (a : Int) (T : List Int) (h : co a) : ¬ bkAt (x ++ (A ++ a :: T)) (T.length + 1) := by
  unfold bkAt
  rintro ⟨_, h2⟩
  rw [show (x ++ (A ++ a :: T)).length - (T.length + 1) = (x ++ A).length by simp; omega, ← List.append_assoc, List.drop_left, dec_co a T h] at h2
  omega
/-- All that is needed of a written character. -/
theorem enc_all {u : Int} (h : isC u = true) (x t : List Int) :
    1 ≤ (enc u).length ∧ (enc u).length ≤ 4 ∧ dec (enc u ++ t) = (u, ((enc u).length : Int)) ∧ decT (enc u ++ t) = 0 ∧ bkN (x ++ enc u) = (enc u).length ∧ bkT (x ++ enc u) = 0 ∧ szN ((enc u).getD 0 0) = (enc u).length ∧ szT ((enc u).getD 0 0) = 0 ∧ wd u = (enc u).length := by
  have key : ∀ E : List Int, 1 ≤ E.length → E.length ≤ 4 → (∀ t, dec (E ++ t) = (u, (E.length : Int))) → (∀ j, 1 ≤ j → j < E.length → ¬ bkAt (x ++ E) j) → szN (E.getD 0 0) = E.length → szT (E.getD 0 0) = 0 → wd u = E.length →
      1 ≤ E.length ∧ E.length ≤ 4 ∧ dec (E ++ t) = (u, (E.length : Int)) ∧ decT (E ++ t) = 0 ∧ bkN (x ++ E) = E.length ∧ bkT (x ++ E) = 0 ∧ szN (E.getD 0 0) = E.length ∧ szT (E.getD 0 0) = 0 ∧ wd u = E.length := by
    intro E h1 h2 h3 h4 h5 h6 h7
    have b1 : bkN (x ++ E) = E.length := bkN_is _ _ ⟨h1, h2⟩ (bkAt_app x E (by have := h3 []; rw [List.append_nil] at this; rw [this])) h4
    exact ⟨h1, h2, h3 t, by unfold decT; rw [h3 t, if_neg (by simp only; omega)], b1, by unfold bkT; rw [b1, if_neg (by omega)], h5, h6, h7⟩
  have hw : ∀ n : Int, (if u < 128 then 1 else if u < 2048 then 2 else if u < 65536 then 3 else 4) = n → wd u = n := fun n e => by unfold wd; rw [if_pos h]; exact e
  rcases enc_forms h with ⟨a, b, e⟩ | ⟨a, b, e⟩ | ⟨a, b, c, e⟩ | ⟨a, b, e⟩ <;> rw [e]
  · refine key [u] (by simp) (by simp) (fun t => dec_cons1 u t b) (fun j h1 h2 => by simp at h2; omega) ?_ ?_ (hw _ (by rw [if_pos b]; rfl))
    · unfold szN; simp only [List.getD_cons_zero]; rw [if_pos b]; rfl
    · unfold szT; simp only [List.getD_cons_zero]; rw [if_pos b]
  · refine key _ (by simp) (by simp) (fun t => ?_) (fun j h1 h2 => ?_) ?_ ?_ (hw _ (by rw [if_neg (by omega), if_pos b]; rfl))
    · have := dec_cons2 (192 + u / 64) (128 + u % 64) t (by unfold ok2 co u2; omega)
      rw [show u2 (192 + u / 64) (128 + u % 64) = u by unfold u2; omega] at this
      exact this
    · simp at h2
      have : j = 1 := by omega
      subst this
      exact bkAt_no x [192 + u / 64] (128 + u % 64) [] (by unfold co; omega)
    · unfold szN; simp only [List.getD_cons_zero]; rw [if_neg (by omega), if_neg (by omega), if_pos (by omega)]; rfl
    · unfold szT; simp only [List.getD_cons_zero]; rw [if_neg (by omega), if_neg (by omega), if_pos (by omega)]
  · refine key _ (by simp) (by simp) (fun t => ?_) (fun j h1 h2 => ?_) ?_ ?_ (hw _ (by rw [if_neg (by omega), if_neg (by omega), if_pos b]; rfl))
    · have e3 : u3 (224 + u / 4096) (128 + u / 64 % 64) (128 + u % 64) = u := by unfold u3; omega
      have := dec_cons3 (224 + u / 4096) (128 + u / 64 % 64) (128 + u % 64) t (by unfold ok3 co; rw [e3]; omega)
      rw [e3] at this
      exact this
    · simp at h2
      rcases (show j = 1 ∨ j = 2 by omega) with rfl | rfl
      · exact bkAt_no x [224 + u / 4096, 128 + u / 64 % 64] (128 + u % 64) [] (by unfold co; omega)
      · exact bkAt_no x [224 + u / 4096] (128 + u / 64 % 64) [128 + u % 64] (by unfold co; omega)
    · unfold szN; simp only [List.getD_cons_zero]; rw [if_neg (by omega), if_neg (by omega), if_neg (by omega), if_pos (by omega)]; rfl
    · unfold szT; simp only [List.getD_cons_zero]; rw [if_neg (by omega), if_neg (by omega), if_pos (by omega)]
  · refine key _ (by simp) (by simp) (fun t => ?_) (fun j h1 h2 => ?_) ?_ ?_ (hw _ (by rw [if_neg (by omega), if_neg (by omega), if_neg (by omega)]; rfl))
    · have e4 : u4 (240 + u / 262144) (128 + u / 4096 % 64) (128 + u / 64 % 64) (128 + u % 64) = u := by unfold u4; omega
      have := dec_cons4 (240 + u / 262144) (128 + u / 4096 % 64) (128 + u / 64 % 64) (128 + u % 64) t (by unfold ok4 co; rw [e4]; omega)
      rw [e4] at this
      exact this
    · simp at h2
      rcases (show j = 1 ∨ j = 2 ∨ j = 3 by omega) with rfl | rfl | rfl
      · exact bkAt_no x [240 + u / 262144, 128 + u / 4096 % 64, 128 + u / 64 % 64] (128 + u % 64) [] (by unfold co; omega)
      · exact bkAt_no x [240 + u / 262144, 128 + u / 4096 % 64] (128 + u / 64 % 64) [128 + u % 64] (by unfold co; omega)
      · exact bkAt_no x [240 + u / 262144] (128 + u / 4096 % 64) [128 + u / 64 % 64, 128 + u % 64] (by unfold co; omega)
    · unfold szN; simp only [List.getD_cons_zero]; rw [if_neg (by omega), if_neg (by omega), if_neg (by omega), if_neg (by omega), if_pos (by omega)]; rfl
    · unfold szT; simp only [List.getD_cons_zero]; rw [if_neg (by omega), if_neg (by omega), if_pos (by omega)]
end Go.Proofs.YtpkfkipnagajkaaDoor
