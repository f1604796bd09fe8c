/- Written and read back, plainly. -/
import Derived.Test.YtjioombinbngpaaX
namespace Go.Proofs.Ytjioombinbngpaa
set_option linter.unusedVariables false
set_option linter.unusedSimpArgs false
open Go.RowKit

theorem emod_step (N P b : Int) (hP : 0 < P) (hb : 0 < b) : N % (P * b) = (N / P % b) * P + N % P := by
  have e1 := Int.mul_ediv_add_emod N P
  have e2 := Int.mul_ediv_add_emod (N / P) b
  have h0 := Int.emod_nonneg N (show P ≠ 0 by omega)
  have h1 := Int.emod_lt_of_pos N hP
  have g0 := Int.emod_nonneg (N / P) (show b ≠ 0 by omega)
  have g1 := Int.emod_lt_of_pos (N / P) hb
  refine (ediv_of (q := N / P / b) (Int.mul_pos hP hb) ?_ ?_ ?_).2
  · have : N / P / b * (P * b) = P * (b * (N / P / b)) := by rw [Int.mul_comm, Int.mul_assoc]
    rw [this]
    have e3 : P * (N / P) = P * (b * (N / P / b)) + P * (N / P % b) := by rw [← Int.mul_add, e2]
    rw [Int.mul_comm (N / P % b) P]
    omega
  · have := Int.mul_nonneg g0 (Int.le_of_lt hP); omega
  · have h2 : (N / P % b) * P ≤ (b - 1) * P := Int.mul_le_mul_of_nonneg_right (by omega) (Int.le_of_lt hP)
    have h3 : (b - 1) * P = P * b - P := by rw [Int.sub_mul, Int.one_mul, Int.mul_comm]
    omega
theorem dv_dig (r b : Int) (hb : 2 ≤ b) (hb1 : b ≤ 36) (h0 : 0 ≤ r) (h1 : r < b) : dv (dig r) b = r := by
  have e : (if 48 ≤ dig r ∧ dig r ≤ 57 then dig r - 48 else if 65 ≤ dig r ∧ dig r ≤ 90 then dig r - 55 else if 97 ≤ dig r ∧ dig r ≤ 122 then dig r - 87 else 99) = r := by
    unfold dig
    by_cases h : r < 10
    · rw [if_pos h, if_pos (by omega)]; omega
    · rw [if_neg h, if_neg (by omega), if_pos (by omega)]; omega
  unfold dv
  rw [e, if_neg (by omega), if_neg (by omega)]
theorem moN_digs (b N : Int) (hb : 2 ≤ b) (hb1 : b ≤ 36) (h0 : 0 ≤ N) : ∀ (k : Nat) (A : Int), 0 ≤ A → A * b ^ k + N % b ^ k < M2 → moN b A (digs b N k).reverse = A * b ^ k + N % b ^ k ∧ moU b (digs b N k).reverse = k := by
  intro k
  induction k with
  | zero => intro A hA h; simp [digs, moN, moU]
  | succ k ih =>
    intro A hA h
    have hp : (0 : Int) < b ^ k := pow_pos' (by omega) k
    have d0 := Int.emod_nonneg (N / b ^ k) (show b ≠ 0 by omega)
    have d1 := Int.emod_lt_of_pos (N / b ^ k) (show 0 < b by omega)
    have m0 := Int.emod_nonneg N (show b ^ k ≠ 0 by omega)
    rw [digs_succ, List.reverse_append, List.reverse_singleton, List.singleton_append]
    have es := emod_step N (b ^ k) b hp (by omega)
    have ep : b ^ (k + 1) = b ^ k * b := Int.pow_succ _ _
    rw [ep, es] at h ⊢
    have ea : (A * b + N / b ^ k % b) * b ^ k = A * (b ^ k * b) + N / b ^ k % b * b ^ k := by
      rw [Int.add_mul, Int.mul_assoc, Int.mul_comm b (b ^ k)]
    have ab0 : 0 ≤ A * b + N / b ^ k % b := by have := Int.mul_nonneg hA (show 0 ≤ b by omega); omega
    have le1 : A * b + N / b ^ k % b ≤ (A * b + N / b ^ k % b) * b ^ k := by
      have := Int.mul_le_mul_of_nonneg_left (show (1 : Int) ≤ b ^ k by omega) ab0
      omega
    have hlt : A * b + N / b ^ k % b < M2 := by omega
    have em : (A * b + N / b ^ k % b) % M2 = A * b + N / b ^ k % b := Int.emod_eq_of_lt ab0 hlt
    have := ih (A * b + N / b ^ k % b) ab0 (by omega)
    simp only [moN, moU, dv_dig _ b hb hb1 d0 d1]
    rw [if_neg (by omega), if_neg (by omega), em, this.1, this.2]
    exact ⟨by omega, by push_cast; omega⟩
theorem cntD_spec (b : Int) (hb : 2 ≤ b) : ∀ (f : Nat) (N : Int), N / b ^ (f + 1) = 0 → 1 ≤ cntD b f N ∧ cntD b f N ≤ f + 1 ∧ N / b ^ (cntD b f N) = 0 := by
  intro f
  induction f with
  | zero => intro N h; simp [cntD]; simpa using h
  | succ f ih =>
    intro N h
    unfold cntD
    split
    · rename_i h1
      exact ⟨by omega, by omega, by rw [Int.pow_succ, Int.pow_zero, Int.one_mul]; exact h1⟩
    · have e : N / b / b ^ (f + 1) = 0 := by rw [← ediv_two _ _ _ (by omega) (pow_pos' (by omega) _), Int.mul_comm, ← Int.pow_succ]; exact h
      have := ih (N / b) e
      refine ⟨by omega, by omega, ?_⟩
      have e2 : N / b ^ (1 + cntD b f (N / b)) = N / b / b ^ (cntD b f (N / b)) := by
        rw [Nat.add_comm, Int.pow_succ, Int.mul_comm, ediv_two _ _ _ (by omega) (pow_pos' (by omega) _)]
      rw [e2]; exact this.2.2
/-- All that is needed of a written number. -/
theorem txt_all (b N : Int) (hb : 2 ≤ b) (hb1 : b ≤ 36) (h0 : 0 ≤ N) (h1 : N < M2) :
    1 ≤ (txt b N).length ∧ (txt b N).length ≤ 128 ∧ moN b 0 (txt b N) = N ∧ moU b (txt b N) = (txt b N).length ∧ (∀ x ∈ txt b N, 48 ≤ x ∧ x ≤ 90) := by
  obtain ⟨c1, c2, c3⟩ := cntD_spec b hb 127 N (div_small b N hb h0 h1)
  unfold txt
  have hl : (digs b N (cntD b 127 N)).reverse.length = cntD b 127 N := by rw [List.length_reverse, digs_length]
  have hp : (0 : Int) < b ^ (cntD b 127 N) := pow_pos' (by omega) _
  have hm : N % b ^ (cntD b 127 N) = N := by
    have := Int.mul_ediv_add_emod N (b ^ (cntD b 127 N))
    rw [c3] at this; omega
  have md := moN_digs b N hb hb1 h0 (cntD b 127 N) 0 (Int.le_refl 0) (by rw [hm]; omega)
  refine ⟨by omega, by omega, by rw [md.1, hm]; omega, by rw [md.2, hl], fun x hx => ?_⟩
  rw [List.mem_reverse] at hx
  unfold digs at hx
  simp only [List.mem_map, List.mem_range] at hx
  obtain ⟨j, _, rfl⟩ := hx
  have d0 := Int.emod_nonneg (N / b ^ j) (show b ≠ 0 by omega)
  have d1 := Int.emod_lt_of_pos (N / b ^ j) (show 0 < b by omega)
  unfold dig; split <;> omega
theorem pnum_txt (b N : Int) (T : List Int) (h1 : 1 ≤ T.length) (hn : moN b 0 T = N) (hu : moU b T = T.length) (hx : ∀ x ∈ T, 48 ≤ x ∧ x ≤ 90) :
    pnum T b = .agg #[.int .i64 1, .int .i64 (dlo N), .int .i64 0] ∧ pnum (T ++ [46]) b = .agg #[.int .i64 2, .int .i64 (dlo N), .int .i64 (dhi N)] := by
  cases T with
  | nil => simp at h1
  | cons x t =>
    have bx := hx x (by simp)
    have p1 : ∀ l, prefS (x :: l) = x :: l := fun l => by simp only [prefS]; rw [if_neg (by omega)]
    have p2 : ∀ l, prefB b (x :: l) = b := fun l => by simp only [prefB]; rw [if_neg (by omega), if_neg (by omega), if_neg (by omega)]
    have p3 : ∀ l, cutPb 45 (x :: l) = false := fun l => by simp only [cutPb]; exact decide_eq_false (by omega)
    have p4 : ∀ l, cutP 45 (x :: l) = x :: l := fun l => by simp only [cutP]; rw [if_neg (by omega)]
    have q : ∀ l : List Int, ¬ ((x :: l).length = 3 ∧ (x :: l).getD 0 0 = 39 ∧ (x :: l).getD 2 0 = 39) := fun l h => by
      have := h.2.1; simp only [List.getD_cons_zero] at this; omega
    have hne : ¬ (x :: t).getLast? = some 46 := by
      intro h
      have := hx 46 (List.mem_of_getLast? h)
      omega
    have hlen : ¬ ((x :: t).length : Int) = 0 := by simp; omega
    constructor
    · unfold pnum
      rw [if_neg (q t), p1, p2, p3, p4]
      have e1 : cutSb 46 (x :: t) = false := by unfold cutSb; simpa using hne
      have e2 : cutS 46 (x :: t) = x :: t := by unfold cutS; rw [if_neg hne]
      rw [e1, e2, pk_pkv, hu, hn]
      exact pkv_one (neg := false) hlen (Int.le_refl _) rfl
    · unfold pnum
      rw [List.cons_append, if_neg (q (t ++ [46])), p1, p2, p3, p4]
      have e1 : cutSb 46 (x :: (t ++ [46])) = true := by rw [← List.cons_append, cutSb_snoc]; rfl
      have e2 : cutS 46 (x :: (t ++ [46])) = x :: t := by unfold cutS; rw [← List.cons_append, List.getLast?_append, List.dropLast_concat]; simp
      rw [e1, e2, pk_pkv, hu, hn]
      exact pkv_dbl (neg := false) hlen (Int.le_refl _) rfl rfl
end Go.Proofs.Ytjioombinbngpaa
