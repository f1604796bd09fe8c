/- Digits, plainly: values, numbers that are read, numbers that are written. -/
import Derived.Test.YtjioombinbngpaaP3
import Derived.Test.YtjioombinbngpaaK
namespace Go.Proofs.Ytjioombinbngpaa
set_option linter.unusedVariables false
set_option linter.unusedSimpArgs false
open Go.RowKit

/-- The value of a byte. -/
def dv (c b : Int) : Int :=
  if b < 2 ∨ 36 < b then -1
  else if (if 48 ≤ c ∧ c ≤ 57 then c - 48 else if 65 ≤ c ∧ c ≤ 90 then c - 55 else if 97 ≤ c ∧ c ≤ 122 then c - 87 else 99) ≥ b then -1
  else (if 48 ≤ c ∧ c ≤ 57 then c - 48 else if 65 ≤ c ∧ c ≤ 90 then c - 55 else if 97 ≤ c ∧ c ≤ 122 then c - 87 else 99)
theorem dv_range (c b : Int) (h0 : 0 ≤ c) : -1 ≤ dv c b ∧ dv c b ≤ 35 ∧ (0 ≤ dv c b → 2 ≤ b ∧ b ≤ 36 ∧ dv c b < b) := by
  unfold dv
  split
  · omega
  · split <;> omega
def M2 : Int := 340282366920938463463374607431768211456
/-- Digits are added to a double, as far as there are some; how many there are. -/
def moN (b : Int) : Int → List Int → Int
  | N, [] => N
  | N, c :: l => if dv c b < 0 then N else moN b ((N * b + dv c b) % M2) l
def moU (b : Int) : List Int → Int
  | [] => 0
  | c :: l => if dv c b < 0 then 0 else 1 + moU b l
theorem moU_range (b : Int) (l : List Int) : 0 ≤ moU b l ∧ moU b l ≤ l.length := by
  induction l with
  | nil => simp [moU]
  | cons c l ih =>
    unfold moU
    split
    · simp; omega
    · simp; omega
theorem moN_range (b : Int) (l : List Int) : ∀ N, 0 ≤ N → N < M2 → 0 ≤ moN b N l ∧ moN b N l < M2 := by
  induction l with
  | nil => intro N h0 h1; exact ⟨h0, h1⟩
  | cons c l ih =>
    intro N h0 h1
    unfold moN
    split
    · exact ⟨h0, h1⟩
    · exact ih _ (Int.emod_nonneg _ (by decide)) (Int.emod_lt_of_pos _ (by decide))
theorem moN_stop (b : Int) (l : List Int) (k : Nat) (hk : k < l.length) (h : dv (l.getD k 0) b < 0) (N : Int) : moN b N (l.drop k) = N ∧ moU b (l.drop k) = 0 := by
  rw [List.drop_eq_getElem_cons hk]
  have e : l[k] = l.getD k 0 := by simp [List.getD_eq_getElem?_getD, List.getElem?_eq_getElem hk]
  rw [e]
  unfold moN moU
  rw [if_pos h, if_pos h]
  exact ⟨rfl, rfl⟩
theorem moN_go (b : Int) (l : List Int) (k : Nat) (hk : k < l.length) (h : ¬ dv (l.getD k 0) b < 0) (N : Int) : moN b N (l.drop k) = moN b ((N * b + dv (l.getD k 0) b) % M2) (l.drop (k + 1)) ∧ moU b (l.drop k) = 1 + moU b (l.drop (k + 1)) := by
  rw [List.drop_eq_getElem_cons hk]
  have e : l[k] = l.getD k 0 := by simp [List.getD_eq_getElem?_getD, List.getElem?_eq_getElem hk]
  rw [e]
  simp only [moN, moU, if_neg h]
  exact ⟨trivial, trivial⟩
theorem moN_end (b : Int) (l : List Int) (k : Nat) (hk : l.length ≤ k) (N : Int) : moN b N (l.drop k) = N ∧ moU b (l.drop k) = 0 := by
  rw [List.drop_eq_nil_of_le hk]
  exact ⟨rfl, rfl⟩
/-- One step, on words. -/
theorem step_words (N b v : Int) (h0 : 0 ≤ N) (h1 : N < M2) (hb0 : 2 ≤ b) (hb1 : b ≤ 36) (hv0 : 0 ≤ v) (hv1 : v < b) :
    (N * b + v) % M2 % 18446744073709551616 = (N % 18446744073709551616 * b % 18446744073709551616 + v) % 18446744073709551616 ∧
    (N * b + v) % M2 / 18446744073709551616 = ((N / 18446744073709551616 * b + N % 18446744073709551616 * b / 18446744073709551616) + (N % 18446744073709551616 * b % 18446744073709551616 + v) / 18446744073709551616) % 18446744073709551616 := by
  unfold M2 at *
  have e : N * b = (N / 18446744073709551616 * b) * 18446744073709551616 + N % 18446744073709551616 * b := by
    have : N = N / 18446744073709551616 * 18446744073709551616 + N % 18446744073709551616 := by omega
    conv => lhs; rw [this]
    rw [Int.add_mul, Int.mul_assoc, Int.mul_comm 18446744073709551616 b, ← Int.mul_assoc]
  rw [e]
  generalize N / 18446744073709551616 * b = H
  generalize N % 18446744073709551616 * b = L
  exact ⟨by omega, by omega⟩
theorem dlo_mod (N : Int) : dlo (N % M2) = dlo N ∧ dhi (N % M2) = dhi N := by
  unfold M2 dlo dhi wrap64; exact ⟨by omega, by omega⟩
theorem dlo_UD (lo hi : Int) (h : Cell lo) (h' : Cell hi) : dlo (UD lo hi) = lo ∧ dhi (UD lo hi) = hi := by
  obtain ⟨a, b⟩ := h; obtain ⟨c, d⟩ := h'
  unfold dlo dhi UD wrap64; exact ⟨by omega, by omega⟩
/-- What a double is, times a small number. -/
theorem times_words (N n : Int) (h0 : 0 ≤ N) (h1 : N < M2) (hn0 : 2 ≤ n) (hn1 : n ≤ 36) :
    dlo (U (dlo N) * U n) = dlo (N * n) ∧ wrap64 (dhi (U (dlo N) * U n) + wrap64 (dhi N * n)) = dhi (N * n) := by
  have e1 : U (dlo N) = N % 18446744073709551616 := by unfold U dlo wrap64; omega
  have e2 : U n = n := by unfold U; omega
  rw [e1, e2]
  unfold M2 at h1
  have e : N * n = (N / 18446744073709551616 * n) * 18446744073709551616 + N % 18446744073709551616 * n := by
    have : N = N / 18446744073709551616 * 18446744073709551616 + N % 18446744073709551616 := by omega
    conv => lhs; rw [this]
    rw [Int.add_mul, Int.mul_assoc, Int.mul_comm 18446744073709551616 n, ← Int.mul_assoc]
  have e3 : wrap64 (dhi N * n) = wrap64 (N / 18446744073709551616 * n) := by
    have : dhi N = N / 18446744073709551616 ∨ dhi N = N / 18446744073709551616 - 18446744073709551616 := by unfold dhi wrap64; omega
    rcases this with h | h
    · rw [h]
    · rw [h, Int.sub_mul]; unfold wrap64; omega
  rw [e3, e]
  generalize N / 18446744073709551616 * n = H
  generalize N % 18446744073709551616 * n = L
  unfold dlo dhi wrap64
  exact ⟨by omega, by omega⟩
theorem add_words (N v : Int) (hv0 : 0 ≤ v) (hv1 : v ≤ 35) : dlo (D (dlo N) (dhi N) + D v 0) = dlo ((N + v) % M2) ∧ dhi (D (dlo N) (dhi N) + D v 0) = dhi ((N + v) % M2) := by
  rw [(dlo_mod _).1, (dlo_mod _).2]
  unfold D dlo dhi wrap64
  exact ⟨by omega, by omega⟩
/-- In two pieces. -/
theorem mo_split (b : Int) (l : List Int) : ∀ (k : Nat) (N : Int), k ≤ l.length →
    (moU b (l.take k) = k → moN b N l = moN b (moN b N (l.take k)) (l.drop k) ∧ moU b l = k + moU b (l.drop k)) ∧
    (moU b (l.take k) ≠ k → moN b N l = moN b N (l.take k) ∧ moU b l = moU b (l.take k)) := by
  induction l with
  | nil => intro k N hk; simp at hk; subst hk; simp [moN, moU]
  | cons c l ih =>
    intro k N hk
    cases k with
    | zero => simp [moN, moU]
    | succ k =>
      simp only [List.take_succ_cons, List.drop_succ_cons, moN, moU]
      split
      · have := moU_range b (l.take k)
        exact ⟨fun h => by omega, fun _ => ⟨rfl, rfl⟩⟩
      · have := ih k ((N * b + dv c b) % M2) (by simpa using hk)
        refine ⟨fun h => ?_, fun h => ?_⟩
        · have h2 := this.1 (by omega)
          exact ⟨h2.1, by omega⟩
        · have h2 := this.2 (by omega)
          exact ⟨h2.1, by omega⟩
end Go.Proofs.Ytjioombinbngpaa
