/- Characters of several bytes, plainly. -/
import Derived.Test.YtpkfkipnagajkaaDoorF
import Derived.Lib.TrimUEq
import Derived.Lib.Bytes
namespace Go.Proofs.YtpkfkipnagajkaaDoor
set_option linter.unusedVariables false
set_option linter.unusedSimpArgs false
open Go.RowKit

def u2 (a b : Int) : Int := (a - 192) * 64 + (b - 128)
def u3 (a b c : Int) : Int := (a - 224) * 4096 + (b - 128) * 64 + (c - 128)
def u4 (a b c d : Int) : Int := (a - 240) * 262144 + (b - 128) * 4096 + (c - 128) * 64 + (d - 128)
def co (b : Int) : Prop := 128 ≤ b ∧ b < 192
instance (b : Int) : Decidable (co b) := by unfold co; exact inferInstance
def ok2 (n : Nat) (a b : Int) : Prop := 192 ≤ a ∧ a < 224 ∧ 2 ≤ n ∧ co b ∧ 128 ≤ u2 a b
def ok3 (n : Nat) (a b c : Int) : Prop := 224 ≤ a ∧ a < 240 ∧ 3 ≤ n ∧ co b ∧ co c ∧ 2048 ≤ u3 a b c ∧ ¬ (55296 ≤ u3 a b c ∧ u3 a b c ≤ 57343)
def ok4 (n : Nat) (a b c d : Int) : Prop := 240 ≤ a ∧ a < 248 ∧ 4 ≤ n ∧ co b ∧ co c ∧ co d ∧ 65536 ≤ u4 a b c d ∧ u4 a b c d ≤ 1114111
instance (n : Nat) (a b : Int) : Decidable (ok2 n a b) := by unfold ok2; exact inferInstance
instance (n : Nat) (a b c : Int) : Decidable (ok3 n a b c) := by unfold ok3; exact inferInstance
instance (n : Nat) (a b c d : Int) : Decidable (ok4 n a b c d) := by unfold ok4; exact inferInstance
def D4 (n : Nat) (a b c d : Int) : Int × Int :=
  if n = 0 then (0, 0) else if a < 128 then (a, 1) else if ok2 n a b then (u2 a b, 2) else if ok3 n a b c then (u3 a b c, 3) else if ok4 n a b c d then (u4 a b c d, 4) else (0, 0)
def dec (l : List Int) : Int × Int := D4 l.length (l.getD 0 0) (l.getD 1 0) (l.getD 2 0) (l.getD 3 0)
def decT (l : List Int) : Int := if (dec l).2 = 0 then -77 else 0
theorem D4_cases (n : Nat) (a b c d : Int) :
    (D4 n a b c d = (0, 0)) ∨ (n ≠ 0 ∧ a < 128 ∧ D4 n a b c d = (a, 1)) ∨ (¬ a < 128 ∧ ok2 n a b ∧ D4 n a b c d = (u2 a b, 2)) ∨ (¬ a < 128 ∧ ok3 n a b c ∧ D4 n a b c d = (u3 a b c, 3)) ∨ (¬ a < 128 ∧ ok4 n a b c d ∧ D4 n a b c d = (u4 a b c d, 4)) := by
  unfold D4
  split
  · exact .inl rfl
  · split
    · exact .inr (.inl ⟨by assumption, by assumption, rfl⟩)
    · split
      · exact .inr (.inr (.inl ⟨by assumption, by assumption, rfl⟩))
      · split
        · exact .inr (.inr (.inr (.inl ⟨by assumption, by assumption, rfl⟩)))
        · split
          · exact .inr (.inr (.inr (.inr ⟨by assumption, by assumption, rfl⟩)))
          · exact .inl rfl
theorem bytesOf_getD (l : List Int) (hb : Byt l) (i : Nat) : (((Lib.bytesOf l).getD i 0).toNat : Int) = l.getD i 0 := by
  unfold Lib.bytesOf
  by_cases h : i < l.length
  · have bx := hb l[i] (List.getElem_mem h)
    simp only [List.getD_eq_getElem?_getD, List.getElem?_map, List.getElem?_eq_getElem h, Option.map_some, Option.getD_some, UInt8.toNat_ofNat']
    omega
  · simp [List.getD_eq_getElem?_getD, List.getElem?_eq_none (show l.length ≤ i by omega)]
theorem getD_byte (l : List Int) (hb : Byt l) (i : Nat) : 0 ≤ l.getD i 0 ∧ l.getD i 0 < 256 := by
  by_cases h : i < l.length
  · have := hb l[i] (List.getElem_mem h)
    simpa [List.getD_eq_getElem?_getD, List.getElem?_eq_getElem h] using this
  · simp [List.getD_eq_getElem?_getD, List.getElem?_eq_none (show l.length ≤ i by omega)]
/-- The model's own decoder says the same. -/
theorem decodeN_D4 (n a b c d : Nat) (hn : n ≠ 0) (ha : a < 256) (hb : b < 256) (hc : c < 256) (hd : d < 256) :
    ((Lib.decodeN n a b c d).1 = 65533 ∧ (Lib.decodeN n a b c d).2 = 1 ∧ D4 n a b c d = (0, 0)) ∨
    (D4 n a b c d = (((Lib.decodeN n a b c d).1 : Int), ((Lib.decodeN n a b c d).2 : Int)) ∧ 1 ≤ (Lib.decodeN n a b c d).2 ∧ ((Lib.decodeN n a b c d).1 = 65533 → 2 ≤ (Lib.decodeN n a b c d).2)) := by
  by_cases h1 : a < 128
  · right
    have e1 : Lib.decodeN n a b c d = (a, 1) := by unfold Lib.decodeN; rw [if_pos h1]
    have e2 : D4 n a b c d = ((a : Int), 1) := by unfold D4; rw [if_neg hn, if_pos (by omega)]
    rw [e1, e2]
    exact ⟨rfl, Nat.le_refl _, fun h => by simp at h; omega⟩
  have g1 : ¬ (a : Int) < 128 := by omega
  by_cases h2 : a / 32 = 6 ∧ (1 < n ∧ b / 64 = 2)
  · have n3 : ¬ ok3 n a b c := fun h => by unfold ok3 at h; omega
    have n4 : ¬ ok4 n a b c d := fun h => by unfold ok4 at h; omega
    by_cases h3 : a % 32 * 64 + b % 64 ≥ 128
    · right
      have e1 : Lib.decodeN n a b c d = (a % 32 * 64 + b % 64, 2) := by unfold Lib.decodeN; rw [if_neg h1, if_pos h2, if_pos h3]
      have e2 : D4 n a b c d = (u2 a b, 2) := by
        unfold D4
        rw [if_neg hn, if_neg g1, if_pos (show ok2 n a b by unfold ok2 u2 co; omega)]
      rw [e1, e2]
      exact ⟨by unfold u2; congr 1; omega, Nat.le_succ 1, fun _ => Nat.le_refl _⟩
    · left
      have e1 : Lib.decodeN n a b c d = (65533, 1) := by unfold Lib.decodeN; rw [if_neg h1, if_pos h2, if_neg h3]
      have e2 : D4 n a b c d = (0, 0) := by
        unfold D4
        rw [if_neg hn, if_neg g1, if_neg (fun h : ok2 n a b => by unfold ok2 u2 at h; omega), if_neg n3, if_neg n4]
      rw [e1]
      exact ⟨rfl, rfl, e2⟩
  have n2 : ¬ ok2 n a b := fun h => by unfold ok2 co at h; omega
  by_cases h3 : a / 16 = 14 ∧ (1 < n ∧ b / 64 = 2) ∧ (2 < n ∧ c / 64 = 2)
  · have n4 : ¬ ok4 n a b c d := fun h => by unfold ok4 at h; omega
    have e0 : u3 a b c = ((a % 16 * 4096 + b % 64 * 64 + c % 64 : Nat) : Int) := by unfold u3; omega
    have m0 : a % 16 * 4096 + b % 64 * 64 + c % 64 ≤ 65535 := by omega
    obtain ⟨u, hu⟩ : ∃ u, a % 16 * 4096 + b % 64 * 64 + c % 64 = u := ⟨_, rfl⟩
    have ed : Lib.decodeN n a b c d = if u ≥ 2048 ∧ (u < 55296 ∨ (57344 ≤ u ∧ u ≤ 1114111)) then (u, 3) else (65533, 1) := by unfold Lib.decodeN; rw [if_neg h1, if_neg h2, if_pos h3, hu]
    rw [hu] at e0 m0
    by_cases h4 : u ≥ 2048 ∧ (u < 55296 ∨ (57344 ≤ u ∧ u ≤ 1114111))
    · right
      have e1 : Lib.decodeN n a b c d = (u, 3) := by rw [ed, if_pos h4]
      have e2 : D4 n a b c d = (u3 a b c, 3) := by
        unfold D4
        rw [if_neg hn, if_neg g1, if_neg n2, if_pos (show ok3 n a b c by unfold ok3 co; rw [e0]; omega)]
      rw [e1, e2, e0]
      exact ⟨rfl, show 1 ≤ 3 by decide, fun _ => show 2 ≤ 3 by decide⟩
    · left
      have e1 : Lib.decodeN n a b c d = (65533, 1) := by rw [ed, if_neg h4]
      have e2 : D4 n a b c d = (0, 0) := by
        unfold D4
        rw [if_neg hn, if_neg g1, if_neg n2, if_neg (fun h : ok3 n a b c => by unfold ok3 at h; rw [e0] at h; omega), if_neg n4]
      rw [e1]
      exact ⟨rfl, rfl, e2⟩
  have n3 : ¬ ok3 n a b c := fun h => by unfold ok3 co at h; omega
  by_cases h4 : a / 8 = 30 ∧ (1 < n ∧ b / 64 = 2) ∧ (2 < n ∧ c / 64 = 2) ∧ (3 < n ∧ d / 64 = 2)
  · have e0 : u4 a b c d = ((a % 8 * 262144 + b % 64 * 4096 + c % 64 * 64 + d % 64 : Nat) : Int) := by unfold u4; omega
    obtain ⟨u, hu⟩ : ∃ u, a % 8 * 262144 + b % 64 * 4096 + c % 64 * 64 + d % 64 = u := ⟨_, rfl⟩
    have ed : Lib.decodeN n a b c d = if u ≥ 65536 ∧ (u < 55296 ∨ (57344 ≤ u ∧ u ≤ 1114111)) then (u, 4) else (65533, 1) := by unfold Lib.decodeN; rw [if_neg h1, if_neg h2, if_neg h3, if_pos h4, hu]
    rw [hu] at e0
    by_cases h5 : u ≥ 65536 ∧ (u < 55296 ∨ (57344 ≤ u ∧ u ≤ 1114111))
    · right
      have e1 : Lib.decodeN n a b c d = (u, 4) := by rw [ed, if_pos h5]
      have e2 : D4 n a b c d = (u4 a b c d, 4) := by
        unfold D4
        rw [if_neg hn, if_neg g1, if_neg n2, if_neg n3, if_pos (show ok4 n a b c d by unfold ok4 co; rw [e0]; omega)]
      rw [e1, e2, e0]
      exact ⟨rfl, show 1 ≤ 4 by decide, fun _ => show 2 ≤ 4 by decide⟩
    · left
      have e1 : Lib.decodeN n a b c d = (65533, 1) := by rw [ed, if_neg h5]
      have e2 : D4 n a b c d = (0, 0) := by
        unfold D4
        rw [if_neg hn, if_neg g1, if_neg n2, if_neg n3, if_neg (fun h : ok4 n a b c d => by unfold ok4 at h; rw [e0] at h; omega)]
      rw [e1]
      exact ⟨rfl, rfl, e2⟩
  have n4 : ¬ ok4 n a b c d := fun h => by unfold ok4 co at h; omega
  left
  have e1 : Lib.decodeN n a b c d = (65533, 1) := by unfold Lib.decodeN; rw [if_neg h1, if_neg h2, if_neg h3, if_neg h4]
  have e2 : D4 n a b c d = (0, 0) := by unfold D4; rw [if_neg hn, if_neg g1, if_neg n2, if_neg n3, if_neg n4]
  rw [e1]
  exact ⟨rfl, rfl, e2⟩
/-- What the library's decoder gives. -/
theorem decodeL_dec (l : List Int) (hb : Byt l) (hne : l ≠ []) :
    ((Lib.decodeL (Lib.bytesOf l)).1 = 65533 ∧ (Lib.decodeL (Lib.bytesOf l)).2 = 1 ∧ dec l = (0, 0)) ∨
    (dec l = (((Lib.decodeL (Lib.bytesOf l)).1 : Int), ((Lib.decodeL (Lib.bytesOf l)).2 : Int)) ∧ 1 ≤ (Lib.decodeL (Lib.bytesOf l)).2 ∧ ((Lib.decodeL (Lib.bytesOf l)).1 = 65533 → 2 ≤ (Lib.decodeL (Lib.bytesOf l)).2)) := by
  have hl : (Lib.bytesOf l).length = l.length := by unfold Lib.bytesOf; simp
  have hn : (Lib.bytesOf l).length ≠ 0 := by rw [hl]; intro h; exact hne (List.eq_nil_of_length_eq_zero h)
  have lt : ∀ i, ((Lib.bytesOf l).getD i 0).toNat < 256 := fun i => UInt8.toNat_lt _
  have := decodeN_D4 (Lib.bytesOf l).length ((Lib.bytesOf l).getD 0 0).toNat ((Lib.bytesOf l).getD 1 0).toNat ((Lib.bytesOf l).getD 2 0).toNat ((Lib.bytesOf l).getD 3 0).toNat hn (lt 0) (lt 1) (lt 2) (lt 3)
  rw [bytesOf_getD l hb, bytesOf_getD l hb, bytesOf_getD l hb, bytesOf_getD l hb, hl] at this
  rw [Lib.decodeL_N, hl]
  exact this
theorem dec_range (l : List Int) (hb : Byt l) : 0 ≤ (dec l).1 ∧ (dec l).1 ≤ 1114111 ∧ 0 ≤ (dec l).2 ∧ (dec l).2 ≤ 4 ∧ (dec l).2 ≤ l.length := by
  have a0 := getD_byte l hb 0
  unfold dec
  rcases D4_cases l.length (l.getD 0 0) (l.getD 1 0) (l.getD 2 0) (l.getD 3 0) with h | ⟨g1, g2, h⟩ | ⟨g1, g2, h⟩ | ⟨g1, g2, h⟩ | ⟨g1, g2, h⟩ <;> rw [h]
  · simp
  · simp only; omega
  · unfold ok2 co at g2; simp only; unfold u2 at *; omega
  · unfold ok3 co at g2; simp only; unfold u3 at *; omega
  · unfold ok4 co at g2; simp only; omega
end Go.Proofs.YtpkfkipnagajkaaDoor
