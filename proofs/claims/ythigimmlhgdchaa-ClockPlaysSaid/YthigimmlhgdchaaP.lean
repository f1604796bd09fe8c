/- Dates: plain. -/
namespace Go.Proofs.Ythigimmlhgdchaa
set_option linter.unusedVariables false

def leapV (y : Int) : Bool := decide (y % 4 = 0) && (decide (y % 100 ≠ 0) || decide (y % 400 = 0))
/-- The days of a month, from 0 on. -/
def daysV (y m : Int) : Int := if m = 1 then (if leapV y then 29 else 28) else if m = 3 ∨ m = 5 ∨ m = 8 ∨ m = 10 then 30 else 31
theorem daysV_ge (y m : Int) : 28 ≤ daysV y m ∧ daysV y m ≤ 31 := by unfold daysV; repeat' split <;> try omega
def nextM (m : Int) : Int := if m + 1 = 12 then 0 else m + 1
def nextY (m y : Int) : Int := if m + 1 = 12 then y + 1 else y
/-- From a day, counted from a month's first, to its date. -/
inductive Dt : Int → Int → Int → Int × Int × Int → Prop
  | done {d m y : Int} (h : d < daysV y m) : Dt d m y (d, m, y)
  | step {d m y : Int} {R : Int × Int × Int} (h : daysV y m ≤ d) (k : Dt (d - daysV y m) (nextM m) (nextY m y) R) : Dt d m y R
theorem Dt.at_end {d m y : Int} {R : Int × Int × Int} (h : Dt d m y R) (g : d < daysV y m) : R = (d, m, y) := by
  cases h with
  | done => rfl
  | step h k => omega
theorem Dt.at_step {d m y : Int} {R : Int × Int × Int} (h : Dt d m y R) (g : daysV y m ≤ d) : Dt (d - daysV y m) (nextM m) (nextY m y) R := by
  cases h with
  | done => omega
  | step h k => exact k
theorem dt_total : ∀ (n : Nat) (d m y : Int), d.toNat ≤ n → ∃ R, Dt d m y R := by
  intro n
  induction n with
  | zero => intro d m y h; exact ⟨_, .done (by have := daysV_ge y m; omega)⟩
  | succ n ih =>
    intro d m y h
    by_cases g : d < daysV y m
    · exact ⟨_, .done g⟩
    · obtain ⟨R, hR⟩ := ih (d - daysV y m) (nextM m) (nextY m y) (by have := daysV_ge y m; omega)
      exact ⟨R, .step (by omega) hR⟩
theorem Dt.one {d m y : Int} {R S : Int × Int × Int} (h : Dt d m y R) (g : Dt d m y S) : R = S := by
  induction h with
  | done h => exact (g.at_end h).symm
  | step h k ih => exact ih (g.at_step h)
theorem Dt.facts {d m y : Int} {R : Int × Int × Int} (h : Dt d m y R) (h0 : 0 ≤ d) (hm : 0 ≤ m ∧ m ≤ 11) : 0 ≤ R.1 ∧ R.1 < daysV R.2.2 R.2.1 ∧ 0 ≤ R.2.1 ∧ R.2.1 ≤ 11 ∧ y ≤ R.2.2 := by
  induction h with
  | done h => exact ⟨h0, h, hm.1, hm.2, Int.le_refl _⟩
  | @step d m y R h k ih =>
    have := ih (by omega) (by unfold nextM; split <;> omega)
    refine ⟨this.1, this.2.1, this.2.2.1, this.2.2.2.1, Int.le_trans ?_ this.2.2.2.2⟩
    unfold nextY; split <;> omega
/-- A day more. -/
theorem Dt.more {d m y : Int} {R : Int × Int × Int} (h : Dt d m y R) (h0 : 0 ≤ d) : (R.1 + 1 < daysV R.2.2 R.2.1 ∧ Dt (d + 1) m y (R.1 + 1, R.2)) ∨ (R.1 + 1 = daysV R.2.2 R.2.1 ∧ Dt (d + 1) m y (0, nextM R.2.1, nextY R.2.1 R.2.2)) := by
  induction h with
  | @done d m y h =>
    by_cases g : d + 1 < daysV y m
    · exact .inl ⟨g, .done g⟩
    · refine .inr ⟨by show d + 1 = daysV y m; omega, .step (by omega) ?_⟩
      have e : d + 1 - daysV y m = 0 := by omega
      rw [e]
      exact .done (by have := daysV_ge (nextY m y) (nextM m); omega)
  | @step d m y R h k ih =>
    have e : d + 1 - daysV y m = d - daysV y m + 1 := by omega
    rcases ih (by omega) with ⟨g1, g2⟩ | ⟨g1, g2⟩
    · exact .inl ⟨g1, .step (by omega) (by rw [e]; exact g2)⟩
    · exact .inr ⟨g1, .step (by omega) (by rw [e]; exact g2)⟩
def ylen (y : Int) : Int := if leapV y then 366 else 365
theorem leap_sum (y : Int) : ylen y = 365 + ((y / 4 - y / 100 + y / 400) - ((y - 1) / 4 - (y - 1) / 100 + (y - 1) / 400)) := by
  unfold ylen leapV
  by_cases a : y % 4 = 0 <;> by_cases b : y % 100 = 0 <;> by_cases c : y % 400 = 0 <;> simp [a, b, c] <;> omega
theorem Dt.year {d y : Int} {R : Int × Int × Int} (h0 : 0 ≤ d) (h : Dt d 0 (y + 1) R) : Dt (d + ylen y) 0 y R := by
  have e : ∀ m, m ≠ 1 → daysV y m = if m = 3 ∨ m = 5 ∨ m = 8 ∨ m = 10 then 30 else 31 := fun m hm => by unfold daysV; rw [if_neg hm]
  have e1 : daysV y 1 = ylen y - 337 := by unfold daysV ylen; rw [if_pos rfl]; split <;> rfl
  have l : 365 ≤ ylen y ∧ ylen y ≤ 366 := by unfold ylen; split <;> omega
  have d0 : daysV y 0 = 31 := e 0 (by decide)
  have d2 : daysV y 2 = 31 := e 2 (by decide)
  have d3 : daysV y 3 = 30 := e 3 (by decide)
  have d4 : daysV y 4 = 31 := e 4 (by decide)
  have d5 : daysV y 5 = 30 := e 5 (by decide)
  have d6 : daysV y 6 = 31 := e 6 (by decide)
  have d7 : daysV y 7 = 31 := e 7 (by decide)
  have d8 : daysV y 8 = 30 := e 8 (by decide)
  have d9 : daysV y 9 = 31 := e 9 (by decide)
  have d10 : daysV y 10 = 30 := e 10 (by decide)
  have d11 : daysV y 11 = 31 := e 11 (by decide)
  clear e
  have st : ∀ {x : Int} (m : Int), 0 ≤ m → m < 11 → daysV y m ≤ x → Dt (x - daysV y m) (m + 1) y R → Dt x m y R := by
    intro x m h1 h2 hx k
    refine .step hx ?_
    have a1 : nextM m = m + 1 := by unfold nextM; rw [if_neg (by omega)]
    have a2 : nextY m y = y := by unfold nextY; rw [if_neg (by omega)]
    rw [a1, a2]; exact k
  refine st 0 (by decide) (by decide) (by omega) ?_
  refine st 1 (by decide) (by decide) (by omega) ?_
  refine st 2 (by decide) (by decide) (by omega) ?_
  refine st 3 (by decide) (by decide) (by omega) ?_
  refine st 4 (by decide) (by decide) (by omega) ?_
  refine st 5 (by decide) (by decide) (by omega) ?_
  refine st 6 (by decide) (by decide) (by omega) ?_
  refine st 7 (by decide) (by decide) (by omega) ?_
  refine st 8 (by decide) (by decide) (by omega) ?_
  refine st 9 (by decide) (by decide) (by omega) ?_
  refine st 10 (by decide) (by decide) (by omega) ?_
  refine .step (by show daysV y 11 ≤ _; omega) ?_
  have a1 : nextM (10 + 1) = 0 := rfl
  have a2 : nextY (10 + 1) y = y + 1 := rfl
  rw [a1, a2]
  have f : d + ylen y - daysV y 0 - daysV y 1 - daysV y 2 - daysV y 3 - daysV y 4 - daysV y 5 - daysV y 6 - daysV y 7 - daysV y 8 - daysV y 9 - daysV y 10 - daysV y 11 = d := by omega
  rw [show ((10 : Int) + 1) = 11 from rfl, f]
  exact h
def cum (y : Int) (n : Nat) : Int := 365 * n + (((y + n - 1) / 4 - (y + n - 1) / 100 + (y + n - 1) / 400) - ((y - 1) / 4 - (y - 1) / 100 + (y - 1) / 400))
theorem Dt.years : ∀ (n : Nat) {d y : Int} {R : Int × Int × Int}, 0 ≤ d → Dt d 0 (y + n) R → Dt (d + cum y n) 0 y R
  | 0, d, y, R, h0, h => by
    have : cum y 0 = 0 := by unfold cum; simp
    rw [this, Int.add_zero]
    simpa using h
  | n + 1, d, y, R, h0, h => by
    have h' : Dt (d + ylen (y + n)) 0 (y + n) R := Dt.year h0 (by rw [show y + (n : Int) + 1 = y + ((n + 1 : Nat) : Int) by omega]; exact h)
    have l := leap_sum (y + n)
    have l0 : 0 ≤ ylen (y + n) := by unfold ylen; split <;> omega
    have := Dt.years n (by omega) h'
    have e : d + ylen (y + n) + cum y n = d + cum y (n + 1) := by
      rw [l]; unfold cum
      rw [show y + ((n + 1 : Nat) : Int) - 1 = y + n by omega]
      omega
    rw [← e]; exact this
theorem cum_400 (y : Int) : cum y 400 = 146097 := by unfold cum; omega
/-- Four hundred years are 146097 days. -/
theorem Dt.cycles : ∀ (n : Nat) {d y : Int} {R : Int × Int × Int}, 0 ≤ d → Dt d 0 (y + 400 * n) R → Dt (d + 146097 * n) 0 y R
  | 0, d, y, R, h0, h => by simpa using h
  | n + 1, d, y, R, h0, h => by
    have h' : Dt (d + 146097) 0 (y + 400 * n) R := by
      have := Dt.years 400 h0 (y := y + 400 * n) (R := R) (by rw [show y + 400 * (n : Int) + (400 : Nat) = y + 400 * ((n + 1 : Nat) : Int) by omega]; exact h)
      rw [cum_400] at this; exact this
    have := Dt.cycles n (by omega) h'
    rw [show d + 146097 * ((n + 1 : Nat) : Int) = d + 146097 + 146097 * (n : Int) by omega]
    exact this
theorem dt_ref {D : Int} {R : Int × Int × Int} (h0 : 0 ≤ D) (h : Dt D 0 2000 R) : Dt (D % 146097) 0 (2000 + D / 146097 * 400) R := by
  obtain ⟨S, hS⟩ := dt_total (D % 146097).toNat (D % 146097) 0 (2000 + D / 146097 * 400) (Nat.le_refl _)
  have k := Dt.cycles (D / 146097).toNat (d := D % 146097) (y := 2000) (R := S) (by omega) (by rw [show (2000 : Int) + 400 * ((D / 146097).toNat : Int) = 2000 + D / 146097 * 400 by omega]; exact hS)
  rw [show D % 146097 + 146097 * ((D / 146097).toNat : Int) = D by omega] at k
  rw [h.one k]; exact hS
end Go.Proofs.Ythigimmlhgdchaa
