/- Contracts of digits.prefixed, digits.Parse and of the reference's. -/
import Derived.Test.YtjioombinbngpaaH
namespace Go.Proofs.Ytjioombinbngpaa
set_option linter.unusedVariables false
set_option linter.unusedSimpArgs false
open Go.RowKit Go.Shelf

def prefS : List Int → List Int
  | [] => []
  | x :: t => if x = 35 ∨ x = 36 ∨ x = 37 then t else x :: t
def prefB (b : Int) : List Int → Int
  | [] => b
  | x :: t => if x = 35 then 10 else if x = 36 then 16 else if x = 37 then 2 else b

theorem Rd.mk {w : World} {k : IntKind} {l : List Int} (g off : Nat) {n c : Nat} (hn : n = l.length) (hc : n ≤ c) (h : ∀ i, i < l.length → w.cell? ⟨g, off + i, none⟩ = some (.int k (l.getD i 0))) : Rd w k (.slice (some ⟨g, off, none⟩) n c) l := by
  subst hn; exact ⟨_, c, rfl, hc, .inr ⟨g, off, rfl, h⟩⟩
theorem Rd.tail {w : World} {k : IntKind} {l : List Int} {g off n c : Nat} {x : Int} (h : ∀ i, i < (x :: l).length → w.cell? ⟨g, off + i, none⟩ = some (.int k ((x :: l).getD i 0))) (hc : l.length ≤ c) (hn : n = l.length) : Rd w k (.slice (some ⟨g, off + 1, none⟩) n c) l :=
  Rd.mk g (off + 1) hn (by omega) (fun i hi => by have := h (i + 1) (by simp; omega); rw [List.getD_cons_succ] at this; rw [← this]; congr 2; omega)
theorem Rd.tail0 {w : World} {k : IntKind} {l : List Int} {a : Option Addr} {g off n c : Nat} (hn : n = l.length) (h : l.length = 0) : Rd w k (.slice (some ⟨g, off, none⟩) n c) l :=
  Rd.mk g off hn (by omega) (fun i hi => by omega)
theorem ret_v1 {v : Value} {k : IntKind} {a b : Int} (h : a = b) : Ending.returned (.tuple #[v, .int k a]) = .returned (.tuple #[v, .int k b]) := by rw [h]

theorem prefixed_c (b : Int) (v : Value) (s : List Int) (w : World) (hr : Rd w .u8 v s) (hs : s.length ≤ 9223372036854775807) :
    Calls Try.prog 18 #[v, .int .i64 b] w fun e w' =>
      (∃ u, e = .returned (.tuple #[u, .int .i64 (prefB b s)]) ∧ Rd w .u8 u (prefS s)) ∧ w = w' := by
  cases s with
  | nil =>
    have hr0 := hr
    obtain ⟨a, c, rfl, hc, hcell⟩ := hr
    go_enter Try.func18, Try.ntmps18
    go_wp2
    all_goals (go_ret2; exact ⟨⟨_, rfl, hr0⟩, rfl⟩)
  | cons x t =>
    have hr0 := hr
    obtain ⟨a, c, rfl, hc, hcell⟩ := hr
    obtain ⟨g, off, rfl, hcl⟩ : ∃ g off, a = some ⟨g, off, none⟩ ∧ ∀ i, i < (x :: t).length → w.cell? ⟨g, off + i, none⟩ = some (.int .u8 ((x :: t).getD i 0)) := by
      rcases hcell with h | h
      · simp at h
      · exact h
    have h0 := hcl 0 (by simp)
    simp only [List.getD_cons_zero, Nat.add_zero] at h0
    have hcl' := hcl
    clear hcl
    simp only [List.length_cons] at hr0 hc hs
    unfold prefS prefB
    by_cases x1 : x = 35
    · subst x1
      go_enter Try.func18, Try.ntmps18
      go_wp2
      all_goals (go_ret2; exact ⟨⟨_, ret_v1 (by simp), by simp only [true_or, if_true]; first | exact Rd.tail0 (a := none) rfl (by omega) | exact Rd.tail hcl' (by omega) rfl⟩, rfl⟩)
    · by_cases x2 : x = 36
      · subst x2
        go_enter Try.func18, Try.ntmps18
        go_wp2
        all_goals (go_ret2; exact ⟨⟨_, ret_v1 (by simp), by simp only [true_or, or_true, if_true]; first | exact Rd.tail0 (a := none) rfl (by omega) | exact Rd.tail hcl' (by omega) rfl⟩, rfl⟩)
      · by_cases x3 : x = 37
        · subst x3
          go_enter Try.func18, Try.ntmps18
          go_wp2
          all_goals (go_ret2; exact ⟨⟨_, ret_v1 (by simp), by simp only [true_or, or_true, if_true]; first | exact Rd.tail0 (a := none) rfl (by omega) | exact Rd.tail hcl' (by omega) rfl⟩, rfl⟩)
        · go_enter Try.func18, Try.ntmps18
          go_wp2
          go_ret2
          exact ⟨⟨_, ret_v1 rfl, hr0⟩, rfl⟩
end Go.Proofs.Ytjioombinbngpaa
