/- Rows cut and cleared; Need at a full word. -/
import Derived.Test.YticjepfcgfdmgaaL
namespace Go.Proofs.Yticjepfcgfdmgaa
set_option linter.unusedVariables false
set_option linter.unusedSimpArgs false
open Go.RowKit

theorem own_take {w : World} {B e : Nat} {a : Option Addr} {n c m : Nat} {xs : List Value} (h : w.ownsRow B e 1 (.slice a n c) n xs) (hm : m ≤ n) : w.ownsRow B e 1 (.slice a m c) m (xs.take m) := by
  obtain ⟨h1, h2⟩ := h
  have hl : (xs.take m).length = m * 1 := by rw [List.length_take]; omega
  refine ⟨hl, ?_⟩
  rcases h2 with ⟨h2, h0⟩ | ⟨g, cap, cur, hv, hb, hh, hn, hm2, hs, ht⟩
  · injection h2 with e1 e2 e3
    subst e1 e3
    exact .inl ⟨by rw [show m = 0 by omega], by omega⟩
  · injection hv with e1 e2 e3
    subst e1 e3
    refine .inr ⟨g, c, cur, rfl, hb, hh, by omega, hm2, hs, ?_⟩
    rw [← ht, List.take_take]
    congr 1
    omega
theorem own_cells {B e g n c : Nat} (m : Nat) : ∀ (vs : List Value) (o : Nat) (w : World) (xs : List Value), m ≤ o → w.ownsRow B e 1 (.slice (some ⟨g, 0, none⟩) n c) n xs → ∃ ys, (w.setCells g o vs).ownsRow B e 1 (.slice (some ⟨g, 0, none⟩) n c) n ys ∧ ys.take m = xs.take m
  | [], o, w, xs, _, h => ⟨xs, h, rfl⟩
  | x :: vs, o, w, xs, hm, h => by
    obtain ⟨ys, h1, h2⟩ := own_cells m vs (o + 1) (w.setCell ⟨g, o, none⟩ x) (xs.set o x) (by omega) (ownsRow_put h o x)
    exact ⟨ys, h1, h2.trans (List.take_set_of_le hm)⟩
theorem grown_cells (g : Nat) : ∀ (vs : List Value) (o : Nat) (w : World), w.grownBy (w.setCells g o vs) (some g)
  | [], o, w => ⟨rfl, rfl, rfl, Nat.le_refl _, fun _ _ _ => rfl⟩
  | x :: vs, o, w => by
    have h := grown_cells g vs (o + 1) (w.setCell ⟨g, o, none⟩ x)
    exact ⟨h.os, h.tape, h.output, Nat.le_trans (by simp [World.setCell]) h.size, fun k hk hne => (h.block k (by simpa [World.setCell] using hk) hne).trans (Below.heap_setCell _ _ _ _ (fun e => hne (by rw [e])))⟩
theorem zero_int (w : World) : (zeroValue 3).run Try.prog w = .ok (.int .i64 0) w := by kernel_rfl
/-- The row's end is cleared and cut off. -/
theorem cleared {w : World} {B e g n c m : Nat} {xs : List Value} (h : w.ownsRow B e 1 (.slice (some ⟨g, 0, none⟩) n c) n xs) (hm : m ≤ n) : (w.setCells g m (List.replicate (n - m) (.int .i64 0))).ownsRow B e 1 (.slice (some ⟨g, 0, none⟩) m c) m (xs.take m) := by
  obtain ⟨ys, h1, h2⟩ := own_cells m (List.replicate (n - m) (.int .i64 0)) m w xs (Nat.le_refl _) h
  rw [← h2]
  exact own_take h1 hm
theorem clear_run {w : World} {B g n c m : Nat} {xs : List Value} (t ty : TypeId) (ht : Try.prog.underlying t = some (.slice 3)) (h : w.ownsRow B 3 1 (.slice (some ⟨g, 0, none⟩) n c) n xs) (hm : m < n) (c' : Nat) :
    (Builtin.clear_ #[t] ty #[.slice (some ⟨g, m, none⟩) (n - m) c']).run Try.prog w = .ok (.tuple #[]) (w.setCells g m (List.replicate (n - m) (.int .i64 0))) :=
  Lib.run_clear_slice w t 3 ty (.int .i64 0) ht zero_int rfl rfl g m (n - m) c' (by omega) (fun j hj => by obtain ⟨⟨u, h1, _⟩, _⟩ := ownsRow_cell h (i := m + j) (by omega); rw [h1]; rfl) (fun j hj => (ownsRow_cell h (i := m + j) (by omega)).2)
end Go.Proofs.Yticjepfcgfdmgaa
