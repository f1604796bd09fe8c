/- The zero stack is cut. -/
import Derived.Test.YticjepfcgfdmgaaE
namespace Go.Proofs.Yticjepfcgfdmgaa
set_option linter.unusedVariables false
set_option linter.unusedSimpArgs false
open Go.RowKit

set_option maxHeartbeats 8000000 in
/-- The zero stack is cut to any depth: nothing. -/
theorem cut_zero (b : Nat) (i : Int) (B : Nat) (w : World) (h : IStk w B b (.slice none 0 0) [] 0 0 0) (hi : -9223372036854775808 ≤ i ∧ i ≤ 9223372036854775807) :
    Calls Try.prog 20 #[.pointer (some ⟨b, 0, none⟩), .int .i64 i] w fun e w' => e = .returned (.tuple #[]) ∧ IStk w' B b (.slice none 0 0) [] 0 0 0 ∧ Fr b (.slice none 0 0) w w' := by
  obtain ⟨c0, c1, c2, c3⟩ := h.cell
  have f0 := h.frozen 0
  have EN : Hid (IStk ((w.setCell ⟨b, 0, none⟩ (.slice none 0 0)).drew) B b (.slice none 0 0) [] 0 0 0 ∧ Fr b (.slice none 0 0) w ((w.setCell ⟨b, 0, none⟩ (.slice none 0 0)).drew)) := by
    have hp := Stk.put (w1 := w) (v1 := .slice none 0 0) (ys := []) h ⟨rfl, rfl, rfl, Nat.le_refl _, fun _ _ _ => rfl⟩ (World.ownsRow_nil _ _ _ _) (.inl rfl) (by decide)
    exact Lib.hid ⟨hp.1, ⟨hp.2.1.os, hp.2.1.tape, hp.2.1.output, hp.2.1.size, hp.2.1.block⟩⟩
  have HS := Lib.hid h
  clear h
  obtain ⟨i0, hi0, _⟩ := info_parts info_int
  have hN : 0 < i ∨ i = 0 ∨ i < 0 := by omega
  rcases hN with n1 | rfl | n1
  all_goals
    go_enter Try.func20, Try.ntmps20
    go_wp2_with fail
    go_region_law (refine step_append_zero rfl (.tmp 34) (.tmp 46) 22 3 rfl 3 i0 Try.underlying22 Try.underlying3 hi0 (by simp [Act.eval, Act.put]) (by first | (simp [Act.eval, Act.put]; done) | (simp [Act.eval, Act.put]; decide)) ?_)
    all_goals
      go_wp2_with fail
      go_end0
      exact ⟨rfl, EN.out.1, EN.out.2⟩
end Go.Proofs.Yticjepfcgfdmgaa
