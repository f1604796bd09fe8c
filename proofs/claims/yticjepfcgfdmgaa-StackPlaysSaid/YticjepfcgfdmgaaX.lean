/- Cut to a negative depth, of an empty stack. -/
import Derived.Test.YticjepfcgfdmgaaM
import Derived.Test.YticjepfcgfdmgaaW
namespace Go.Proofs.Yticjepfcgfdmgaa
set_option linter.unusedVariables false
set_option linter.unusedSimpArgs false
open Go.RowKit

set_option maxHeartbeats 8000000 in
theorem cut_neg (b : Nat) (v : Value) (most over under i : Int) (B : Nat) (w : World) (h : IStk w B b v [] most over under) (hB : B ≤ w.heap.size) (hm : 0 ≤ most ∧ most ≤ 100000) (hi : i < 0) :
    Calls Try.prog 20 #[.pointer (some ⟨b, 0, none⟩), .int .i64 i] w fun e w' => e = .returned (.tuple #[]) ∧ ∃ v', IStk w' B b v' [] most over under ∧ Fr b v w w' ∧ Old w v v' := by
  have HS := Lib.hid h
  obtain ⟨a, c, rfl, hc⟩ := h.form
  obtain ⟨c0, c1, c2, c3⟩ := h.cell
  have hO : Hid (w.ownsRow B 3 1 (.slice a 0 c) 0 []) := Lib.hid h.2.2
  have FIN : Hid (∀ v' w1, w1.ownsRow B 3 1 v' (0 + 0) ([] ++ zs 0) → (w.drew).grownBy w1 (Value.slice a 0 c).ownBlock → (v'.ownBlock = (Value.slice a 0 c).ownBlock ∨ ∀ g, v'.ownBlock = some g → (w.drew).heap.size ≤ g) →
      w1.cell? ⟨b, 0, none⟩ = some (.slice a 0 c) ∧ w1.frozen? ⟨b, 0, none⟩ = false ∧ Hid (∃ v'', IStk (w1.setCell ⟨b, 0, none⟩ v') B b v'' [] most over under ∧ Fr b (.slice a 0 c) w (w1.setCell ⟨b, 0, none⟩ v') ∧ Old w (.slice a 0 c) v'')) := by
    refine Lib.hid fun v' w1 ho hg hat => ?_
    have hs : IStk w B b (.slice a 0 c) [] most over under := HS.out
    have hne := hs.ne (by decide)
    have hb : w1.heap[b]? = w.heap[b]? := hg.block b hs.lt (fun g => hne g.symm)
    have hg2 : w.grownBy w1 (Value.slice a 0 c).ownBlock := ⟨hg.os, hg.tape, hg.output, hg.size, hg.block⟩
    have hp := Stk.put (ys := []) hs hg2 ho hat (by decide)
    exact ⟨(World.cell?_of_block (w := w) hb).trans hs.cell.1, (World.frozen?_of_block (w := w) hb).trans (hs.frozen 0), Lib.hid ⟨v', hp.1, hp.2.1, hp.2.2⟩⟩
  obtain ⟨i0, hi1, hz0, hz1, hz2⟩ := info_parts info_int
  have n1 : ¬ most < 0 := by omega
  have HW0 : Hid (IntKind.i64.wrap (if most < 0 then most else 0) = 0) := Lib.hid (by rw [if_neg n1]; decide)
  simp only [List.length_nil] at c0 hc ⊢
  clear h HS
  go_enter Try.func20, Try.ntmps20
  go_wp2_with fail
  go_region_law (refine step_append_zeros rfl (.tmp 34) (.tmp 46) 22 3 rfl B 3 i0 Try.underlying22 Try.underlying3 hi1 hz0 hz1 hz2 (.slice a 0 c) 0 [] (by simp [Act.eval, Act.put]) hO.out 0 0 (by first | (simp [Act.eval, Act.put]; done) | (simp [Act.eval, Act.put]; exact HW0.out) | (simp [Act.eval, Act.put]; decide)) rfl (by omega) hB ?_; intro v' w1 hown hg hat; obtain ⟨a1, d1, rfl⟩ := ownsRow_slice hown; obtain ⟨hc1, hf1, hend⟩ := FIN.out _ _ hown hg hat; clear hown hg hat)
  all_goals
    go_wp2_with fail
    go_end0
    exact ⟨rfl, hend.out⟩
/-- Cut to no less. -/
theorem cut_more (b : Nat) (v : Value) (l : List Int) (most over under i : Int) (m B : Nat) (w : World) (h : IStk w B b v (l.map (.int .i64)) most over under) (hB : B ≤ w.heap.size) (hm : 0 ≤ most ∧ most ≤ 100000) (hl : (l.length : Int) ≤ most) (hi : (l.length : Int) ≤ max i 0) (hmm : min (max i 0) most - l.length = m) :
    Calls Try.prog 20 #[.pointer (some ⟨b, 0, none⟩), .int .i64 i] w fun e w' => e = .returned (.tuple #[]) ∧ ∃ v', IStk w' B b v' ((l ++ List.replicate m 0).map (.int .i64)) most over under ∧ Fr b v w w' ∧ Old w v v' := by
  have e : (l ++ List.replicate m 0).map (Value.int .i64) = l.map (.int .i64) ++ zs m := by simp [zs]
  rw [e]
  by_cases h0 : 0 ≤ i
  · exact cut_grow b v (l.map (.int .i64)) most over under i m B w h hB hm (by rw [List.length_map]; exact hl) (by rw [List.length_map]; omega) (by rw [List.length_map]; omega)
  · obtain rfl : l = [] := List.eq_nil_of_length_eq_zero (by omega)
    obtain rfl : m = 0 := by simp at hmm; omega
    exact cut_neg b v most over under i B w h hB hm (by omega)
end Go.Proofs.Yticjepfcgfdmgaa
