/- take and Next of the only event. -/
import Derived.Test.YthigimmlhgdchaaH
namespace Go.Proofs.Ythigimmlhgdchaa
set_option linter.unusedVariables false
set_option linter.unusedSimpArgs false
open Go.RowKit

theorem run_assert (v : Value) (w : World) : (Instr.typeAssert (.iface 58 v) 20 58 true).run Try.prog w = .ok (.tuple #[v, .bool true]) w := by kernel_rfl
theorem F2.past {b g N : Nat} {w w1 w2 : World} (h : F2 b g w w1) (f : Fb N w1 w2) (hN : w.heap.size ≤ N) : F2 b g w w2 :=
  ⟨f.os.trans h.os, f.tape.trans h.tape, f.output.trans h.output, Nat.le_trans h.size f.size, fun k hk h1 h2 => (f.block k (Nat.lt_of_lt_of_le hk h.size) (by omega)).trans (h.block k hk h1 h2)⟩
theorem take_one (b B g c : Nat) (s t x0 x1 x2 : Int) (w : World) (hC : Clk 54 w b s t (.slice (some ⟨g, 0, none⟩) 1 c)) (h : Rw w B (.slice (some ⟨g, 0, none⟩) 1 c) [(x0, x1, x2)]) (hb : b < B) :
    Calls Try.prog 21 #[.pointer (some ⟨b, 0, none⟩)] w fun e w' => e = .returned (.agg #[.int .i64 x0, .int .i64 x1, .int .i64 x2]) ∧ Clk 54 w' b s t (.slice (some ⟨g, 0, none⟩) 0 c) ∧ F2 b g w w' := by
  have hr : w.ownsRow B 58 3 (.slice (some ⟨g, 0, none⟩) 1 c) 1 (cells3 [(x0, x1, x2)]) := h
  have hg := (ownsRow_base hr g rfl).2
  have hlt := hC.lt
  have bA : Below w.heap.size w (w.alloc (.cells #[.int .i64 0, .int .i64 0, .int .i64 0] 58)) := (Below.refl _ _).alloc (Nat.le_refl _) _
  have P : Hid (Calls Try.prog 30 #[.iface 60 (.pointer (some ⟨b, 2, none⟩))] (w.alloc (.cells #[.int .i64 0, .int .i64 0, .int .i64 0] 58)) fun e w' => e = .returned (.iface 58 (.agg #[.int .i64 x0, .int .i64 x1, .int .i64 x2])) ∧
      (w'.cell? ⟨w.heap.size, 0, none⟩ = some (.int .i64 0) ∧ w'.cell? ⟨w.heap.size, 1, none⟩ = some (.int .i64 0) ∧ w'.cell? ⟨w.heap.size, 2, none⟩ = some (.int .i64 0) ∧ (∀ k, w'.frozen? ⟨w.heap.size, k, none⟩ = false) ∧ w.heap.size < w'.heap.size) ∧ Hid (w'.heap[w.heap.size]? = some (.cells #[.int .i64 0, .int .i64 0, .int .i64 0] 58 (0, 0))) ∧
      Hid (Clk 54 w' b s t (.slice (some ⟨g, 0, none⟩) 0 c) ∧ F2 b g w w')) := by
    refine Lib.hid ((hpop_one b B g c s t (x0, x1, x2) _ (hC.below bA) (ownsRow_same hr (fun g' hg' => bA.block g' (ownsRow_base hr g' hg').2)) hb).mono ?_)
    rintro e w' ⟨rfl, h1, h2⟩
    have hk : w'.heap[w.heap.size]? = some (.cells #[.int .i64 0, .int .i64 0, .int .i64 0] 58 (0, 0)) :=
      (h2.block w.heap.size (by simp) (by omega) (by omega)).trans (heap_alloc_new w _)
    refine ⟨rfl, ⟨?_, ?_, ?_, fun k => ?_, ?_⟩, Lib.hid hk, Lib.hid ⟨h1, (F2.of_below bA).trans h2⟩⟩
    · rw [cell_of_row _ _ _ _ _ _ hk]; rfl
    · rw [cell_of_row _ _ _ _ _ _ hk]; rfl
    · rw [cell_of_row _ _ _ _ _ _ hk]; rfl
    · simp [World.frozen?, hk]
    · have := h2.size; simp at this; omega
  clear hC h hr bA
  go_enter Try.func21, Try.ntmps21
  go_wp2_with (first
    | (go_at_call 30; (with_reducible refine (P.out).mono ?_); rintro e w2 ⟨rfl, ⟨q0, q1, q2, qf, qs⟩, HK, EN⟩; have R := run_assert (.agg #[.int .i64 x0, .int .i64 x1, .int .i64 x2]) w2; have qf0 := qf 0; have qf1 := qf 1; have qf2 := qf 2; clear qf))
  have FS : Fb w.heap.size w2 ((((w2.setCell ⟨w.heap.size, 0, none⟩ (.int .i64 x0)).setCell ⟨w.heap.size, 1, none⟩ (.int .i64 x1)).setCell ⟨w.heap.size, 2, none⟩ (.int .i64 x2)).alloc (.cells #[.int .i64 x0, .int .i64 x1, .int .i64 x2] 58)) :=
    (((Fb.set _ _).trans (Fb.set _ _)).trans (Fb.set _ _)).trans (Fb.of_below ((Below.refl _ _).alloc (Nat.le_refl _) _))
  have hf : (((w2.setCell ⟨w.heap.size, 0, none⟩ (.int .i64 x0)).setCell ⟨w.heap.size, 1, none⟩ (.int .i64 x1)).setCell ⟨w.heap.size, 2, none⟩ (.int .i64 x2)).heap[w.heap.size]? = some (.cells #[.int .i64 x0, .int .i64 x1, .int .i64 x2] 58 (0, 0)) := by
    have hk := HK.out
    simp [World.setCell, Array.getElem?_modify, hk]
  have hf2 := (heap_alloc_old _ (.cells #[.int .i64 x0, .int .i64 x1, .int .i64 x2] 58) (by simpa [World.setCell] using qs)).trans hf
  have p0 := cell_of_row _ _ 0 _ _ _ hf2
  have p1 := cell_of_row _ _ 1 _ _ _ hf2
  have p2 := cell_of_row _ _ 2 _ _ _ hf2
  simp only [List.getElem?_toArray, List.getElem?_cons_zero, List.getElem?_cons_succ] at p0 p1 p2
  exact bodyPost_ret (v := .agg #[.int .i64 x0, .int .i64 x1, .int .i64 x2]) (by simp [results, Try.results21, go_sem, p0, p1, p2]) rfl ⟨rfl, EN.out.1.fb FS (by omega), EN.out.2.past FS (Nat.le_refl _)⟩
set_option maxHeartbeats 4000000 in
theorem next_one (b B g c : Nat) (s : Int) (w : World) (hC : Clk 54 w b s 0 (.slice (some ⟨g, 0, none⟩) 1 c)) (h : Rw w B (.slice (some ⟨g, 0, none⟩) 1 c) [(5, 97, 0)]) (hb : b < B) :
    Calls Try.prog 10 #[.pointer (some ⟨b, 0, none⟩), .bool true] w fun e w' => e = .returned (.tuple #[.int .i64 97, .bool true]) ∧ Clk 54 w' b s 5 (.slice (some ⟨g, 0, none⟩) 0 c) ∧ F2 b g w w' := by
  have hr : w.ownsRow B 58 3 (.slice (some ⟨g, 0, none⟩) 1 c) 1 (cells3 [(5, 97, 0)]) := h
  have k1 := row_get hr (i := 1) (u := .int .i64 97) rfl
  have c2 := hC.c2
  have IS := Lib.hid (fun w => is_c 97 w)
  rw [show isC 97 = true from rfl] at IS
  have hlt := hC.lt
  have hg := (ownsRow_base hr g rfl).2
  have TK : Hid (Calls Try.prog 21 #[.pointer (some ⟨b, 0, none⟩)] w fun e w' => e = .returned (.agg #[.int .i64 5, .int .i64 97, .int .i64 0]) ∧
      (w'.cell? ⟨b, 1, none⟩ = some (.int .i64 0) ∧ w'.frozen? ⟨b, 1, none⟩ = false) ∧ ((w'.alloc (.cells #[.int .i64 5, .int .i64 97, .int .i64 0] 58)).cell? ⟨b, 1, none⟩ = some (.int .i64 0) ∧ (w'.alloc (.cells #[.int .i64 5, .int .i64 97, .int .i64 0] 58)).frozen? ⟨b, 1, none⟩ = false) ∧ b < w'.heap.size ∧ Hid (Clk 54 w' b s 0 (.slice (some ⟨g, 0, none⟩) 0 c) ∧ F2 b g w w')) := by
    refine Lib.hid ((take_one b B g c s 0 5 97 0 w hC h hb).mono ?_)
    rintro e w' ⟨rfl, h1, h2⟩
    have bA : Below w'.heap.size w' (w'.alloc (.cells #[.int .i64 5, .int .i64 97, .int .i64 0] 58)) := (Below.refl _ _).alloc (Nat.le_refl _) _
    exact ⟨rfl, ⟨h1.c1, h1.fz 1⟩, ⟨(h1.below bA).c1, (h1.below bA).fz 1⟩, h1.lt, Lib.hid ⟨h1, h2⟩⟩
  clear hC h hr
  go_enter Try.func10, Try.ntmps10
  go_wp2_with fail
  go_loop [9] (fun v9 => True) (fun _ => 0)
  case atStart => trivial
  case round =>
    go_wp2_with (first
      | (go_at_call 19; (with_reducible refine (IS.out _).mono ?_); rintro e w' ⟨rfl, rfl⟩)
      | (go_at_call 21; (with_reducible refine (TK.out).mono ?_); rintro e w2 ⟨rfl, ⟨q1, q2⟩, ⟨q3, q4⟩, q5, EN⟩))
    go_big_region
    all_goals
      go_wp2_with fail
      go_ret2
      have bX : Below (w2.setCell ⟨b, 1, none⟩ (.int .i64 5)).heap.size (w2.setCell ⟨b, 1, none⟩ (.int .i64 5)) ((w2.setCell ⟨b, 1, none⟩ (.int .i64 5)).alloc (.cells #[.int .i64 5, .int .i64 97, .int .i64 0] 58)).drew := below_drewN ((Below.refl _ _).alloc (Nat.le_refl _) _) 1
      exact ⟨rfl, (EN.out.1.set1 5).below bX, (EN.out.2.trans (F2.of_b (Fb.set _ _))).trans (F2.of_below bX)⟩
end Go.Proofs.Ythigimmlhgdchaa
