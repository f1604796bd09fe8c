/- take and Next, any heap. -/
import Derived.Test.YthigimmlhgdchaaU
namespace Go.Proofs.Ythigimmlhgdchaa
set_option linter.unusedVariables false
set_option linter.unusedSimpArgs false
open Go.RowKit

theorem take_gen (b B g c n : Nat) (s t : Int) (l : List Ev) (w : World) (hC : Clk 54 w b s t (.slice (some ⟨g, 0, none⟩) (n + 1) c)) (h : Rw w B (.slice (some ⟨g, 0, none⟩) (n + 1) c) l) (hN : l.length = n + 1) (hb : b < B) (hs : n + 1 ≤ 100000) (hp : Hp l 0 (n + 1)) :
    Calls Try.prog 21 #[.pointer (some ⟨b, 0, none⟩)] w fun e w' => e = .returned (.agg #[.int .i64 (ix l 0).1, .int .i64 (ix l 0).2.1, .int .i64 (ix l 0).2.2]) ∧ Clk 54 w' b s t (.slice (some ⟨g, 0, none⟩) n c) ∧ (∃ l', Rw w' B (.slice (some ⟨g, 0, none⟩) n c) l' ∧ (l' ++ [ix l 0]).Perm l ∧ l'.length = n ∧ Hp l' 0 n) ∧ F2 b g w w' := by
  have hr := h.own hN
  have hg := (ownsRow_base hr g rfl).2
  have hlt := hC.lt
  have bA : Below w.heap.size w (w.alloc (.cells #[.int .i64 0, .int .i64 0, .int .i64 0] 58)) := (Below.refl _ _).alloc (Nat.le_refl _) _
  have hP := hpop_gen b B g c n s t l _ (hC.below bA) (h.below bA) hN hb hs hp
  obtain ⟨⟨x0, x1, x2⟩, hx⟩ : ∃ x, ix l 0 = x := ⟨_, rfl⟩
  rw [hx] at hP ⊢
  have P : Hid (Calls Try.prog 30 #[.iface 60 (.pointer (some ⟨b, 2, none⟩))] (w.alloc (.cells #[.int .i64 0, .int .i64 0, .int .i64 0] 58)) fun e w' => e = .returned (.iface 58 (.agg #[.int .i64 x0, .int .i64 x1, .int .i64 x2])) ∧
      (w'.cell? ⟨w.heap.size, 0, none⟩ = some (.int .i64 0) ∧ w'.cell? ⟨w.heap.size, 1, none⟩ = some (.int .i64 0) ∧ w'.cell? ⟨w.heap.size, 2, none⟩ = some (.int .i64 0) ∧ (∀ k, w'.frozen? ⟨w.heap.size, k, none⟩ = false) ∧ w.heap.size < w'.heap.size) ∧ Hid (w'.heap[w.heap.size]? = some (.cells #[.int .i64 0, .int .i64 0, .int .i64 0] 58 (0, 0))) ∧
      Hid (Clk 54 w' b s t (.slice (some ⟨g, 0, none⟩) n c) ∧ (∃ l', Rw w' B (.slice (some ⟨g, 0, none⟩) n c) l' ∧ (l' ++ [(x0, x1, x2)]).Perm l ∧ l'.length = n ∧ Hp l' 0 n) ∧ F2 b g w w')) := by
    refine Lib.hid (hP.mono ?_)
    rintro e w' ⟨rfl, h1, hl, h2⟩
    have hk : w'.heap[w.heap.size]? = some (.cells #[.int .i64 0, .int .i64 0, .int .i64 0] 58 (0, 0)) :=
      (h2.block w.heap.size (by simp) (by omega) (by omega)).trans (heap_alloc_new w _)
    refine ⟨rfl, ⟨?_, ?_, ?_, fun k => ?_, ?_⟩, Lib.hid hk, Lib.hid ⟨h1, hl, (F2.of_below bA).trans h2⟩⟩
    · rw [cell_of_row _ _ _ _ _ _ hk]; rfl
    · rw [cell_of_row _ _ _ _ _ _ hk]; rfl
    · rw [cell_of_row _ _ _ _ _ _ hk]; rfl
    · simp [World.frozen?, hk]
    · have := h2.size; simp at this; omega
  clear hC h hr bA hP hN hp hx
  go_enter Try.func21, Try.ntmps21
  go_wp2_with (first
    | (go_at_call 30; (with_reducible refine (P.out).mono ?_); rintro e w2 ⟨rfl, ⟨q0, q1, q2, qf, qs⟩, HK, EN⟩; have R := run_assert (.agg #[.int .i64 x0, .int .i64 x1, .int .i64 x2]) w2; have qf0 := qf 0; have qf1 := qf 1; have qf2 := qf 2; clear qf))
  have FS : Fb w.heap.size w2 ((((w2.setCell ⟨w.heap.size, 0, none⟩ (.int .i64 x0)).setCell ⟨w.heap.size, 1, none⟩ (.int .i64 x1)).setCell ⟨w.heap.size, 2, none⟩ (.int .i64 x2)).alloc (.cells #[.int .i64 x0, .int .i64 x1, .int .i64 x2] 58)) :=
    (((Fb.set _ _).trans (Fb.set _ _)).trans (Fb.set _ _)).trans (Fb.of_below ((Below.refl _ _).alloc (Nat.le_refl _) _))
  have hf : (((w2.setCell ⟨w.heap.size, 0, none⟩ (.int .i64 x0)).setCell ⟨w.heap.size, 1, none⟩ (.int .i64 x1)).setCell ⟨w.heap.size, 2, none⟩ (.int .i64 x2)).heap[w.heap.size]? = some (.cells #[.int .i64 x0, .int .i64 x1, .int .i64 x2] 58 (0, 0)) := by
    have hk := HK.out
    simp [World.setCell, Array.getElem?_modify, hk]
  have hf2 := (heap_alloc_old _ (.cells #[.int .i64 x0, .int .i64 x1, .int .i64 x2] 58) (by simpa [World.setCell] using qs)).trans hf
  have p0 := cell_of_row _ _ 0 _ _ _ hf2
  have p1 := cell_of_row _ _ 1 _ _ _ hf2
  have p2 := cell_of_row _ _ 2 _ _ _ hf2
  simp only [List.getElem?_toArray, List.getElem?_cons_zero, List.getElem?_cons_succ] at p0 p1 p2
  obtain ⟨E1, ⟨l', E2, E3⟩, E4⟩ := EN.out
  refine bodyPost_ret (v := .agg #[.int .i64 x0, .int .i64 x1, .int .i64 x2]) (by simp [results, Try.results21, go_sem, p0, p1, p2]) rfl ⟨rfl, E1.fb FS (by omega), ⟨l', ?_, E3⟩, E4.past FS (Nat.le_refl _)⟩
  exact ownsRow_same E2 (fun g' hg' => FS.block g' (ownsRow_base E2 g' hg').2 (by simp [Value.ownBlock] at hg'; omega))
end Go.Proofs.Ythigimmlhgdchaa
