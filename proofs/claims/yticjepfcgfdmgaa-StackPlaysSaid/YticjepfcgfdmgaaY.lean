/- A step: Cut. -/
import Derived.Test.YticjepfcgfdmgaaX
namespace Go.Proofs.Yticjepfcgfdmgaa
set_option linter.unusedVariables false
set_option linter.unusedSimpArgs false
open Go.RowKit

set_option maxRecDepth 100000 in
set_option maxHeartbeats 8000000 in
theorem does_7a (N V : Int) (b mb : Nat) (v u : Value) (l : List Int) (most over under : Int) (B D : Nat) (w : World) (h : Both w B b v mb u l most over under) (hm : most ≤ 100000) (hD : max N 0 = D) (hDl : D < l.length) :
    Calls Try.prog 13 #[.pointer (some ⟨b, 0, none⟩), .pointer (some ⟨mb, 0, none⟩), .agg #[.int .i64 7, .int .i64 N, .int .i64 V]] w fun e w' => e = .returned (.bool true) ∧ Went w w' B b v mb u most over under := by
  have bb : Below w.heap.size w (w.alloc (.cells #[.int .i64 7, .int .i64 N, .int .i64 V] 42)) := (Below.refl _ _).alloc (Nat.le_refl _) _
  have XA : (w.alloc (.cells #[.int .i64 7, .int .i64 N, .int .i64 V] 42)).heap[w.heap.size]? = some (.cells #[.int .i64 7, .int .i64 N, .int .i64 V] 42 (0, 0)) := heap_alloc_new w _
  have hB := h.below bb
  have lim := h.lim
  have hlt := h.m.lt
  obtain ⟨a, c, rfl, hc, hg⟩ := own_form h.m.2.2
  obtain ⟨c0, c1, c2, c3⟩ := h.m.cell
  rw [List.length_map] at hg hc c0
  obtain ⟨g, rfl, _⟩ := hg (by omega)
  clear hg
  have P := cut_less b v (l.map (.int .i64)) most over under N D B _ hB.s (by rw [List.length_map]; exact hDl) hD (by rw [List.length_map]; omega)
  rw [← List.map_take] at P
  have FIN : Hid (∀ w1 v1, IStk w1 B b v1 ((l.take D).map (.int .i64)) most over under → Fr b v (w.alloc (.cells #[.int .i64 7, .int .i64 N, .int .i64 V] 42)) w1 → Old (w.alloc (.cells #[.int .i64 7, .int .i64 N, .int .i64 V] 42)) v v1 →
      (w1.cell? ⟨w.heap.size, 1, none⟩ = some (.int .i64 N) ∧ w1.cell? ⟨w.heap.size, 2, none⟩ = some (.int .i64 V)) ∧ (w1.cell? ⟨mb, 0, none⟩ = some (.slice (some ⟨g, 0, none⟩) l.length c) ∧ w1.cell? ⟨mb, 1, none⟩ = some (.int .i64 most)) ∧ w1.frozen? ⟨mb, 0, none⟩ = false ∧
      Hid (∀ n, Went w ((w1.setCell ⟨mb, 0, none⟩ (.slice (some ⟨g, 0, none⟩) D c)).drewN n) B b v mb (.slice (some ⟨g, 0, none⟩) (l.map (Value.int .i64)).length c) most over under)) := by
    refine Lib.hid fun w1 v1 s1 f1 o1 => ?_
    obtain ⟨m1, a1, x1, o1, t1⟩ := both_stepS h bb XA s1 f1 o1
    have m0 := m1.cell
    rw [List.length_map] at m0
    refine ⟨box_cells x1, ⟨m0.1, m0.2.1⟩, m1.frozen 0, Lib.hid fun n => Went.drew ?_ n⟩
    obtain ⟨m2, f2, o2⟩ := Stk.put_take m1 (by decide) (q := D) (by rw [List.length_map]; omega)
    rw [← List.map_take] at m2
    exact both_stepM s1 m1 a1 o1 t1 m2 f2 o2 (by rw [List.length_take]; omega)
  obtain ⟨ys, hys⟩ : ∃ ys, (l.take D).map (Value.int .i64) = ys := ⟨_, rfl⟩
  rw [hys] at P FIN
  have HP := Lib.hid P
  rw [List.length_map] at FIN ⊢
  obtain ⟨L, hL⟩ : ∃ L, l.length = L := ⟨_, rfl⟩
  rw [hL] at FIN c0 hc hDl lim ⊢
  have n0 : ¬ (L : Int) < D := by omega
  have hql : D ≤ L := by omega
  have hqc : D ≤ c := by omega
  have hql2 : (D : Int) ≤ L := by omega
  have hqc2 : (D : Int) ≤ c := by omega
  have n2 : ¬ most < (D : Int) := by omega
  have n3 : (D : Int) ≤ most := by omega
  have hND : (0 ≤ N ∧ N = D) ∨ (N < 0 ∧ D = 0) := by omega
  clear h hB hL hys bb XA P hD
  rcases hND with ⟨n1, rfl⟩ | ⟨n1, rfl⟩
  all_goals
    go_enter Try.func13, Try.ntmps13
    go_wp2_with (go_at_call 20; (with_reducible refine (HP.out).mono ?_); rintro e w1 ⟨rfl, v1, s1, f1, o1⟩; obtain ⟨⟨q1, q2⟩, ⟨m0, m1⟩, z0, HE⟩ := FIN.out w1 v1 s1 f1 o1; clear s1 f1 o1)
    go_big_region
    all_goals
      go_wp2_with fail
      go_loopw [] (fun wr => ∃ n : Nat, wr = w1.drewN n) (fun _ => 0)
      case atStart => exact ⟨1, rfl⟩
      case round =>
        obtain ⟨n, rfl⟩ := hrel
        go_wp2_with fail
        go_ret
        exact ⟨rfl, HE.out n⟩
end Go.Proofs.Yticjepfcgfdmgaa
