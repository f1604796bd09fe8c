/- A step: Pop. -/
import Derived.Test.YticjepfcgfdmgaaT
namespace Go.Proofs.Yticjepfcgfdmgaa
set_option linter.unusedVariables false
set_option linter.unusedSimpArgs false
open Go.RowKit

theorem grown_refl (w : World) (o : Option Nat) : w.grownBy w o := ⟨rfl, rfl, rfl, Nat.le_refl _, fun _ _ _ => rfl⟩
/-- The row is cut. -/
theorem Stk.put_take {T e : TypeId} {w : World} {B b g L c q : Nat} {xs : List Value} {most over under : Int} (h : Stk T e w B b (.slice (some ⟨g, 0, none⟩) L c) xs most over under) (hT : e ≠ T) (hq : q ≤ L) :
    Stk T e (w.setCell ⟨b, 0, none⟩ (.slice (some ⟨g, 0, none⟩) q c)) B b (.slice (some ⟨g, 0, none⟩) q c) (xs.take q) most over under ∧ Fr b (.slice (some ⟨g, 0, none⟩) L c) w (w.setCell ⟨b, 0, none⟩ (.slice (some ⟨g, 0, none⟩) q c)) ∧ Old w (.slice (some ⟨g, 0, none⟩) L c) (.slice (some ⟨g, 0, none⟩) q c) := by
  have hl : xs.length = L := by
    obtain ⟨a, c', e, _⟩ := h.form
    injection e with _ e _
    exact e.symm
  have ho := h.2.2
  rw [hl] at ho
  exact Stk.put h (grown_refl _ _) (by rw [List.length_take, hl, Nat.min_eq_left hq]; exact own_take ho hq) (.inl rfl) hT
set_option maxRecDepth 100000 in
set_option maxHeartbeats 4000000 in
theorem does_2 (N V : Int) (b mb : Nat) (v u : Value) (l : List Int) (most over under : Int) (B : Nat) (w : World) (h : Both w B b v mb u l most over under) (hm : most ≤ 100000) :
    Calls Try.prog 13 #[.pointer (some ⟨b, 0, none⟩), .pointer (some ⟨mb, 0, none⟩), .agg #[.int .i64 2, .int .i64 N, .int .i64 V]] w fun e w' => e = .returned (.bool true) ∧ Went w w' B b v mb u most over under := by
  have bb : Below w.heap.size w (w.alloc (.cells #[.int .i64 2, .int .i64 N, .int .i64 V] 42)) := (Below.refl _ _).alloc (Nat.le_refl _) _
  have XA : (w.alloc (.cells #[.int .i64 2, .int .i64 N, .int .i64 V] 42)).heap[w.heap.size]? = some (.cells #[.int .i64 2, .int .i64 N, .int .i64 V] 42 (0, 0)) := heap_alloc_new w _
  have hB := h.below bb
  have lim := h.lim
  have hlt := h.m.lt
  obtain ⟨a, c, rfl, hc, hg⟩ := own_form h.m.2.2
  obtain ⟨c0, c1, c2, c3⟩ := h.m.cell
  rw [List.length_map] at hg hc c0
  by_cases hN : 0 < l.length
  · obtain ⟨g, rfl, _⟩ := hg hN
    have P := pop_yes b v l most over under B _ hB.s hN (by omega)
    obtain ⟨q, hq⟩ : ∃ q, l.length - 1 = q := ⟨_, rfl⟩
    rw [hq] at P
    have FIN : Hid (∀ w1 v1, IStk w1 B b v1 ((l.take q).map (.int .i64)) most over under → Fr b v (w.alloc (.cells #[.int .i64 2, .int .i64 N, .int .i64 V] 42)) w1 → Old (w.alloc (.cells #[.int .i64 2, .int .i64 N, .int .i64 V] 42)) v v1 →
        w1.cell? ⟨mb, 0, none⟩ = some (.slice (some ⟨g, 0, none⟩) l.length c) ∧ w1.frozen? ⟨mb, 0, none⟩ = false ∧
        Hid (∀ n, Went w ((w1.setCell ⟨mb, 0, none⟩ (.slice (some ⟨g, 0, none⟩) q c)).drewN n) B b v mb (.slice (some ⟨g, 0, none⟩) (l.map (Value.int .i64)).length c) most over under)) := by
      refine Lib.hid fun w1 v1 s1 f1 o1 => ?_
      obtain ⟨m1, a1, x1, o1, t1⟩ := both_stepS h bb XA s1 f1 o1
      have m0 := m1.cell.1
      rw [List.length_map] at m0
      refine ⟨m0, m1.frozen 0, Lib.hid fun n => Went.drew ?_ n⟩
      obtain ⟨m2, f2, o2⟩ := Stk.put_take m1 (by decide) (q := q) (by rw [List.length_map]; omega)
      rw [← List.map_take] at m2
      exact both_stepM s1 m1 a1 o1 t1 m2 f2 o2 (by rw [List.length_take]; omega)
    obtain ⟨ys, hys⟩ : ∃ ys, (l.take q).map (Value.int .i64) = ys := ⟨_, rfl⟩
    rw [hys] at P FIN
    obtain ⟨y, hy⟩ : ∃ y, l.getD q 0 = y := ⟨_, rfl⟩
    rw [hy] at P
    have HP := Lib.hid P
    obtain ⟨L, hL⟩ : ∃ L, l.length = L := ⟨_, rfl⟩
    rw [hL] at FIN c0 hc hN lim hq
    have i1 : IntKind.i64.wrap ((L : Int) - 1) = (q : Int) := by rw [IntWalk.i64_in _ (by omega)]; omega
    have n0 : ¬ (L : Int) = 0 := by omega
    have hql : q ≤ L := by omega
    have hqc : q ≤ c := by omega
    have hql2 : (q : Int) ≤ L := by omega
    have hqc2 : (q : Int) ≤ c := by omega
    clear h hB hL hys hy bb hg XA P
    go_enter Try.func13, Try.ntmps13
    go_wp2_with (go_at_call 18; (with_reducible refine (HP.out).mono ?_); rintro e w1 ⟨rfl, v1, s1, f1, o1⟩; obtain ⟨m0, z0, HE⟩ := FIN.out w1 v1 s1 f1 o1; clear s1 f1 o1)
    go_ret
    exact ⟨rfl, HE.out 0⟩
  · obtain rfl : l = [] := List.eq_nil_of_length_eq_zero (by omega)
    have HW := Lib.hid (fun w1 (hb : Below w.heap.size w w1) => Went.of_below h hb)
    have P := Lib.hid (pop_no b v most over under B _ hB.s ⟨lim, hm⟩)
    have HCC : Hid (∀ w', Below (w.alloc (.cells #[.int .i64 2, .int .i64 N, .int .i64 V] 42)).heap.size (w.alloc (.cells #[.int .i64 2, .int .i64 N, .int .i64 V] 42)) w' → (w'.cell? ⟨mb, 1, none⟩ = some (.int .i64 most) ∧ w'.cell? ⟨mb, 2, none⟩ = some (.int .i64 over) ∧ w'.cell? ⟨mb, 3, none⟩ = some (.int .i64 under)) ∧ Below w.heap.size w w') :=
      Lib.hid fun w' hb => ⟨(hB.m.below hb).cell.2, below_then bb bb.size hb⟩
    simp only [List.length_nil, List.map_nil] at c0 HW hc lim ⊢
    clear h hB bb hg XA hN
    go_enter Try.func13, Try.ntmps13
    go_wp2_with (go_at_call 18; (with_reducible refine (P.out).mono ?_); rintro e w' ⟨rfl, hb⟩; obtain ⟨⟨d1, d2, d3⟩, hb2⟩ := HCC.out _ hb)
    go_ret
    exact ⟨rfl, HW.out _ hb2⟩
end Go.Proofs.Yticjepfcgfdmgaa
