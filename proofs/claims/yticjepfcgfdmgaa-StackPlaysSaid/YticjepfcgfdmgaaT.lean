/- A step: Poke. -/
import Derived.Test.YticjepfcgfdmgaaS
namespace Go.Proofs.Yticjepfcgfdmgaa
set_option linter.unusedVariables false
set_option linter.unusedSimpArgs false
open Go.RowKit

theorem Went.drew {w w1 : World} {B b mb : Nat} {v u : Value} {most over under : Int} (h : Went w w1 B b v mb u most over under) (n : Nat) : Went w (w1.drewN n) B b v mb u most over under := by
  obtain ⟨v', u', l', hB, o1, o2, f⟩ := h
  exact ⟨v', u', l', hB.below (below_drewN (Below.refl _ _) n), o1, o2, ⟨f.os, f.tape, f.output, f.size, f.block⟩⟩
/-- The stack has turned: the model and the step's own struct stand. -/
theorem both_stepS {w W w1 : World} {B b mb : Nat} {v u v1 : Value} {l : List Int} {xs1 : List Value} {X : Obj} {most over under : Int} (h : Both w B b v mb u l most over under) (bb : Below w.heap.size w W) (XA : W.heap[w.heap.size]? = some X)
    (s1 : IStk w1 B b v1 xs1 most over under) (f : Fr b v W w1) (o : Old W v v1) :
    MStk w1 B mb u (l.map (.int .i64)) most over under ∧ ap v1 u ∧ w1.heap[w.heap.size]? = some X ∧ Old w v v1 ∧ Ft (Fo b v) w w1 := by
  have hB := h.below bb
  obtain ⟨m1, a1⟩ := Stk.apart hB.s hB.m hB.ap (by decide) (by decide) (by decide) f o
  have sz : w.heap.size < W.heap.size := by
    rcases Nat.lt_or_ge w.heap.size W.heap.size with g | g
    · exact g
    · rw [Array.getElem?_eq_none g] at XA; cases XA
  refine ⟨m1, a1, ?_, ?_, ?_⟩
  · exact (f.block _ sz (fun e => by have := h.s.lt; omega) (fun e => by have := (h.s.row_lt _ e).2; omega)).trans XA
  · rcases o with o | o
    · exact .inl o
    · exact .inr fun g hg => Nat.le_trans bb.size (o g hg)
  · exact (Ft.of_below bb).trans f.ft (fun k _ h => h)
/-- And then the model. -/
theorem both_stepM {w w1 w2 : World} {B b mb : Nat} {v u v1 u2 : Value} {l2 : List Int} {ys : List Value} {most over under : Int}
    (s1 : IStk w1 B b v1 (l2.map (.int .i64)) most over under) (m1 : MStk w1 B mb u ys most over under) (a1 : ap v1 u) (o : Old w v v1) (ft : Ft (Fo b v) w w1)
    (m2 : MStk w2 B mb u2 (l2.map (.int .i64)) most over under) (f2 : Fr mb u w1 w2) (o2 : Old w1 u u2) (lim : (l2.length : Int) ≤ most) : Went w w2 B b v mb u most over under := by
  obtain ⟨s2, a2⟩ := Stk.apart m1 s1 a1.symm (by decide) (by decide) (by decide) f2 o2
  refine ⟨v1, u2, l2, ⟨s2, m2, a2.symm, lim⟩, o, ?_, ?_⟩
  · rcases o2 with o2 | o2
    · exact .inl o2
    · exact .inr fun g hg => Nat.le_trans ft.size (o2 g hg)
  · exact ⟨f2.os.trans ft.os, f2.tape.trans ft.tape, f2.output.trans ft.output, Nat.le_trans ft.size f2.size, fun k hk hS => (f2.block k (Nat.lt_of_lt_of_le hk ft.size) (fun e => hS (.inr (.inl e))) (fun e => hS (.inr (.inr e)))).trans (ft.block k hk (fun e => hS (.inl e)))⟩
/-- One cell of the row is written. -/
theorem Stk.put_row {T e : TypeId} {w : World} {B b g L c : Nat} {xs : List Value} {most over under : Int} (h : Stk T e w B b (.slice (some ⟨g, 0, none⟩) L c) xs most over under) (hT : e ≠ T) (p : Nat) (x : Value) :
    Stk T e (w.setCell ⟨g, p, none⟩ x) B b (.slice (some ⟨g, 0, none⟩) L c) (xs.set p x) most over under ∧ Fr b (.slice (some ⟨g, 0, none⟩) L c) w (w.setCell ⟨g, p, none⟩ x) := by
  have hne : g ≠ b := fun e => h.ne hT (by simp [Value.ownBlock, e])
  have hl : xs.length = L := by
    obtain ⟨a, c', e, _⟩ := h.form
    injection e with _ e _
    exact e.symm
  refine ⟨⟨(Below.heap_setCell _ _ _ _ (fun e => hne e.symm)).trans h.1, h.2.1, ?_⟩, ⟨rfl, rfl, rfl, by simp [World.setCell], fun k hk h1 h2 => Below.heap_setCell _ _ _ _ (fun e => h2 (by simp [Value.ownBlock, e]))⟩⟩
  have ho := h.2.2
  rw [hl] at ho
  rw [List.length_set, hl]
  exact ownsRow_put ho p _
theorem box_cells {w : World} {N : Nat} {k x y : Int} {T : TypeId} (h : w.heap[N]? = some (.cells #[.int .i64 k, .int .i64 x, .int .i64 y] T (0, 0))) : w.cell? ⟨N, 1, none⟩ = some (.int .i64 x) ∧ w.cell? ⟨N, 2, none⟩ = some (.int .i64 y) := by
  refine ⟨?_, ?_⟩ <;> (rw [cell_of_row _ _ _ _ _ _ h]; rfl)
set_option maxRecDepth 100000 in
set_option maxHeartbeats 4000000 in
theorem does_4 (N V : Int) (b mb : Nat) (v u : Value) (l : List Int) (most over under : Int) (B : Nat) (w : World) (h : Both w B b v mb u l most over under) (hm : most ≤ 100000) :
    Calls Try.prog 13 #[.pointer (some ⟨b, 0, none⟩), .pointer (some ⟨mb, 0, none⟩), .agg #[.int .i64 4, .int .i64 N, .int .i64 V]] w fun e w' => e = .returned (.bool true) ∧ Went w w' B b v mb u most over under := by
  have bb : Below w.heap.size w (w.alloc (.cells #[.int .i64 4, .int .i64 N, .int .i64 V] 42)) := (Below.refl _ _).alloc (Nat.le_refl _) _
  have XA : (w.alloc (.cells #[.int .i64 4, .int .i64 N, .int .i64 V] 42)).heap[w.heap.size]? = some (.cells #[.int .i64 4, .int .i64 N, .int .i64 V] 42 (0, 0)) := heap_alloc_new w _
  have hB := h.below bb
  have lim := h.lim
  have hlt := h.m.lt
  obtain ⟨a, c, rfl, hc, hg⟩ := own_form h.m.2.2
  obtain ⟨c0, c1, c2, c3⟩ := h.m.cell
  rw [List.length_map] at hg hc c0
  by_cases hN : 0 ≤ N ∧ N < (l.length : Int)
  · obtain ⟨i, rfl⟩ := Int.eq_ofNat_of_zero_le hN.1
    obtain ⟨g, rfl, _⟩ := hg (by omega)
    have P := Lib.hid (poke_yes b v (l.map (.int .i64)) most over under V i B _ hB.s (by rw [List.length_map]; omega) (by rw [List.length_map]; omega))
    rw [List.length_map] at P
    obtain ⟨p, hp⟩ : ∃ p, l.length - 1 - i = p := ⟨_, rfl⟩
    rw [hp] at P
    have FIN : Hid (∀ w1, IStk w1 B b v ((l.map (.int .i64)).set p (.int .i64 V)) most over under → Fr b v (w.alloc (.cells #[.int .i64 4, .int .i64 i, .int .i64 V] 42)) w1 →
        (w1.cell? ⟨w.heap.size, 1, none⟩ = some (.int .i64 i) ∧ w1.cell? ⟨w.heap.size, 2, none⟩ = some (.int .i64 V)) ∧ w1.cell? ⟨mb, 0, none⟩ = some (.slice (some ⟨g, 0, none⟩) l.length c) ∧ ((∃ y, w1.cell? ⟨g, p, none⟩ = some y) ∧ w1.frozen? ⟨g, p, none⟩ = false) ∧ Hid (Calls Try.prog 25 #[.pointer (some ⟨mb, 0, none⟩), .int .i64 i] w1 fun e w' => e = .returned (.bool true) ∧ w1 = w') ∧
        Hid (∀ n, Went w ((w1.setCell ⟨g, p, none⟩ (.int .i64 V)).drewN n) B b v mb (.slice (some ⟨g, 0, none⟩) (l.map (Value.int .i64)).length c) most over under)) := by
      refine Lib.hid fun w1 s1 f1 => ?_
      obtain ⟨m1, a1, x1, o1, t1⟩ := both_stepS h bb XA s1 f1 (.inl rfl)
      have ho := m1.2.2
      rw [List.length_map] at ho
      obtain ⟨⟨y, k0, _⟩, k1⟩ := ownsRow_cell ho (i := p) (by omega)
      have IS := is_c mb _ (l.map (.int .i64)) most over under i B w1 m1
      rw [show decide (0 ≤ (i : Int) ∧ (i : Int) < ((l.map (Value.int .i64)).length : Int)) = true by simp; omega] at IS
      have m0 := m1.cell.1
      rw [List.length_map] at m0
      refine ⟨box_cells x1, m0, ⟨⟨y, k0⟩, k1⟩, Lib.hid IS, Lib.hid fun n => Went.drew ?_ n⟩
      obtain ⟨m2, f2⟩ := Stk.put_row m1 (by decide) p (.int .i64 V)
      rw [← List.map_set] at s1 m2
      exact both_stepM s1 m1 a1 o1 t1 m2 f2 (.inl rfl) (by rw [List.length_set]; exact lim)
    obtain ⟨L, hL⟩ : ∃ L, l.length = L := ⟨_, rfl⟩
    rw [hL] at FIN c0 hc hN lim hp
    have i1 : IntKind.i64.wrap ((L : Int) - 1) = (L : Int) - 1 := IntWalk.i64_in _ (by omega)
    have i2 : IntKind.i64.wrap ((L : Int) - 1 - i) = (p : Int) := by rw [IntWalk.i64_in _ (by omega)]; omega
    have hpL : (p : Int) < L := by omega
    clear h hB hL hp bb hg XA
    go_enter Try.func13, Try.ntmps13
    go_wp2_with (first
      | (go_at_call 23; (with_reducible refine (P.out).mono ?_); rintro e w1 ⟨rfl, s1, f1⟩; obtain ⟨⟨q1, q2⟩, m0, ⟨⟨y, k0⟩, k1⟩, IS, HE⟩ := FIN.out w1 s1 f1; clear s1 f1)
      | (go_at_call 25; (with_reducible refine (IS.out).mono ?_); rintro e w' ⟨rfl, rfl⟩))
    go_big_region
    all_goals
      go_wp2_with fail
      go_ret
      exact ⟨rfl, HE.out _⟩
  · have HW := Lib.hid (fun w1 (hb : Below w.heap.size w w1) => Went.of_below h hb)
    have P := Lib.hid (poke_no b v (l.map (.int .i64)) most over under N V B _ hB.s (by rw [List.length_map]; omega))
    have IS := is_c mb _ (l.map (.int .i64)) most over under N B _ hB.m
    rw [show decide (0 ≤ N ∧ N < ((l.map (Value.int .i64)).length : Int)) = false by simp; omega] at IS
    have HI := Lib.hid IS
    obtain ⟨L, hL⟩ : ∃ L, l.length = L := ⟨_, rfl⟩
    rw [List.length_map] at HW ⊢
    rw [hL] at c0 HW hc hN lim ⊢
    clear h hB IS hL bb hg XA
    go_enter Try.func13, Try.ntmps13
    go_wp2_with (first
      | (go_at_call 23; (with_reducible refine (P.out).mono ?_); rintro e w' ⟨rfl, rfl⟩)
      | (go_at_call 25; (with_reducible refine (HI.out).mono ?_); rintro e w' ⟨rfl, rfl⟩))
    go_ret
    exact ⟨rfl, HW.out _ ((Below.refl _ _).alloc (Nat.le_refl _) _)⟩
end Go.Proofs.Yticjepfcgfdmgaa
