/- A step: Cut to no less. -/
import Derived.Test.YticjepfcgfdmgaaY
namespace Go.Proofs.Yticjepfcgfdmgaa
set_option linter.unusedVariables false
set_option linter.unusedSimpArgs false
open Go.RowKit

def lenAt (mb : Nat) (w : World) : Nat := match w.cell? ⟨mb, 0, none⟩ with | some (.slice _ n _) => n | _ => 0
theorem lenAt_of {w : World} {B mb : Nat} {u : Value} {xs : List Value} {most over under : Int} (h : MStk w B mb u xs most over under) : lenAt mb w = xs.length := by
  obtain ⟨a, c, rfl, _⟩ := h.form
  unfold lenAt
  rw [h.cell.1]
theorem model_grown {wr w2 : World} {B mb : Nat} {u u2 : Value} {xs ys : List Value} {most over under : Int} (m1 : MStk wr B mb u xs most over under) (ho : w2.ownsRow B 3 1 u2 ys.length ys)
    (hg : wr.grownBy w2 u.ownBlock) (hat : u2.ownBlock = u.ownBlock ∨ ∀ g, u2.ownBlock = some g → wr.heap.size ≤ g) :
    w2.cell? ⟨mb, 0, none⟩ = some u ∧ w2.frozen? ⟨mb, 0, none⟩ = false ∧ MStk (w2.setCell ⟨mb, 0, none⟩ u2) B mb u2 ys most over under ∧ Fr mb u wr (w2.setCell ⟨mb, 0, none⟩ u2) ∧ Old wr u u2 := by
  have hne := m1.ne (by decide)
  have hb : w2.heap[mb]? = wr.heap[mb]? := hg.block mb m1.lt (fun g => hne g.symm)
  exact ⟨(World.cell?_of_block (w := wr) hb).trans m1.cell.1, (World.frozen?_of_block (w := wr) hb).trans (m1.frozen 0), Stk.put m1 hg ho hat (by decide)⟩
/-- One more zero. -/
theorem zs_more (l : List Int) (j : Nat) : (l ++ List.replicate j 0).map (Value.int .i64) ++ [.int .i64 0] = (l ++ List.replicate (j + 1) 0).map (Value.int .i64) := by
  rw [List.replicate_succ', ← List.append_assoc, List.map_append (l₂ := [0])]
  rfl
set_option maxRecDepth 100000 in
set_option maxHeartbeats 8000000 in
theorem does_7b (N V : Int) (b mb : Nat) (v u : Value) (l : List Int) (most over under : Int) (B E : Nat) (w : World) (h : Both w B b v mb u l most over under) (hm : most ≤ 100000) (hBw : B ≤ w.heap.size) (hE : min (max N 0) most = E) (hEl : (l.length : Int) ≤ max N 0) :
    Calls Try.prog 13 #[.pointer (some ⟨b, 0, none⟩), .pointer (some ⟨mb, 0, none⟩), .agg #[.int .i64 7, .int .i64 N, .int .i64 V]] w fun e w' => e = .returned (.bool true) ∧ Went w w' B b v mb u most over under := by
  have bb : Below w.heap.size w (w.alloc (.cells #[.int .i64 7, .int .i64 N, .int .i64 V] 42)) := (Below.refl _ _).alloc (Nat.le_refl _) _
  have XA : (w.alloc (.cells #[.int .i64 7, .int .i64 N, .int .i64 V] 42)).heap[w.heap.size]? = some (.cells #[.int .i64 7, .int .i64 N, .int .i64 V] 42 (0, 0)) := heap_alloc_new w _
  have hB := h.below bb
  have lim := h.lim
  have hlt := h.m.lt
  obtain ⟨a, c, rfl, hc⟩ := h.m.form
  obtain ⟨c0, c1, c2, c3⟩ := h.m.cell
  rw [List.length_map] at hc c0
  obtain ⟨m, hmE⟩ : ∃ m, l.length + m = E := ⟨E - l.length, by omega⟩
  have P := cut_more b v l most over under N m B _ hB.s (Nat.le_trans hBw bb.size) ⟨by omega, hm⟩ lim hEl (by omega)
  have FIN : Hid (∀ w1 v1, IStk w1 B b v1 ((l ++ List.replicate m 0).map (.int .i64)) most over under → Fr b v (w.alloc (.cells #[.int .i64 7, .int .i64 N, .int .i64 V] 42)) w1 → Old (w.alloc (.cells #[.int .i64 7, .int .i64 N, .int .i64 V] 42)) v v1 →
      (w1.cell? ⟨w.heap.size, 1, none⟩ = some (.int .i64 N) ∧ w1.cell? ⟨w.heap.size, 2, none⟩ = some (.int .i64 V)) ∧ (w1.cell? ⟨mb, 0, none⟩ = some (.slice a l.length c) ∧ w1.cell? ⟨mb, 1, none⟩ = some (.int .i64 most)) ∧
      Hid (MStk w1 B mb (.slice a (l.map (Value.int .i64)).length c) (l.map (.int .i64)) most over under ∧ B ≤ w1.heap.size) ∧
      Hid (∀ w2 u2, MStk w2 B mb u2 ((l ++ List.replicate m 0).map (.int .i64)) most over under → Fr mb (.slice a (l.map (Value.int .i64)).length c) w1 w2 → Old w1 (.slice a (l.map (Value.int .i64)).length c) u2 → Went w w2 B b v mb (.slice a (l.map (Value.int .i64)).length c) most over under)) := by
    refine Lib.hid fun w1 v1 s1 f1 o1 => ?_
    obtain ⟨m1, a1, x1, o1, t1⟩ := both_stepS h bb XA s1 f1 o1
    have m0 := m1.cell
    rw [List.length_map] at m0
    refine ⟨box_cells x1, ⟨m0.1, m0.2.1⟩, Lib.hid ⟨m1, Nat.le_trans hBw t1.size⟩, Lib.hid fun w2 u2 m2 f2 o2 => ?_⟩
    exact both_stepM s1 m1 a1 o1 t1 m2 f2 o2 (by rw [List.length_append, List.length_replicate]; omega)
  obtain ⟨ys, hys⟩ : ∃ ys, (l ++ List.replicate m 0).map (Value.int .i64) = ys := ⟨_, rfl⟩
  have HY : Hid (∀ j, ((l ++ List.replicate j 0).map (Value.int .i64)).length = l.length + j) := Lib.hid fun j => by simp
  have HY0 : Hid (l.map (Value.int .i64) = (l ++ List.replicate 0 0).map (Value.int .i64)) := Lib.hid (by simp)
  have HYM : Hid ((l ++ List.replicate m 0).map (Value.int .i64) = ys) := Lib.hid hys
  rw [hys] at P FIN
  have HP := Lib.hid P
  rw [List.length_map] at FIN ⊢
  obtain ⟨L, hL⟩ : ∃ L, l.length = L := ⟨_, rfl⟩
  rw [hL] at FIN c0 hc lim HY hmE hEl ⊢
  have n0 : (E : Int) ≤ most := by omega
  have n3 : ¬ most < (E : Int) := by omega
  have n4 : ¬ most < 0 := by omega
  have HE : Hid (L + m = E ∧ E ≤ 100000) := Lib.hid ⟨hmE, by omega⟩
  have hN : (0 ≤ N ∧ N ≤ most ∧ N = E) ∨ (0 ≤ N ∧ most < N ∧ most = E) ∨ (N < 0 ∧ 0 ≤ most ∧ E = 0) := by omega
  clear h hB hL hys bb XA P hE hEl hmE lim
  rcases hN with ⟨n1, n2, rfl⟩ | ⟨n1, n2, rfl⟩ | ⟨n1, n2, rfl⟩
  · go_enter Try.func13, Try.ntmps13
    go_wp2_with (go_at_call 20; (with_reducible refine (HP.out).mono ?_); rintro e w1 ⟨rfl, v1, s1, f1, o1⟩; obtain ⟨⟨q1, q2⟩, ⟨m0, m1⟩, HM, HW⟩ := FIN.out w1 v1 s1 f1 o1; clear s1 f1 o1)
    go_big_region
    all_goals
      go_wp2_with fail
      go_loopw [] (fun wr => ∃ (j n : Nat) (a' : Option Addr) (c' : Nat), j ≤ m ∧ n = L + j ∧ n ≤ c' ∧ (wr.cell? ⟨mb, 0, none⟩ = some (.slice a' n c') ∧ wr.frozen? ⟨mb, 0, none⟩ = false ∧ mb < wr.heap.size) ∧ Hid (MStk wr B mb (.slice a' n c') ((l ++ List.replicate j 0).map (.int .i64)) most over under ∧ B ≤ wr.heap.size) ∧ Hid (Fr mb (.slice a L c) w1 wr ∧ Old w1 (.slice a L c) (.slice a' n c'))) (fun wr => L + m - lenAt mb wr)
      case atStart =>
        refine ⟨0, L, a, c, Nat.zero_le _, rfl, hc, ⟨m0, HM.out.1.frozen 0, HM.out.1.lt⟩, Lib.hid ⟨?_, HM.out.2⟩, Lib.hid ⟨Fr.of_below (below_drewN (Below.refl _ _) 1), .inl rfl⟩⟩
        have := HM.out.1.below (below_drewN (Below.refl _ _) 1)
        rw [HY0.out] at this
        exact this
      case round =>
        obtain ⟨j, n, a', c', hj, hn, hnc, ⟨k0, k1, k2⟩, HR, HF⟩ := hrel
        have HN := Lib.hid hn
        clear hn
        by_cases hjm : j < m
        · have hnE : (n : Int) < E := by have := HE.out; have := HN.out; omega
          have END : Hid (∀ u2 w2, w2.ownsRow B 3 1 u2 (n + 1) ((l ++ List.replicate j 0).map (.int .i64) ++ [.int .i64 0]) → wr.grownBy w2 (Value.slice a' n c').ownBlock → (u2.ownBlock = (Value.slice a' n c').ownBlock ∨ ∀ g, u2.ownBlock = some g → wr.heap.size ≤ g) →
              w2.cell? ⟨mb, 0, none⟩ = some (.slice a' n c') ∧ w2.frozen? ⟨mb, 0, none⟩ = false ∧ Hid (MStk (w2.setCell ⟨mb, 0, none⟩ u2) B mb u2 ((l ++ List.replicate (j + 1) 0).map (.int .i64)) most over under ∧ Fr mb (.slice a L c) w1 (w2.setCell ⟨mb, 0, none⟩ u2) ∧ Old w1 (.slice a L c) u2 ∧ B ≤ (w2.setCell ⟨mb, 0, none⟩ u2).heap.size)) := by
            refine Lib.hid fun u2 w2 ho hg hat => ?_
            rw [zs_more] at ho
            obtain ⟨p1, p2, p3, p4, p5⟩ := model_grown HR.out.1 (ys := (l ++ List.replicate (j + 1) 0).map (.int .i64)) (by rw [HY.out, show L + (j + 1) = n + 1 by have := HN.out; omega]; exact ho) hg hat
            exact ⟨p1, p2, Lib.hid ⟨p3, Fr.trans HF.out.1 HF.out.2 p4, Old.trans HF.out.2 HF.out.1.size p5, Nat.le_trans HR.out.2 p4.size⟩⟩
          have OW : Hid (wr.ownsRow B 3 1 (.slice a' n c') n ((l ++ List.replicate j 0).map (.int .i64))) := Lib.hid (by have := HR.out.1.2.2; rw [HY.out, ← HN.out] at this; exact this)
          have HB : Hid (B ≤ wr.heap.size ∧ n < 1000000000000) := Lib.hid ⟨HR.out.2, by have := HE.out; have := HN.out; omega⟩
          have ML := Lib.hid (lenAt_of HR.out.1)
          obtain ⟨xs, hxs⟩ : ∃ xs, (l ++ List.replicate j 0).map (Value.int .i64) = xs := ⟨_, rfl⟩
          rw [hxs] at END OW
          go_wp2_with (at_builtin; go_loud (refine wp_app1 22 3 (.int .i64 0) 8 Try.underlying22 info_int rfl B (.slice a' n c') n xs (.int .i64 0) wr _ rfl (by rfl) (.tmp 288) (.tmp 289) (by rfl) (by rfl) (by rfl) OW.out HB.out.1 rfl HB.out.2 (by decide) ?_); intro u2 w2 hown hg hat; obtain ⟨a2, d2, rfl⟩ := ownsRow_slice hown; obtain ⟨hc1, hf1, hend⟩ := END.out _ _ hown hg hat; clear hown hg hat)
          go_roundw
          case rel =>
            have g0 := hend.out.1
            obtain ⟨a9, c9, e9, hc9⟩ := g0.form
            injection e9 with e1 e2 e3
            subst e1 e3
            exact ⟨j + 1, n + 1, _, _, by omega, by have := HN.out; omega, by rw [e2]; exact hc9, ⟨g0.cell.1, g0.frozen 0, g0.lt⟩, Lib.hid ⟨g0, hend.out.2.2.2⟩, Lib.hid ⟨hend.out.2.1, hend.out.2.2.1⟩⟩
          case measure =>
            have g0 := lenAt_of hend.out.1
            have g1 := ML.out
            rw [g0, g1, HY.out, HY.out]
            omega
        · have hnE : n = E := by have := HE.out; have := HN.out; omega
          subst hnE
          have e : j = m := by have := HE.out; have := HN.out; omega
          subst e
          have EN : Hid (Went w (wr.setCell ⟨mb, 0, none⟩ (.slice a' n c')) B b v mb (.slice a L c) most over under) := by
            have hr := HR.out.1
            rw [HYM.out] at hr
            obtain ⟨p3, p4, p5⟩ := Stk.put hr (grown_refl _ _) (v1 := .slice a' n c') (ys := ys) hr.2.2 (.inl rfl) (by decide)
            exact Lib.hid (HW.out _ _ p3 (Fr.trans HF.out.1 HF.out.2 p4) (Old.trans HF.out.2 HF.out.1.size p5))
          have hform := HR.out.1.2.2
          rw [HY.out, ← HN.out] at hform
          have hcc : a' = none → c' = 0 ∧ n = 0 := by
            intro h
            rcases hform.2 with ⟨h2, h3⟩ | ⟨g, cap, cur, h2, _⟩
            · injection h2 with _ _ h2; exact ⟨h2, h3⟩
            · rw [h] at h2; cases h2
          clear hform HR HF HM HW HYM HN
          cases a' with
          | none =>
            obtain ⟨rfl, h0⟩ := hcc rfl
            subst h0
            go_wp2_with fail
            go_ret
            exact ⟨rfl, EN.out⟩
          | some ad =>
            clear hcc
            go_wp2_with fail
            go_ret
            exact ⟨rfl, EN.out⟩
  · go_enter Try.func13, Try.ntmps13
    go_wp2_with (go_at_call 20; (with_reducible refine (HP.out).mono ?_); rintro e w1 ⟨rfl, v1, s1, f1, o1⟩; obtain ⟨⟨q1, q2⟩, ⟨m0, m1⟩, HM, HW⟩ := FIN.out w1 v1 s1 f1 o1; clear s1 f1 o1)
    go_big_region
    all_goals
      go_wp2_with fail
      go_loopw [] (fun wr => ∃ (j n : Nat) (a' : Option Addr) (c' : Nat), j ≤ m ∧ n = L + j ∧ n ≤ c' ∧ (wr.cell? ⟨mb, 0, none⟩ = some (.slice a' n c') ∧ wr.frozen? ⟨mb, 0, none⟩ = false ∧ mb < wr.heap.size) ∧ Hid (MStk wr B mb (.slice a' n c') ((l ++ List.replicate j 0).map (.int .i64)) (E : Int) over under ∧ B ≤ wr.heap.size) ∧ Hid (Fr mb (.slice a L c) w1 wr ∧ Old w1 (.slice a L c) (.slice a' n c'))) (fun wr => L + m - lenAt mb wr)
      case atStart =>
        refine ⟨0, L, a, c, Nat.zero_le _, rfl, hc, ⟨m0, HM.out.1.frozen 0, HM.out.1.lt⟩, Lib.hid ⟨?_, HM.out.2⟩, Lib.hid ⟨Fr.of_below (below_drewN (Below.refl _ _) 1), .inl rfl⟩⟩
        have := HM.out.1.below (below_drewN (Below.refl _ _) 1)
        rw [HY0.out] at this
        exact this
      case round =>
        obtain ⟨j, n, a', c', hj, hn, hnc, ⟨k0, k1, k2⟩, HR, HF⟩ := hrel
        have HN := Lib.hid hn
        clear hn
        by_cases hjm : j < m
        · have hnE : (n : Int) < E := by have := HE.out; have := HN.out; omega
          have END : Hid (∀ u2 w2, w2.ownsRow B 3 1 u2 (n + 1) ((l ++ List.replicate j 0).map (.int .i64) ++ [.int .i64 0]) → wr.grownBy w2 (Value.slice a' n c').ownBlock → (u2.ownBlock = (Value.slice a' n c').ownBlock ∨ ∀ g, u2.ownBlock = some g → wr.heap.size ≤ g) →
              w2.cell? ⟨mb, 0, none⟩ = some (.slice a' n c') ∧ w2.frozen? ⟨mb, 0, none⟩ = false ∧ Hid (MStk (w2.setCell ⟨mb, 0, none⟩ u2) B mb u2 ((l ++ List.replicate (j + 1) 0).map (.int .i64)) (E : Int) over under ∧ Fr mb (.slice a L c) w1 (w2.setCell ⟨mb, 0, none⟩ u2) ∧ Old w1 (.slice a L c) u2 ∧ B ≤ (w2.setCell ⟨mb, 0, none⟩ u2).heap.size)) := by
            refine Lib.hid fun u2 w2 ho hg hat => ?_
            rw [zs_more] at ho
            obtain ⟨p1, p2, p3, p4, p5⟩ := model_grown HR.out.1 (ys := (l ++ List.replicate (j + 1) 0).map (.int .i64)) (by rw [HY.out, show L + (j + 1) = n + 1 by have := HN.out; omega]; exact ho) hg hat
            exact ⟨p1, p2, Lib.hid ⟨p3, Fr.trans HF.out.1 HF.out.2 p4, Old.trans HF.out.2 HF.out.1.size p5, Nat.le_trans HR.out.2 p4.size⟩⟩
          have OW : Hid (wr.ownsRow B 3 1 (.slice a' n c') n ((l ++ List.replicate j 0).map (.int .i64))) := Lib.hid (by have := HR.out.1.2.2; rw [HY.out, ← HN.out] at this; exact this)
          have HB : Hid (B ≤ wr.heap.size ∧ n < 1000000000000) := Lib.hid ⟨HR.out.2, by have := HE.out; have := HN.out; omega⟩
          have ML := Lib.hid (lenAt_of HR.out.1)
          obtain ⟨xs, hxs⟩ : ∃ xs, (l ++ List.replicate j 0).map (Value.int .i64) = xs := ⟨_, rfl⟩
          rw [hxs] at END OW
          go_wp2_with (at_builtin; go_loud (refine wp_app1 22 3 (.int .i64 0) 8 Try.underlying22 info_int rfl B (.slice a' n c') n xs (.int .i64 0) wr _ rfl (by rfl) (.tmp 288) (.tmp 289) (by rfl) (by rfl) (by rfl) OW.out HB.out.1 rfl HB.out.2 (by decide) ?_); intro u2 w2 hown hg hat; obtain ⟨a2, d2, rfl⟩ := ownsRow_slice hown; obtain ⟨hc1, hf1, hend⟩ := END.out _ _ hown hg hat; clear hown hg hat)
          go_roundw
          case rel =>
            have g0 := hend.out.1
            obtain ⟨a9, c9, e9, hc9⟩ := g0.form
            injection e9 with e1 e2 e3
            subst e1 e3
            exact ⟨j + 1, n + 1, _, _, by omega, by have := HN.out; omega, by rw [e2]; exact hc9, ⟨g0.cell.1, g0.frozen 0, g0.lt⟩, Lib.hid ⟨g0, hend.out.2.2.2⟩, Lib.hid ⟨hend.out.2.1, hend.out.2.2.1⟩⟩
          case measure =>
            have g0 := lenAt_of hend.out.1
            have g1 := ML.out
            rw [g0, g1, HY.out, HY.out]
            omega
        · have hnE : n = E := by have := HE.out; have := HN.out; omega
          subst hnE
          have e : j = m := by have := HE.out; have := HN.out; omega
          subst e
          have EN : Hid (Went w (wr.setCell ⟨mb, 0, none⟩ (.slice a' n c')) B b v mb (.slice a L c) (n : Int) over under) := by
            have hr := HR.out.1
            rw [HYM.out] at hr
            obtain ⟨p3, p4, p5⟩ := Stk.put hr (grown_refl _ _) (v1 := .slice a' n c') (ys := ys) hr.2.2 (.inl rfl) (by decide)
            exact Lib.hid (HW.out _ _ p3 (Fr.trans HF.out.1 HF.out.2 p4) (Old.trans HF.out.2 HF.out.1.size p5))
          have hform := HR.out.1.2.2
          rw [HY.out, ← HN.out] at hform
          have hcc : a' = none → c' = 0 ∧ n = 0 := by
            intro h
            rcases hform.2 with ⟨h2, h3⟩ | ⟨g, cap, cur, h2, _⟩
            · injection h2 with _ _ h2; exact ⟨h2, h3⟩
            · rw [h] at h2; cases h2
          clear hform HR HF HM HW HYM HN
          cases a' with
          | none =>
            obtain ⟨rfl, h0⟩ := hcc rfl
            subst h0
            go_wp2_with fail
            go_ret
            exact ⟨rfl, EN.out⟩
          | some ad =>
            clear hcc
            go_wp2_with fail
            go_ret
            exact ⟨rfl, EN.out⟩
  · go_enter Try.func13, Try.ntmps13
    go_wp2_with (go_at_call 20; (with_reducible refine (HP.out).mono ?_); rintro e w1 ⟨rfl, v1, s1, f1, o1⟩; obtain ⟨⟨q1, q2⟩, ⟨m0, m1⟩, HM, HW⟩ := FIN.out w1 v1 s1 f1 o1; clear s1 f1 o1)
    go_big_region
    all_goals
      go_wp2_with fail
      go_loopw [] (fun wr => ∃ (j n : Nat) (a' : Option Addr) (c' : Nat), j ≤ m ∧ n = L + j ∧ n ≤ c' ∧ (wr.cell? ⟨mb, 0, none⟩ = some (.slice a' n c') ∧ wr.frozen? ⟨mb, 0, none⟩ = false ∧ mb < wr.heap.size) ∧ Hid (MStk wr B mb (.slice a' n c') ((l ++ List.replicate j 0).map (.int .i64)) most over under ∧ B ≤ wr.heap.size) ∧ Hid (Fr mb (.slice a L c) w1 wr ∧ Old w1 (.slice a L c) (.slice a' n c'))) (fun wr => L + m - lenAt mb wr)
      case atStart =>
        refine ⟨0, L, a, c, Nat.zero_le _, rfl, hc, ⟨m0, HM.out.1.frozen 0, HM.out.1.lt⟩, Lib.hid ⟨?_, HM.out.2⟩, Lib.hid ⟨Fr.of_below (below_drewN (Below.refl _ _) 1), .inl rfl⟩⟩
        have := HM.out.1.below (below_drewN (Below.refl _ _) 1)
        rw [HY0.out] at this
        exact this
      case round =>
        obtain ⟨j, n, a', c', hj, hn, hnc, ⟨k0, k1, k2⟩, HR, HF⟩ := hrel
        have HN := Lib.hid hn
        clear hn
        have hnE : n = 0 := by have := HE.out; have := HN.out; omega
        subst hnE
        have e : j = m := by have := HE.out; have := HN.out; omega
        subst e
        have EN : Hid (Went w (wr.setCell ⟨mb, 0, none⟩ (.slice a' 0 c')) B b v mb (.slice a L c) most over under) := by
          have hr := HR.out.1
          rw [HYM.out] at hr
          obtain ⟨p3, p4, p5⟩ := Stk.put hr (grown_refl _ _) (v1 := .slice a' 0 c') (ys := ys) hr.2.2 (.inl rfl) (by decide)
          exact Lib.hid (HW.out _ _ p3 (Fr.trans HF.out.1 HF.out.2 p4) (Old.trans HF.out.2 HF.out.1.size p5))
        have hform := HR.out.1.2.2
        rw [HY.out, ← HN.out] at hform
        have hcc : a' = none → c' = 0 ∧ 0 = 0 := by
          intro h
          rcases hform.2 with ⟨h2, h3⟩ | ⟨g, cap, cur, h2, _⟩
          · injection h2 with _ _ h2; exact ⟨h2, h3⟩
          · rw [h] at h2; cases h2
        clear hform HR HF HM HW HYM HN
        cases a' with
        | none =>
          obtain ⟨rfl, h0⟩ := hcc rfl
          skip
          go_wp2_with fail
          go_ret
          exact ⟨rfl, EN.out⟩
        | some ad =>
          clear hcc
          go_wp2_with fail
          go_ret
          exact ⟨rfl, EN.out⟩
end Go.Proofs.Yticjepfcgfdmgaa
