/- A step: Push. -/
import Derived.Test.YticjepfcgfdmgaaU
namespace Go.Proofs.Yticjepfcgfdmgaa
set_option linter.unusedVariables false
set_option linter.unusedSimpArgs false
open Go.RowKit

/-- append onto a row of the call's own, as a step of a region that draws. -/
theorem step_append_row {P : Program} {ops : Array Oper} {o : Oper} {a : Act} {w : World} {K : Act → World → Prop} {Q : Exit → Act → World → Prop} {E : Prop}
    (hg : o.guard = none) (s x : Operand) (t : TypeId) (hop : o.op = Op.call { callee := Callee.builtin Builtin.append, args := #[s, x], argTypes := #[t, t] })
    (base : Nat) (e : TypeId) (i : TypeInfo) (z : Value) (size bytes : Nat) (h1 : P.underlying t = some (.slice e)) (h2 : P.info? e = some i) (h3 : i.zero = some z) (h4 : i.size = size) (h5 : i.bytes = bytes) (h6 : z.cells.size = size) (h7 : 0 < size)
    (v : Value) (n : Nat) (xs : List Value) (hs : a.eval s = v) (hown : w.ownsRow base e size v n xs)
    (ad : Addr) (m c : Nat) (news : List Value) (hx : a.eval x = .slice (some ad) m c) (hn : news.length = m * size) (hc : ∀ j u, news[j]? = some u → w.cell? (ad.add j) = some u) (h1c : ∀ u ∈ news, u.oneCell' = true)
    (b1 : n + m ≤ maxLen) (b2 : (n + m) * bytes ≤ 140737488355328) (hbase : base ≤ w.heap.size)
    (hK : ∀ v' w', w'.ownsRow base e size v' (n + m) (xs ++ news) → w.grownBy w' v.ownBlock → (v'.ownBlock = v.ownBlock ∨ v'.ownBlock = some w.heap.size) → K (a.put o.dst v') w') :
    if Region.wanted o (yielded ops a.tmps) = true then Oper.wp P o a w K Q else E := by
  have hw : Region.wanted o (yielded ops a.tmps) = true := by simp [Region.wanted, hg]
  rw [if_pos hw]
  obtain ⟨v', w', hrun, r1, r2, _, r4⟩ := run_append_own_at (P := P) w base t o.type e i z size bytes h1 h2 h3 h4 h5 h6 h7 v n xs hown ad m c news hn hc h1c b1 b2 hbase
  unfold Oper.wp
  simp [execOp, hop, resolve, invoke, builtin, hs, hx, hrun, Result.andThen]
  exact hK v' w' r1 r2 r4
theorem cell_one {w : World} {x : Value} {T : TypeId} : ∀ j u, [x][j]? = some u → ((w.alloc (.cells #[x] T)).drew).cell? ((⟨w.heap.size, 0, none⟩ : Addr).add j) = some u := by
  intro j u hj
  have e : ((w.alloc (.cells #[x] T)).drew).heap[w.heap.size]? = some (.cells #[x] T (0, 0)) := heap_alloc_new w _
  have ha : (⟨w.heap.size, 0, none⟩ : Addr).add j = ⟨w.heap.size, j, none⟩ := by unfold Addr.add; split <;> simp_all
  rw [ha, cell_of_row _ _ _ _ _ _ e]
  simpa using hj
/-- The model's row has grown: its field is written. -/
theorem model_put {w1 w2 : World} {B mb : Nat} {u u2 : Value} {xs ys : List Value} {X : Obj} {most over under : Int} (m1 : MStk w1 B mb u xs most over under) (ho : w2.ownsRow B 3 1 u2 ys.length ys)
    (hg : ((w1.alloc X).drew).grownBy w2 u.ownBlock) (hat : u2.ownBlock = u.ownBlock ∨ u2.ownBlock = some ((w1.alloc X).drew).heap.size) :
    w2.cell? ⟨mb, 0, none⟩ = some u ∧ w2.frozen? ⟨mb, 0, none⟩ = false ∧ MStk (w2.setCell ⟨mb, 0, none⟩ u2) B mb u2 ys most over under ∧ Fr mb u w1 (w2.setCell ⟨mb, 0, none⟩ u2) ∧ Old w1 u u2 := by
  have hg2 : w1.grownBy w2 u.ownBlock := ⟨hg.os, hg.tape, hg.output, Nat.le_trans (by show w1.heap.size ≤ (w1.alloc X).heap.size; simp) hg.size, fun k hk hne => (hg.block k (by show k < (w1.alloc X).heap.size; simp; omega) hne).trans (Below.heap_alloc w1 X k hk)⟩
  have hne := m1.ne (by decide)
  have hb : w2.heap[mb]? = w1.heap[mb]? := hg2.block mb m1.lt (fun g => hne g.symm)
  refine ⟨(World.cell?_of_block (w := w1) hb).trans m1.cell.1, (World.frozen?_of_block (w := w1) hb).trans (m1.frozen 0), ?_⟩
  refine Stk.put m1 hg2 ho ?_ (by decide)
  rcases hat with h | h
  · exact .inl h
  · refine .inr fun g hg => ?_
    rw [h] at hg
    injection hg with hg
    rw [← hg]
    show w1.heap.size ≤ (w1.alloc X).heap.size
    simp
set_option maxRecDepth 100000 in
set_option maxHeartbeats 4000000 in
theorem does_1 (N V : Int) (b mb : Nat) (v u : Value) (l : List Int) (most over under : Int) (B : Nat) (w : World) (h : Both w B b v mb u l most over under) (hm : most ≤ 100000) (hBw : B ≤ w.heap.size) :
    Calls Try.prog 13 #[.pointer (some ⟨b, 0, none⟩), .pointer (some ⟨mb, 0, none⟩), .agg #[.int .i64 1, .int .i64 N, .int .i64 V]] w fun e w' => e = .returned (.bool true) ∧ Went w w' B b v mb u most over under := by
  have bb : Below w.heap.size w (w.alloc (.cells #[.int .i64 1, .int .i64 N, .int .i64 V] 42)) := (Below.refl _ _).alloc (Nat.le_refl _) _
  have XA : (w.alloc (.cells #[.int .i64 1, .int .i64 N, .int .i64 V] 42)).heap[w.heap.size]? = some (.cells #[.int .i64 1, .int .i64 N, .int .i64 V] 42 (0, 0)) := heap_alloc_new w _
  have hB := h.below bb
  have lim := h.lim
  have hlt := h.m.lt
  obtain ⟨a, c, rfl, hc, hg⟩ := own_form h.m.2.2
  obtain ⟨c0, c1, c2, c3⟩ := h.m.cell
  rw [List.length_map] at hg hc c0
  by_cases hN : (l.length : Int) < most
  · have P := push_room b v (l.map (.int .i64)) most over under V B _ hB.s (Nat.le_trans hBw bb.size) ⟨by omega, hm⟩ (by rw [List.length_map]; exact hN)
    have FIN : Hid (∀ w1 v1, IStk w1 B b v1 (l.map (.int .i64) ++ [.int .i64 V]) most over under → Fr b v (w.alloc (.cells #[.int .i64 1, .int .i64 N, .int .i64 V] 42)) w1 → Old (w.alloc (.cells #[.int .i64 1, .int .i64 N, .int .i64 V] 42)) v v1 →
        (w1.cell? ⟨w.heap.size, 1, none⟩ = some (.int .i64 N) ∧ w1.cell? ⟨w.heap.size, 2, none⟩ = some (.int .i64 V)) ∧ (w1.cell? ⟨mb, 0, none⟩ = some (.slice a l.length c) ∧ w1.cell? ⟨mb, 1, none⟩ = some (.int .i64 most)) ∧ B ≤ w1.heap.size ∧ mb < w1.heap.size ∧ w.heap.size < w1.heap.size ∧ Hid (MStk w1 B mb (.slice a (l.map (Value.int .i64)).length c) (l.map (.int .i64)) most over under) ∧
        Hid (∀ w2 u2, MStk w2 B mb u2 (l.map (.int .i64) ++ [.int .i64 V]) most over under → Fr mb (.slice a (l.map (Value.int .i64)).length c) w1 w2 → Old w1 (.slice a (l.map (Value.int .i64)).length c) u2 → Went w w2 B b v mb (.slice a (l.map (Value.int .i64)).length c) most over under)) := by
      refine Lib.hid fun w1 v1 s1 f1 o1 => ?_
      obtain ⟨m1, a1, x1, o1, t1⟩ := both_stepS h bb XA s1 f1 o1
      have m0 := m1.cell
      rw [List.length_map] at m0
      have hs : w.heap.size < w1.heap.size := by
        rcases Nat.lt_or_ge w.heap.size w1.heap.size with g | g
        · exact g
        · rw [Array.getElem?_eq_none g] at x1; cases x1
      refine ⟨box_cells x1, ⟨m0.1, m0.2.1⟩, by omega, m1.lt, hs, Lib.hid m1, Lib.hid fun w2 u2 m2 f2 o2 => ?_⟩
      rw [← List.map_singleton, ← List.map_append] at s1 m2
      exact both_stepM s1 m1 a1 o1 t1 m2 f2 o2 (by simp; omega)
    obtain ⟨xs, hxs⟩ : ∃ xs, l.map (Value.int .i64) = xs := ⟨_, rfl⟩
    have hxl : xs.length = l.length := by rw [← hxs, List.length_map]
    rw [hxs] at P FIN ⊢
    rw [hxl] at FIN ⊢
    have HP := Lib.hid P
    obtain ⟨L, hL⟩ : ∃ L, l.length = L := ⟨_, rfl⟩
    rw [hL] at FIN c0 hc hN lim hxl ⊢
    have n0 : ¬ most ≤ (L : Int) := by omega
    have HX := Lib.hid hxl
    have HL : Hid (L + 1 ≤ maxLen ∧ (L + 1) * 8 ≤ 140737488355328) := Lib.hid ⟨by unfold maxLen; omega, by omega⟩
    obtain ⟨i0, hi0, hz0, hz1, hz2⟩ := info_parts info_int
    clear h hB hL hxs bb hg XA P hxl
    go_enter Try.func13, Try.ntmps13
    go_wp2_with (go_at_call 9; (with_reducible refine (HP.out).mono ?_); rintro e w1 ⟨rfl, v1, s1, f1, o1⟩; obtain ⟨⟨q1, q2⟩, ⟨m0, m1⟩, hB1, hm1, hw1, HM, HE⟩ := FIN.out w1 v1 s1 f1 o1; clear s1 f1 o1)
    have OW : Hid ((((w1.alloc (.cells #[.int .i64 V] 3)).drew).ownsRow B 3 1 (.slice a L c) L xs) ∧ B ≤ ((w1.alloc (.cells #[.int .i64 V] 3)).drew).heap.size) :=
      Lib.hid ⟨by have := (HM.out.2.2).alloc (.cells #[.int .i64 V] 3); rw [HX.out] at this; exact this, Nat.le_trans hB1 (by show w1.heap.size ≤ (w1.alloc _).heap.size; simp)⟩
    have END : Hid (∀ u2 w2, w2.ownsRow B 3 1 u2 (L + 1) (xs ++ [.int .i64 V]) → ((w1.alloc (.cells #[.int .i64 V] 3)).drew).grownBy w2 (Value.slice a L c).ownBlock → (u2.ownBlock = (Value.slice a L c).ownBlock ∨ u2.ownBlock = some ((w1.alloc (.cells #[.int .i64 V] 3)).drew).heap.size) →
        w2.cell? ⟨mb, 0, none⟩ = some (.slice a L c) ∧ w2.frozen? ⟨mb, 0, none⟩ = false ∧ Hid (Went w (w2.setCell ⟨mb, 0, none⟩ u2) B b v mb (.slice a L c) most over under)) := by
      refine Lib.hid fun u2 w2 ho hg hat => ?_
      obtain ⟨p1, p2, p3, p4, p5⟩ := model_put (X := .cells #[.int .i64 V] 3) HM.out (ys := xs ++ [.int .i64 V]) (by rw [List.length_append, HX.out]; exact ho) hg hat
      exact ⟨p1, p2, Lib.hid (HE.out _ _ p3 p4 p5)⟩
    have AT := Lib.hid (cell_one (w := w1) (x := .int .i64 V) (T := 3))
    go_region_law (refine step_append_row rfl (.tmp 51) (.tmp 54) 22 rfl B 3 i0 (.int .i64 0) 1 8 Try.underlying22 hi0 hz0 hz1 hz2 rfl (by decide) (.slice a L c) L xs (by simp [Act.eval, Act.put]) OW.out.1 ⟨w1.heap.size, 0, none⟩ 1 1 [.int .i64 V] (by simp [Act.eval, Act.put]) rfl AT.out (by intro u hu; rw [List.mem_singleton.1 hu]; rfl) HL.out.1 HL.out.2 OW.out.2 ?_; intro u2 w2 hown hg hat; obtain ⟨a2, d2, rfl⟩ := ownsRow_slice hown; obtain ⟨hc1, hf1, hend⟩ := END.out _ _ hown hg hat; clear hown hg hat)
    all_goals
      go_wp2_with fail
      go_ret
      exact ⟨rfl, hend.out⟩
  · have HW := Lib.hid (fun w1 (hb : Below w.heap.size w w1) => Went.of_below h hb)
    have P := Lib.hid (push_full b v (l.map (.int .i64)) most over under (.int .i64 V) B _ hB.s ⟨by omega, hm⟩ (by rw [List.length_map]; omega) (by rw [List.length_map]; omega))
    have HCC : Hid (∀ w', Below (w.alloc (.cells #[.int .i64 1, .int .i64 N, .int .i64 V] 42)).heap.size (w.alloc (.cells #[.int .i64 1, .int .i64 N, .int .i64 V] 42)) w' → (w'.cell? ⟨mb, 1, none⟩ = some (.int .i64 most) ∧ w'.cell? ⟨mb, 2, none⟩ = some (.int .i64 over) ∧ w'.cell? ⟨mb, 3, none⟩ = some (.int .i64 under)) ∧ Below w.heap.size w w') :=
      Lib.hid fun w' hb => ⟨(hB.m.below hb).cell.2, below_then bb bb.size hb⟩
    rw [List.length_map] at HW ⊢
    obtain ⟨L, hL⟩ : ∃ L, l.length = L := ⟨_, rfl⟩
    rw [hL] at c0 HW hc hN lim ⊢
    have n0 : most ≤ (L : Int) := by omega
    clear h hB bb hg XA hL
    go_enter Try.func13, Try.ntmps13
    go_wp2_with (go_at_call 9; (with_reducible refine (P.out).mono ?_); rintro e w' ⟨rfl, hb⟩; obtain ⟨⟨d1, d2, d3⟩, hb2⟩ := HCC.out _ hb)
    go_ret
    exact ⟨rfl, HW.out _ hb2⟩
end Go.Proofs.Yticjepfcgfdmgaa
