/- New of a list with an event that it does not take. -/
import Derived.Test.YthigimmlhgdchaaW
namespace Go.Proofs.Ythigimmlhgdchaa
set_option linter.unusedVariables false
set_option linter.unusedSimpArgs false
open Go.RowKit

set_option maxHeartbeats 8000000 in
theorem new_evil (l : List (Int × Int)) (v : Value) (s : Int) (w : World) (hv : Evs w v l) (hl : l.length ≤ 2000) (j : Nat) (hj : j < l.length) (hok : ∀ i, i < j → okE (l.getD i (0, 0))) (hno : ¬ okE (l.getD j (0, 0))) (s0 : 0 ≤ s) (s1 : s ≤ 8589934592) :
    Calls Try.prog 9 #[.int .i64 s, v] w fun e w' => e = .returned (.tuple #[.pointer none, .int .i64 1]) ∧ Below w.heap.size w w' := by
  have HE := Lib.hid hv
  obtain ⟨a, c, rfl, hc, hr⟩ := hv
  obtain ⟨L, hL⟩ : ∃ L, l.length = L := ⟨_, rfl⟩
  rw [hL] at hc hl hj
  have HL := Lib.hid hL
  have HO := Lib.hid hok
  have hjL : j < L := by omega
  have HX := Lib.hid hno
  have HR := Lib.hid hr
  rw [hL]
  clear hL hr hok hno
  go_enter Try.func9, Try.ntmps9
  go_wp2_with fail
  go_loopw [23] (fun v23 wx => ∃ i : Nat, i ≤ j ∧ v23 = .int .i64 i ∧ ∃ v', Clk 54 wx w.heap.size s 0 v' ∧ Hid (wx.ownsRow (w.heap.size + 1) 58 3 v' i (cells3 (ev3 (l.take i)))) ∧ Below w.heap.size w wx) (fun v23 _ => L - (intOf v23).toNat)
  case atStart => exact ⟨0, Nat.zero_le _, rfl, .slice none 0 0, heap_alloc_new w _, Lib.hid (World.ownsRow_nil _ _ _ _), (Below.refl _ _).alloc (Nat.le_refl _) _⟩
  case round =>
    obtain ⟨i, hi, rfl, v', hC, hR, hB⟩ := hrel
    have hiL : i < L := by omega
    by_cases hij : i < j
    · obtain ⟨g, off, rfl, hcell⟩ : ∃ g off, a = some ⟨g, off, none⟩ ∧ ∀ i, i < l.length → w.cell? ⟨g, off + i * 2, none⟩ = some (.int .i64 (l.getD i (0, 0)).1) ∧ w.cell? ⟨g, off + i * 2 + 1, none⟩ = some (.int .i64 (l.getD i (0, 0)).2) := by
        rcases HR.out with h | h
        · have := HL.out; rw [h] at this; simp at this; omega
        · exact h
      obtain ⟨T, hT⟩ : ∃ T, (l.getD i (0, 0)).1 = T := ⟨_, rfl⟩
      obtain ⟨C, hCC⟩ : ∃ C, (l.getD i (0, 0)).2 = C := ⟨_, rfl⟩
      have k := hcell i (by have := HL.out; omega)
      have k0 := cell_below hB k.1
      have k1 := cell_below hB k.2
      rw [hT] at k0
      rw [hCC] at k1
      clear hcell k
      have hk : okE (T, C) := by
        have := HO.out i hij
        rw [← hT, ← hCC]; exact this
      have t0 : 0 ≤ T := hk.1
      have t1 : T ≤ 1099511627776 := hk.2.1
      have IS := Lib.hid (fun w => is_c C w)
      have c2 := hC.c2
      have bA : Below wr.heap.size wr (wr.alloc (.cells #[.int .i64 T, .int .i64 C] 32)) := (Below.refl _ _).alloc (Nat.le_refl _) _
      have bB : Below wr.heap.size wr ((wr.alloc (.cells #[.int .i64 T, .int .i64 C] 32)).alloc (.cells #[.int .i64 T, .int .i64 C, .int .i64 i] 58)) := bA.alloc (by simp) _
      have c2a := (hC.below bA).c2
      have c2b := (hC.below bB).c2
      obtain ⟨i0, z0, hi0, hz0, hz1, hz2, hz3⟩ := info_event_parts
      have OW : Hid ((((wr.alloc (.cells #[.int .i64 T, .int .i64 C] 32)).alloc (.cells #[.int .i64 T, .int .i64 C, .int .i64 i] 58)).drew).ownsRow (w.heap.size + 1) 58 3 v' i (cells3 (ev3 (l.take i)))) :=
        Lib.hid ((hR.out.alloc _).alloc _)
      have FIN : Hid (∀ v'' w1, w1.ownsRow (w.heap.size + 1) 58 3 v'' (i + 1) (cells3 (ev3 (l.take i)) ++ [.int .i64 T, .int .i64 C, .int .i64 i]) → (((wr.alloc (.cells #[.int .i64 T, .int .i64 C] 32)).alloc (.cells #[.int .i64 T, .int .i64 C, .int .i64 i] 58)).drew).grownBy w1 v'.ownBlock →
          w1.cell? ⟨w.heap.size, 2, none⟩ = some v' ∧ w1.frozen? ⟨w.heap.size, 2, none⟩ = false ∧ Hid (Clk 54 (w1.setCell ⟨w.heap.size, 2, none⟩ v'') w.heap.size s 0 v'' ∧ (w1.setCell ⟨w.heap.size, 2, none⟩ v'').ownsRow (w.heap.size + 1) 58 3 v'' (i + 1) (cells3 (ev3 (l.take (i + 1)))) ∧ Below w.heap.size w (w1.setCell ⟨w.heap.size, 2, none⟩ v''))) := by
        refine Lib.hid fun v'' w1 h1 hg => ?_
        have := clk_grown hC hR.out (below_drewN bB 1) (fun _ _ => trivial) h1 hg
        refine ⟨this.1, this.2.1, Lib.hid ⟨this.2.2.1, ?_, this.2.2.2.2 w (Nat.le_refl _) hB⟩⟩
        rw [ev3_take (by have := HL.out; omega), cells3_concat, hT, hCC]
        exact this.2.2.2.1
      have AT : Hid (∀ j u, [Value.int .i64 T, .int .i64 C, .int .i64 i][j]? = some u → (((wr.alloc (.cells #[.int .i64 T, .int .i64 C] 32)).alloc (.cells #[.int .i64 T, .int .i64 C, .int .i64 i] 58)).drew).cell? ((⟨wr.heap.size + 1, 0, none⟩ : Addr).add j) = some u) := by
        refine Lib.hid fun j u hj => ?_
        have e : ((((wr.alloc (.cells #[.int .i64 T, .int .i64 C] 32)).alloc (.cells #[.int .i64 T, .int .i64 C, .int .i64 i] 58)).drew)).heap[wr.heap.size + 1]? = some (.cells #[.int .i64 T, .int .i64 C, .int .i64 i] 58) := by
          have := heap_alloc_new (wr.alloc (.cells #[.int .i64 T, .int .i64 C] 32)) (.cells #[.int .i64 T, .int .i64 C, .int .i64 i] 58)
          rw [show (wr.alloc (.cells #[.int .i64 T, .int .i64 C] 32)).heap.size = wr.heap.size + 1 by simp] at this
          exact this
        have ha : (⟨wr.heap.size + 1, 0, none⟩ : Addr).add j = ⟨wr.heap.size + 1, j, none⟩ := by unfold Addr.add; split <;> simp_all
        rw [ha, cell_of_row _ _ _ _ _ _ e]
        simpa using hj
      have hs0 : w.heap.size + 1 ≤ wr.heap.size := hC.lt
      have hkk := hk.2.2
      clear hk
      have hk2 : (i : Int) < L := by omega
      clear HE HO HX
      rcases hkk with hc1 | ⟨hc1, hc2, hc3⟩
      all_goals
        rw [hc1] at IS
        clear hc1
        clear hC hR hB bA bB hT hCC
        go_wp2_with (go_at_call 19; (with_reducible refine (IS.out _).mono ?_); rintro e w' ⟨rfl, rfl⟩)
        go_region_law (refine step_append_row rfl (.tmp 56) (.tmp 60) 52 rfl (w.heap.size + 1) 58 i0 z0 3 24 Try.underlying52 hi0 hz0 hz1 hz2 hz3 (by decide) v' i (cells3 (ev3 (l.take i))) (by simp [Act.eval, Act.put]) OW.out ⟨wr.heap.size + 1, 0, none⟩ 1 1 [.int .i64 T, .int .i64 C, .int .i64 i] (by simp [Act.eval, Act.put]) rfl AT.out (by simp [Value.oneCell']) (by unfold maxLen; omega) (by omega) (by simp; omega) ?_; intro v'' w1 hown hg hat; obtain ⟨a1, d1, rfl⟩ := ownsRow_slice3 hown; obtain ⟨hc1, hf1, hend⟩ := FIN.out _ _ hown hg; clear hown hg hat)
        all_goals
          go_wp2_with fail
          go_roundw
          case rel => exact ⟨i + 1, by omega, by push_cast; rfl, _, hend.out.1, Lib.hid hend.out.2.1, hend.out.2.2⟩
          case measure => simp [intOf]; omega
    · have e : i = j := by omega
      subst e
      obtain ⟨g, off, rfl, hcell⟩ : ∃ g off, a = some ⟨g, off, none⟩ ∧ ∀ i, i < l.length → w.cell? ⟨g, off + i * 2, none⟩ = some (.int .i64 (l.getD i (0, 0)).1) ∧ w.cell? ⟨g, off + i * 2 + 1, none⟩ = some (.int .i64 (l.getD i (0, 0)).2) := by
        rcases HR.out with h | h
        · have := HL.out; rw [h] at this; simp at this; omega
        · exact h
      have hx := HX.out
      obtain ⟨⟨T, C⟩, hT⟩ : ∃ T, l.getD i (0, 0) = T := ⟨_, rfl⟩
      have k := hcell i (by have := HL.out; omega)
      have k0 := cell_below hB k.1
      have k1 := cell_below hB k.2
      rw [hT] at k0 k1 hx
      have IS := Lib.hid (fun w => is_c C w)
      have hk2 : (i : Int) < L := by omega
      have hbz : Below w.heap.size w (wr.alloc (.cells #[.int .i64 T, .int .i64 C] 32)) := hB.alloc hB.size _
      have BZ := Lib.hid hbz
      clear HE HO HX hcell k hT hC hR hB hbz
      by_cases t0 : T < 0
      · clear hx
        go_wp2_with fail
        go_ret2
        exact ⟨rfl, BZ.out⟩
      · by_cases t1 : 1099511627776 < T
        · clear hx
          go_wp2_with fail
          go_ret2
          exact ⟨rfl, BZ.out⟩
        · cases hc : isC C
          · have hx2 : C < 16777216 ∨ (¬ C < 16777216 ∧ 285212671 < C) := by
              by_cases c0 : C < 16777216
              · exact .inl c0
              · by_cases c1 : 285212671 < C
                · exact .inr ⟨c0, c1⟩
                · exact absurd ⟨by omega, by omega, .inr ⟨hc, by omega, by omega⟩⟩ hx
            rw [hc] at IS
            clear hx hc
            rcases hx2 with c0 | ⟨c0, c1⟩
            all_goals
              go_wp2_with (go_at_call 19; (with_reducible refine (IS.out _).mono ?_); rintro e w' ⟨rfl, rfl⟩)
              go_ret2
              exact ⟨rfl, BZ.out⟩
          · exact absurd ⟨by omega, by omega, .inl hc⟩ hx
theorem first_bad {P : Nat → Prop} : ∀ n, (∃ i, i < n ∧ ¬ P i) → ∃ j, j < n ∧ ¬ P j ∧ ∀ i, i < j → P i := by
  intro n
  induction n with
  | zero => rintro ⟨i, h, _⟩; omega
  | succ n ih =>
    rintro ⟨i, h, hp⟩
    by_cases hq : ∃ k, k < n ∧ ¬ P k
    · obtain ⟨j, h1, h2, h3⟩ := ih hq
      exact ⟨j, by omega, h2, h3⟩
    · have he : i = n := by
        by_cases hin : i < n
        · exact absurd ⟨i, hin, hp⟩ hq
        · omega
      subst he
      exact ⟨i, h, hp, fun k hk => Classical.byContradiction fun hn => hq ⟨k, hk, hn⟩⟩
end Go.Proofs.Ythigimmlhgdchaa
