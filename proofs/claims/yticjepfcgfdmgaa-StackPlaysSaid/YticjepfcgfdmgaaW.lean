/- A step: Roll. -/
import Derived.Test.YticjepfcgfdmgaaV
namespace Go.Proofs.Yticjepfcgfdmgaa
set_option linter.unusedVariables false
set_option linter.unusedSimpArgs false
open Go.RowKit

theorem own_mono {w : World} {B B2 e k : Nat} {v : Value} {n : Nat} {xs : List Value} (h : w.ownsRow B2 e k v n xs) (hB : B ≤ B2) : w.ownsRow B e k v n xs := by
  obtain ⟨h1, h2⟩ := h
  refine ⟨h1, ?_⟩
  rcases h2 with h2 | ⟨g, cap, cur, rfl, hb, r⟩
  · exact .inl h2
  · exact .inr ⟨g, cap, cur, rfl, Nat.le_trans hB hb, r⟩
theorem below_grown {w w' : World} (h : Below w.heap.size w w') (o : Option Nat) : w.grownBy w' o := ⟨h.os, h.tape, h.output, h.size, fun k hk _ => h.block k hk⟩
set_option maxRecDepth 100000 in
set_option maxHeartbeats 8000000 in
theorem does_6 (N V : Int) (b mb : Nat) (v u : Value) (l : List Int) (most over under : Int) (B : Nat) (w : World) (h : Both w B b v mb u l most over under) (hm : most ≤ 100000) (hBw : B ≤ w.heap.size) :
    Calls Try.prog 13 #[.pointer (some ⟨b, 0, none⟩), .pointer (some ⟨mb, 0, none⟩), .agg #[.int .i64 6, .int .i64 N, .int .i64 V]] w fun e w' => e = .returned (.bool true) ∧ Went w w' B b v mb u most over under := by
  have bb : Below w.heap.size w (w.alloc (.cells #[.int .i64 6, .int .i64 N, .int .i64 V] 42)) := (Below.refl _ _).alloc (Nat.le_refl _) _
  have XA : (w.alloc (.cells #[.int .i64 6, .int .i64 N, .int .i64 V] 42)).heap[w.heap.size]? = some (.cells #[.int .i64 6, .int .i64 N, .int .i64 V] 42 (0, 0)) := heap_alloc_new w _
  have hB := h.below bb
  have lim := h.lim
  have hlt := h.m.lt
  obtain ⟨a, c, rfl, hc, hg⟩ := own_form h.m.2.2
  obtain ⟨c0, c1, c2, c3⟩ := h.m.cell
  rw [List.length_map] at hg hc c0
  by_cases hN : 0 ≤ N ∧ N < (l.length : Int)
  · obtain ⟨i, rfl⟩ := Int.eq_ofNat_of_zero_le hN.1
    obtain ⟨g, rfl, _⟩ := hg (by omega)
    have P := roll_yes b v l most over under i B _ hB.s (by omega) (by omega)
    obtain ⟨p, hp⟩ : ∃ p, l.length - 1 - i = p := ⟨_, rfl⟩
    rw [hp] at P
    have hpl : p < l.length := by omega
    obtain ⟨y, hy⟩ : ∃ y, l.getD p 0 = y := ⟨_, rfl⟩
    have FIN : Hid (∀ w1, IStk w1 B b v ((rolled l p).map (.int .i64)) most over under → Fr b v (w.alloc (.cells #[.int .i64 6, .int .i64 i, .int .i64 V] 42)) w1 →
        (w1.cell? ⟨w.heap.size, 1, none⟩ = some (.int .i64 i) ∧ w1.cell? ⟨w.heap.size, 2, none⟩ = some (.int .i64 V)) ∧ w1.cell? ⟨mb, 0, none⟩ = some (.slice (some ⟨g, 0, none⟩) l.length c) ∧ w1.cell? ⟨g, p, none⟩ = some (.int .i64 y) ∧ Hid (Calls Try.prog 25 #[.pointer (some ⟨mb, 0, none⟩), .int .i64 i] w1 fun e w' => e = .returned (.bool true) ∧ w1 = w') ∧
        Hid (∀ w2, Below w1.heap.size w1 w2 → w2.cell? ⟨mb, 0, none⟩ = some (.slice (some ⟨g, 0, none⟩) l.length c) ∧ w2.frozen? ⟨mb, 0, none⟩ = false ∧ Rd w2 .i64 (.slice (some ⟨g, 0, none⟩) l.length c) l) ∧
        Hid (∀ w4 r4, Below w1.heap.size w1 w4 → w4.ownsRow w1.heap.size 3 1 r4 l.length ((l.take p).map (.int .i64) ++ (l.drop (p + 1)).map (.int .i64) ++ [.int .i64 y]) → Went w (w4.setCell ⟨mb, 0, none⟩ r4) B b v mb (.slice (some ⟨g, 0, none⟩) (l.map (Value.int .i64)).length c) most over under)) := by
      refine Lib.hid fun w1 s1 f1 => ?_
      obtain ⟨m1, a1, x1, o1, t1⟩ := both_stepS h bb XA s1 f1 (.inl rfl)
      have IS := is_c mb _ (l.map (.int .i64)) most over under i B w1 m1
      rw [show decide (0 ≤ (i : Int) ∧ (i : Int) < ((l.map (Value.int .i64)).length : Int)) = true by simp; omega] at IS
      have m0 := m1.cell.1
      rw [List.length_map] at m0
      have hr : Rd w1 .i64 _ l := Rd.of_own m1.2.2
      rw [List.length_map] at hr
      obtain ⟨g2, o2, e2, k0⟩ := hr.at_ (i := p) hpl
      injection e2 with e2
      injection e2 with e2 e3
      subst e2 e3
      rw [Nat.zero_add, hy] at k0
      refine ⟨box_cells x1, m0, k0, Lib.hid IS, Lib.hid fun w2 hb => ⟨cell_below hb m0, ((m1.below hb).frozen 0), hr.below hb⟩, Lib.hid fun w4 r4 hb ho => ?_⟩
      have hl : ((rolled l p).map (Value.int .i64)).length = l.length := by rw [List.length_map, rolled_length hpl]
      have e : (l.take p).map (.int .i64) ++ (l.drop (p + 1)).map (.int .i64) ++ [.int .i64 y] = (rolled l p).map (Value.int .i64) := by
        unfold rolled
        rw [← hy]
        simp
      rw [e] at ho
      obtain ⟨m2, f2, o2⟩ := Stk.put m1 (below_grown hb _) (ys := (rolled l p).map (Value.int .i64)) (v1 := r4) (by rw [hl]; exact own_mono ho (Nat.le_trans hBw t1.size)) (.inr fun k hk => (ho.lt k hk).1) (by decide)
      exact both_stepM s1 m1 a1 o1 t1 m2 f2 o2 (by rw [rolled_length hpl]; exact lim)
    obtain ⟨ys, hys⟩ : ∃ ys, (rolled l p).map (Value.int .i64) = ys := ⟨_, rfl⟩
    rw [hys] at P FIN
    have HP := Lib.hid P
    obtain ⟨A1, hA1⟩ : ∃ A1, l.take p = A1 := ⟨_, rfl⟩
    obtain ⟨A2, hA2⟩ : ∃ A2, l.drop (p + 1) = A2 := ⟨_, rfl⟩
    have R1 : Hid (∀ w2, Rd w2 .i64 (.slice (some ⟨g, 0, none⟩) l.length c) l → Rd w2 .i64 (.slice (some ⟨g, 0, none⟩) p c) A1) := Lib.hid fun w2 hr => by rw [← hA1]; exact hr.take (by omega)
    have R2 : Hid (∀ w2, Rd w2 .i64 (.slice (some ⟨g, 0, none⟩) l.length c) l → Rd w2 .i64 (.slice (some ⟨g, p + 1, none⟩) (l.length - (p + 1)) (c - (p + 1))) A2) := Lib.hid fun w2 hr => by rw [← hA2]; have := hr.drop (m := p + 1) (by omega) rfl rfl; rwa [Nat.zero_add] at this
    have L1 : Hid (A1.length = p) := Lib.hid (by rw [← hA1, List.length_take]; omega)
    have L2 : Hid (A2.length = l.length - (p + 1)) := Lib.hid (by rw [← hA2, List.length_drop])
    rw [hA1, hA2] at FIN
    rw [List.length_map]
    rw [List.length_map] at FIN
    obtain ⟨L, hL⟩ : ∃ L, l.length = L := ⟨_, rfl⟩
    rw [hL] at FIN c0 hc hN lim hp hpl R1 R2 L2 ⊢
    have i1 : IntKind.i64.wrap ((L : Int) - 1) = (L : Int) - 1 := IntWalk.i64_in _ (by omega)
    have i2 : IntKind.i64.wrap ((L : Int) - 1 - i) = (p : Int) := by rw [IntWalk.i64_in _ (by omega)]; omega
    have i3 : IntKind.i64.wrap ((p : Int) + 1) = ((p + 1 : Nat) : Int) := by rw [IntWalk.i64_in _ (by omega)]; omega
    have hpL : (p : Int) < L := by omega
    have hpc : p ≤ c := by omega
    have n1 : (p : Int) ≤ c := by omega
    have n3 : p + 1 ≤ L := by omega
    have n6 : (0 : Int) ≤ p + 1 := by omega
    have n7 : (p : Int) + 1 ≤ L := by omega
    have HS : Hid (p + (L - (p + 1)) + 1 = L ∧ L < 1000000) := Lib.hid ⟨by omega, by omega⟩
    have HIP : Hid (i + p + 1 = L) := Lib.hid (by omega)
    clear h hB hL hp bb hg XA P hys hy hA1 hA2
    have hp1 : p + 1 ≠ c ∨ p + 1 = c := by omega
    rcases hp1 with hp1 | hp1
    · have n4 : ¬ c = p + 1 := by omega
      go_enter Try.func13, Try.ntmps13
      go_wp2_with (first
        | (go_at_call 22; (with_reducible refine (HP.out).mono ?_); rintro e w1 ⟨rfl, s1, f1⟩; obtain ⟨⟨q1, q2⟩, m0, k0, IS, HM, HE⟩ := FIN.out w1 s1 f1; clear s1 f1)
        | (go_at_call 25; (with_reducible refine (IS.out).mono ?_); rintro e w' ⟨rfl, rfl⟩)
        | (at_builtin; go_loud (refine wp_apps 22 3 (.int .i64 0) 8 Try.underlying22 info_int rfl w1.heap.size (.slice none 0 0) 0 [] rfl (.tmp 237) (.tmp 243) (by rfl) (by rfl) (World.ownsRow_nil _ _ _ _) (Nat.le_refl _) .i64 _ A1 (by rfl) (R1.out _ (HM.out _ (Below.refl _ _)).2.2) (by have := L1.out; have := HS.out; omega) (by decide) ?_); intro r2 w2 hown2 hg2 _; have hb2 : Below w1.heap.size w1 w2 := grown_below hg2 (World.ownsRow_nil w1 w1.heap.size 3 1) (Nat.le_refl _); rw [Nat.zero_add, L1.out, List.nil_append] at hown2; have O2 := Lib.hid hown2; obtain ⟨a2, d2, rfl⟩ := ownsRow_slice hown2; obtain ⟨m2, f2, RR2⟩ := HM.out _ hb2; have HRR2 := Lib.hid RR2; clear hown2 hg2 RR2)
        | (at_builtin; go_loud (refine wp_apps 22 3 (.int .i64 0) 8 Try.underlying22 info_int rfl w1.heap.size (.slice a2 p d2) p (A1.map (.int .i64)) rfl (.tmp 245) (.tmp 252) (by rfl) (by rfl) O2.out hb2.size .i64 _ A2 (by rfl) (R2.out _ HRR2.out) (by have := L2.out; have := HS.out; omega) (by decide) ?_); intro r3 w3 hown3 hg3 _; have hb3 : Below w1.heap.size w1 w3 := hb2.trans (grown_below hg3 O2.out hb2.size); rw [L2.out] at hown3; have O3 := Lib.hid hown3; obtain ⟨a3, d3, rfl⟩ := ownsRow_slice hown3; obtain ⟨m3, f3, _⟩ := HM.out _ hb3; clear hown3 hg3)
        | (at_builtin; go_loud (refine wp_app1 22 3 (.int .i64 0) 8 Try.underlying22 info_int rfl w1.heap.size (.slice a3 (p + (L - (p + 1))) d3) (p + (L - (p + 1))) (A1.map (.int .i64) ++ A2.map (.int .i64)) (.int .i64 y) w3 _ rfl (by rfl) (.tmp 255) (.tmp 257) (by rfl) (by rfl) (by rfl) O3.out hb3.size rfl (by have := HS.out; omega) (by decide) ?_); intro r4 w4 hown4 hg4 _; have hb4 : Below w1.heap.size w1 w4 := hb3.trans (grown_below hg4 O3.out hb3.size); rw [HS.out.1] at hown4; have HEE := Lib.hid (HE.out w4 r4 hb4 hown4); obtain ⟨a4, d4, rfl⟩ := ownsRow_slice hown4; obtain ⟨m4, f4, _⟩ := HM.out _ hb4; clear hown4 hg4))
      go_ret
      exact ⟨rfl, HEE.out⟩
    · have n5 : L = p + 1 := by omega
      subst n5
      have n4 : c = p + 1 := hp1.symm
      subst n4
      have n8 : i = 0 := by have := HIP.out; omega
      subst n8
      clear i1 i2 i3
      simp only [show ((0 : Nat) : Int) = 0 from rfl] at HP FIN
      have i1 : IntKind.i64.wrap (p : Int) = (p : Int) := IntWalk.i64_in _ (by have := HS.out; omega)
      have i2 : IntKind.i64.wrap ((p : Int) + 1) = (p : Int) + 1 := IntWalk.i64_in _ (by have := HS.out; omega)
      have n9 : (p : Int) ≤ p + 1 := by omega
      have R3 : Hid (∀ w2, Rd w2 .i64 (.slice (some ⟨g, 0, none⟩) 0 0) A2) := Lib.hid fun w2 => Rd.empty rfl (List.eq_nil_of_length_eq_zero (by have := L2.out; omega))
      go_enter Try.func13, Try.ntmps13
      go_wp2_with (first
        | (go_at_call 22; (with_reducible refine (HP.out).mono ?_); rintro e w1 ⟨rfl, s1, f1⟩; obtain ⟨⟨q1, q2⟩, m0, k0, IS, HM, HE⟩ := FIN.out w1 s1 f1; clear s1 f1)
        | (go_at_call 25; (with_reducible refine (IS.out).mono ?_); rintro e w' ⟨rfl, rfl⟩)
        | (at_builtin; go_loud (refine wp_apps 22 3 (.int .i64 0) 8 Try.underlying22 info_int rfl w1.heap.size (.slice none 0 0) 0 [] rfl (.tmp 237) (.tmp 243) (by rfl) (by rfl) (World.ownsRow_nil _ _ _ _) (Nat.le_refl _) .i64 _ A1 (by rfl) (R1.out _ (HM.out _ (Below.refl _ _)).2.2) (by have := L1.out; have := HS.out; omega) (by decide) ?_); intro r2 w2 hown2 hg2 _; have hb2 : Below w1.heap.size w1 w2 := grown_below hg2 (World.ownsRow_nil w1 w1.heap.size 3 1) (Nat.le_refl _); rw [Nat.zero_add, L1.out, List.nil_append] at hown2; have O2 := Lib.hid hown2; obtain ⟨a2, d2, rfl⟩ := ownsRow_slice hown2; obtain ⟨m2, f2, RR2⟩ := HM.out _ hb2; have HRR2 := Lib.hid RR2; clear hown2 hg2 RR2)
        | (at_builtin; go_loud (refine wp_apps 22 3 (.int .i64 0) 8 Try.underlying22 info_int rfl w1.heap.size (.slice a2 p d2) p (A1.map (.int .i64)) rfl (.tmp 245) (.tmp 252) (by rfl) (by rfl) O2.out hb2.size .i64 _ A2 (by rfl) (R3.out _) (by have := L2.out; have := HS.out; omega) (by decide) ?_); intro r3 w3 hown3 hg3 _; have hb3 : Below w1.heap.size w1 w3 := hb2.trans (grown_below hg3 O2.out hb2.size); rw [L2.out, Nat.sub_self, Nat.add_zero] at hown3; have O3 := Lib.hid hown3; obtain ⟨a3, d3, rfl⟩ := ownsRow_slice hown3; obtain ⟨m3, f3, _⟩ := HM.out _ hb3; clear hown3 hg3)
        | (at_builtin; go_loud (refine wp_app1 22 3 (.int .i64 0) 8 Try.underlying22 info_int rfl w1.heap.size (.slice a3 p d3) p (A1.map (.int .i64) ++ A2.map (.int .i64)) (.int .i64 y) w3 _ rfl (by rfl) (.tmp 255) (.tmp 257) (by rfl) (by rfl) (by rfl) O3.out hb3.size rfl (by have := HS.out; omega) (by decide) ?_); intro r4 w4 hown4 hg4 _; have hb4 : Below w1.heap.size w1 w4 := hb3.trans (grown_below hg4 O3.out hb3.size); have HEE := Lib.hid (HE.out w4 r4 hb4 hown4); obtain ⟨a4, d4, rfl⟩ := ownsRow_slice hown4; obtain ⟨m4, f4, _⟩ := HM.out _ hb4; clear hown4 hg4))
      go_ret
      exact ⟨rfl, HEE.out⟩
  · have HW := Lib.hid (fun w1 (hb : Below w.heap.size w w1) => Went.of_below h hb)
    have P := Lib.hid (roll_no b v (l.map (.int .i64)) most over under N B _ hB.s (by rw [List.length_map]; omega))
    have IS := is_c mb _ (l.map (.int .i64)) most over under N B _ hB.m
    rw [show decide (0 ≤ N ∧ N < ((l.map (Value.int .i64)).length : Int)) = false by simp; omega] at IS
    have HI := Lib.hid IS
    obtain ⟨L, hL⟩ : ∃ L, l.length = L := ⟨_, rfl⟩
    rw [List.length_map] at HW ⊢
    rw [hL] at c0 HW hc hN lim ⊢
    clear h hB IS hL bb hg XA
    go_enter Try.func13, Try.ntmps13
    go_wp2_with (first
      | (go_at_call 22; (with_reducible refine (P.out).mono ?_); rintro e w' ⟨rfl, rfl⟩)
      | (go_at_call 25; (with_reducible refine (HI.out).mono ?_); rintro e w' ⟨rfl, rfl⟩))
    go_ret
    exact ⟨rfl, HW.out _ ((Below.refl _ _).alloc (Nat.le_refl _) _)⟩
end Go.Proofs.Yticjepfcgfdmgaa
