/- A step: no kind; Peek; Need. -/
import Derived.Test.YticjepfcgfdmgaaR
namespace Go.Proofs.Yticjepfcgfdmgaa
set_option linter.unusedVariables false
set_option linter.unusedSimpArgs false
open Go.RowKit

set_option maxRecDepth 100000 in
set_option maxHeartbeats 4000000 in
theorem does_0 (K N V : Int) (b mb : Nat) (v u : Value) (l : List Int) (most over under : Int) (B : Nat) (w : World) (h : Both w B b v mb u l most over under) (hK : K < 1 ∨ 7 < K) :
    Calls Try.prog 13 #[.pointer (some ⟨b, 0, none⟩), .pointer (some ⟨mb, 0, none⟩), .agg #[.int .i64 K, .int .i64 N, .int .i64 V]] w fun e w' => e = .returned (.bool true) ∧ Went w w' B b v mb u most over under := by
  have HW := Lib.hid (fun w1 (hb : Below w.heap.size w w1) => Went.of_below h hb)
  have hm := h.m
  obtain ⟨a, c, rfl, hc⟩ := hm.form
  obtain ⟨c0, c1, c2, c3⟩ := hm.cell
  obtain ⟨L, hL⟩ : ∃ L, (l.map (Value.int .i64)).length = L := ⟨_, rfl⟩
  rw [hL] at c0 HW ⊢
  have n1 : ¬ K = 1 := by omega
  have n2 : ¬ K = 2 := by omega
  have n3 : ¬ K = 3 := by omega
  have n4 : ¬ K = 4 := by omega
  have n5 : ¬ K = 5 := by omega
  have n6 : ¬ K = 6 := by omega
  have n7 : ¬ K = 7 := by omega
  have hlt := hm.lt
  clear h hL hm hK
  go_enter Try.func13, Try.ntmps13
  go_wp2_with fail
  go_ret
  exact ⟨rfl, HW.out _ ((Below.refl _ _).alloc (Nat.le_refl _) _)⟩
set_option maxRecDepth 100000 in
set_option maxHeartbeats 4000000 in
theorem does_3 (N V : Int) (b mb : Nat) (v u : Value) (l : List Int) (most over under : Int) (B : Nat) (w : World) (h : Both w B b v mb u l most over under) (hm : most ≤ 100000) :
    Calls Try.prog 13 #[.pointer (some ⟨b, 0, none⟩), .pointer (some ⟨mb, 0, none⟩), .agg #[.int .i64 3, .int .i64 N, .int .i64 V]] w fun e w' => e = .returned (.bool true) ∧ Went w w' B b v mb u most over under := by
  have HW := Lib.hid (fun w1 (hb : Below w.heap.size w w1) => Went.of_below h hb)
  have bb : Below w.heap.size w (w.alloc (.cells #[.int .i64 3, .int .i64 N, .int .i64 V] 42)) := (Below.refl _ _).alloc (Nat.le_refl _) _
  have hB := h.below bb
  have lim := h.lim
  have IS := is_c mb u (l.map (.int .i64)) most over under N B _ hB.m
  rw [List.length_map] at IS
  have hr : Rd w .i64 u l := Rd.of_own h.m.2.2
  obtain ⟨a, c, rfl, hc, _⟩ := hr
  obtain ⟨c0, c1, c2, c3⟩ := h.m.cell
  have hlt := h.m.lt
  by_cases hN : 0 ≤ N ∧ N < (l.length : Int)
  · obtain ⟨i, rfl⟩ := Int.eq_ofNat_of_zero_le hN.1
    have P := Lib.hid (peek_yes b v l most over under i B _ hB.s (by omega) (by omega))
    obtain ⟨g, off, rfl, k0⟩ := (Rd.of_own h.m.2.2 : Rd w .i64 _ l).at_ (i := l.length - 1 - i) (by omega)
    rw [show decide (0 ≤ (i : Int) ∧ (i : Int) < (l.length : Int)) = true by simp; omega] at IS
    have HI := Lib.hid IS
    obtain ⟨L, hL⟩ : ∃ L, l.length = L := ⟨_, rfl⟩

    rw [hL] at P k0 c0 HW hc hN lim ⊢
    obtain ⟨p, hp⟩ : ∃ p, L - 1 - i = p := ⟨_, rfl⟩
    rw [hp] at P k0
    obtain ⟨y, hy⟩ : ∃ y, l.getD p 0 = y := ⟨_, rfl⟩
    rw [hy] at P k0
    have i1 : IntKind.i64.wrap ((L : Int) - 1) = (L : Int) - 1 := IntWalk.i64_in _ (by omega)
    have i2 : IntKind.i64.wrap ((L : Int) - 1 - i) = (p : Int) := by rw [IntWalk.i64_in _ (by omega)]; omega
    have hpL : (p : Int) < L := by omega
    have hgl : g < w.heap.size := World.block_lt_of_cell? w _ k0
    clear h hB IS hL hy hp bb
    go_enter Try.func13, Try.ntmps13
    go_wp2_with (first
      | (go_at_call 19; (with_reducible refine (P.out).mono ?_); rintro e w' ⟨rfl, rfl⟩)
      | (go_at_call 25; (with_reducible refine (HI.out).mono ?_); rintro e w' ⟨rfl, rfl⟩))
    go_big_region
    all_goals
      go_wp2_with fail
      go_ret
      exact ⟨rfl, HW.out _ (below_drewN ((Below.refl _ _).alloc (Nat.le_refl _) _) 1)⟩
  · have P := Lib.hid (peek_no b v (l.map (.int .i64)) most over under N B _ hB.s (by rw [List.length_map]; omega))
    rw [show decide (0 ≤ N ∧ N < (l.length : Int)) = false by simp; omega] at IS
    have HI := Lib.hid IS
    obtain ⟨L, hL⟩ : ∃ L, l.length = L := ⟨_, rfl⟩
    rw [hL] at c0 HW hc hN lim ⊢
    clear h hB IS hL bb
    go_enter Try.func13, Try.ntmps13
    go_wp2_with (first
      | (go_at_call 19; (with_reducible refine (P.out).mono ?_); rintro e w' ⟨rfl, rfl⟩)
      | (go_at_call 25; (with_reducible refine (HI.out).mono ?_); rintro e w' ⟨rfl, rfl⟩))
    go_ret
    exact ⟨rfl, HW.out _ ((Below.refl _ _).alloc (Nat.le_refl _) _)⟩
set_option maxRecDepth 100000 in
set_option maxHeartbeats 4000000 in
theorem does_5 (N V : Int) (b mb : Nat) (v u : Value) (l : List Int) (most over under : Int) (B : Nat) (w : World) (h : Both w B b v mb u l most over under) (hm : most ≤ 100000) :
    Calls Try.prog 13 #[.pointer (some ⟨b, 0, none⟩), .pointer (some ⟨mb, 0, none⟩), .agg #[.int .i64 5, .int .i64 N, .int .i64 V]] w fun e w' => e = .returned (.bool true) ∧ Went w w' B b v mb u most over under := by
  have HW := Lib.hid (fun w1 (hb : Below w.heap.size w w1) => Went.of_below h hb)
  have bb : Below w.heap.size w (w.alloc (.cells #[.int .i64 5, .int .i64 N, .int .i64 V] 42)) := (Below.refl _ _).alloc (Nat.le_refl _) _
  have hB := h.below bb
  have lim := h.lim
  have ND := need_c b v (l.map (.int .i64)) most over under N V B _ hB.s ⟨by omega, hm⟩ (by rw [List.length_map]; omega)
  rw [List.length_map] at ND
  obtain ⟨a, c, rfl, hc⟩ := h.m.form
  obtain ⟨c0, c1, c2, c3⟩ := h.m.cell
  rw [List.length_map] at c0 HW hc ⊢
  have hlt := h.m.lt
  obtain ⟨L, hL⟩ : ∃ L, l.length = L := ⟨_, rfl⟩
  obtain ⟨t, ht⟩ : ∃ t, max N 0 = t := ⟨_, rfl⟩
  obtain ⟨g, hg⟩ : ∃ g, max V 0 = g := ⟨_, rfl⟩
  rw [ht, hg] at ND
  have HCC : Hid (∀ w', Below (w.alloc (.cells #[.int .i64 5, .int .i64 N, .int .i64 V] 42)).heap.size (w.alloc (.cells #[.int .i64 5, .int .i64 N, .int .i64 V] 42)) w' → (w'.cell? ⟨mb, 1, none⟩ = some (.int .i64 most) ∧ w'.cell? ⟨mb, 2, none⟩ = some (.int .i64 over) ∧ w'.cell? ⟨mb, 3, none⟩ = some (.int .i64 under)) ∧ Below w.heap.size w w') :=
    Lib.hid fun w' hb => ⟨(hB.m.below hb).cell.2, below_then bb bb.size hb⟩
  rw [hL] at ND c0 HW hc lim ⊢
  have t0 : 0 ≤ t := by omega
  have g0 : 0 ≤ g := by omega
  have hN : (0 ≤ N ∧ N = t) ∨ (N < 0 ∧ t = 0) := by omega
  have hV : (0 ≤ V ∧ V = g) ∨ (V < 0 ∧ g = 0) := by omega
  clear h hB hL ht hg bb
  by_cases h1 : (L : Int) < t
  · rw [needV_1 h1] at ND
    have HND := Lib.hid ND
    clear ND
    rcases hN with ⟨n1, rfl⟩ | ⟨n1, rfl⟩
    · rcases hV with ⟨n2, rfl⟩ | ⟨n2, rfl⟩ <;>
      · go_enter Try.func13, Try.ntmps13
        go_wp2_with (go_at_call 21; (with_reducible refine (HND.out).mono ?_); rintro e w' ⟨rfl, hb⟩; obtain ⟨⟨d1, d2, d3⟩, hb2⟩ := HCC.out _ hb)
        go_ret
        exact ⟨rfl, HW.out _ hb2⟩
    · omega
  · have t1 : t ≤ L := by omega
    have i1 : IntKind.i64.wrap ((L : Int) - t) = (L : Int) - t := IntWalk.i64_in _ (by omega)
    have i2 : IntKind.i64.wrap (most - ((L : Int) - t)) = most - ((L : Int) - t) := IntWalk.i64_in _ (by omega)
    by_cases h2 : most - ((L : Int) - t) < g
    · rw [needV_2 h1 h2] at ND
      have HND := Lib.hid ND
      clear ND
      have hV2 : 0 ≤ V ∧ V = g := by omega
      obtain ⟨n2, rfl⟩ := hV2
      clear hV
      rcases hN with ⟨n1, rfl⟩ | ⟨n1, rfl⟩ <;>
      · go_enter Try.func13, Try.ntmps13
        go_wp2_with (go_at_call 21; (with_reducible refine (HND.out).mono ?_); rintro e w' ⟨rfl, hb⟩; obtain ⟨⟨d1, d2, d3⟩, hb2⟩ := HCC.out _ hb)
        go_ret
        exact ⟨rfl, HW.out _ hb2⟩
    · rw [needV_3 h1 h2] at ND
      have HND := Lib.hid ND
      clear ND
      rcases hN with ⟨n1, rfl⟩ | ⟨n1, rfl⟩ <;> rcases hV with ⟨n2, rfl⟩ | ⟨n2, rfl⟩ <;>
      · go_enter Try.func13, Try.ntmps13
        go_wp2_with (go_at_call 21; (with_reducible refine (HND.out).mono ?_); rintro e w' ⟨rfl, hb⟩; obtain ⟨⟨d1, d2, d3⟩, hb2⟩ := HCC.out _ hb)
        go_ret
        exact ⟨rfl, HW.out _ hb2⟩
end Go.Proofs.Yticjepfcgfdmgaa
