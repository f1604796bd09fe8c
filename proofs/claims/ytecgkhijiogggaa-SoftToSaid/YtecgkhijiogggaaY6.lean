/- The reference's root and Sqrt. -/
import Derived.Test.YtecgkhijiogggaaY5
namespace Go.Proofs.Ytecgkhijiogggaa
set_option linter.unusedVariables false
set_option linter.unusedSimpArgs false
open Go.RowKit Go.Shelf SF

theorem rootL_succ (M i r : Nat) : rootL M (i + 1) r = if (r + 2 ^ i) * (r + 2 ^ i) ≤ M then rootL M i (r + 2 ^ i) else rootL M i r := rfl
def RootRel (w : World) (M : Nat) (v3 v4 : Value) (wr : World) : Prop := ∃ (j r n c : Nat) (a : Option Addr), j ≤ 67 ∧ v3 = .slice a n c ∧ v4 = .int .i64 ((j : Int) - 1) ∧ Below w.heap.size w wr ∧ Hid (Nw wr (.slice a n c) r ∧ isq M = rootL M j r ∧ r + 2 ^ j ≤ 2 ^ 67)
set_option maxRecDepth 100000 in
set_option maxHeartbeats 4000000 in
theorem rroot_c {w : World} {a : Option Addr} {n c M : Nat} (h : Nw w (.slice a n c) M) (hM : bl M ≤ 200) : Calls Try.prog 79 #[.slice a n c] w fun e w' => ∃ a n c, e = .returned (.slice a n c) ∧ Nw w' (.slice a n c) (isq M) ∧ Below w.heap.size w w' := by
  have HM := Lib.hid h
  have HOf : Hid (∀ w1, Calls Try.prog 83 #[.int .u64 1] w1 (One w1 1)) := fun w1 => rof_n 1 w1 (W_of (by decide))
  clear h
  go_enter Try.func79, Try.ntmps79
  go_wp2
  go_loopw [3, 4, 5, 6, 7, 8, 9] (fun v3 v4 _ _ _ _ _ wr => RootRel w M v3 v4 wr) (fun _ v4 _ _ _ _ _ _ => (intOf v4 + 1).toNat)
  case atStart => unfold RootRel; exact ⟨67, 0, 0, 0, none, by decide, rfl, rfl, Below.refl _ _, by unfold Nw; rw [ws_zero]; exact Rd.nil _ _ _, rfl, by decide⟩
  case round =>
    obtain ⟨j, r, n1, c1, a1, hj, rfl, rfl, hbw, HO⟩ := hrel
    cases j with
    | zero =>
      have HE := HO.out.2.1
      have HQ := Lib.hid (show isq M = r from HE)
      clear HE
      go_wp2
      go_ret
      exact ⟨a1, n1, c1, rfl, by rw [HQ.out]; exact HO.out.1, hbw⟩
    | succ i =>
      have hr := HO.out.2.2
      have hp : 2 ^ (i + 1) = 2 * 2 ^ i := by rw [Nat.pow_succ, Nat.mul_comm]
      have bT : bl (r + 2 ^ i) ≤ 68 := by
        apply bl_le_of_lt
        have : (2 : Nat) ^ 68 = 2 * 2 ^ 67 := by decide
        have p0 := Nat.two_pow_pos i
        omega
      have br : bl r ≤ 68 := bl_mono' (Nat.le_add_right _ _) bT
      have bp : bl (2 ^ i) ≤ 68 := bl_mono' (Nat.le_add_left _ _) bT
      have bs := bl_mulb bT bT
      have hir := HO.out.2.1
      rw [rootL_succ] at hir
      have HS : Hid (∀ (w1 : World) (a1 : Option Addr) (n1 c1 : Nat), Nw w1 (.slice a1 n1 c1) 1 → Calls Try.prog 78 #[.slice a1 n1 c1, .int .i64 (i : Int)] w1 (OneOk w1 (2 ^ i))) := fun w1 a1 n1 c1 h => by
        have b1 : bl 1 = 1 := by decide
        have := rshl_n i h (by omega)
        rw [Nat.one_mul] at this; exact this
      have HA := Lib.hid (fun (w1 : World) (a1 : Option Addr) (n1 c1 : Nat) (a2 : Option Addr) (n2 c2 : Nat) (h1 : Nw w1 (.slice a1 n1 c1) r) (h2 : Nw w1 (.slice a2 n2 c2) (2 ^ i)) => radd_n h1 (by omega) h2 (by omega))
      have HMu := Lib.hid (fun (w1 : World) (a1 : Option Addr) (n1 c1 : Nat) (h1 : Nw w1 (.slice a1 n1 c1) (r + 2 ^ i)) => rmul_n h1 h1 (by omega))
      have HC := Lib.hid (fun (w1 : World) (a1 : Option Addr) (n1 c1 : Nat) (a2 : Option Addr) (n2 c2 : Nat) (h1 : Nw w1 (.slice a1 n1 c1) ((r + 2 ^ i) * (r + 2 ^ i))) (h2 : Nw w1 (.slice a2 n2 c2) M) => rcmp_n h1 (by omega) h2 (by omega))
      by_cases hle : (r + 2 ^ i) * (r + 2 ^ i) ≤ M
      · rw [if_pos hle] at hir
        have hc := cmp_le0 hle
        obtain ⟨t, ht⟩ : ∃ t, cmpI (((r + 2 ^ i) * (r + 2 ^ i) : Nat) : Int) (M : Int) = t := ⟨_, rfl⟩
        rw [ht] at HC hc
        have HI := Lib.hid hir
        have HP := Lib.hid (show r + 2 ^ i + 2 ^ i ≤ 2 ^ 67 by omega)
        clear ht hir hle hr hp bT br bp bs
        go_wp2_with (first
          | (go_at_call 83; (with_reducible refine (HOf.out _).mono ?_); rintro e1 w1 ⟨a2, n2, c2, rfl, hv2, hb1⟩)
          | (go_at_call 78; (with_reducible refine (HS.out _ _ _ _ hv2).mono ?_); rintro e1 w2 ⟨a3, n3, c3, rfl, hv3, hb2⟩)
          | (go_at_call 82; refine (HA.out _ _ _ _ _ _ _ (HO.out.1.below (btn hb1 hb2)) hv3).mono ?_; rintro e1 w3 ⟨a4, n4, c4, rfl, hv4, hb3⟩)
          | (go_at_call 80; (with_reducible refine (HMu.out _ _ _ _ hv4).mono ?_); rintro e1 w4 ⟨a5, n5, c5, rfl, hv5, hb4⟩)
          | (go_at_call 81; refine (HC.out _ _ _ _ _ _ _ hv5 (HM.out.below (btn hbw (btn hb1 (btn hb2 (btn hb3 hb4)))))).mono ?_; rintro e1 w5 ⟨rfl, hb5⟩))
        go_roundw
        case rel =>
          unfold RootRel
          exact ⟨i, r + 2 ^ i, n4, c4, a4, by omega, rfl, by go_num, btn hbw (btn hb1 (btn hb2 (btn hb3 (btn hb4 hb5)))), hv4.below (btn hb4 hb5), HI.out, HP.out⟩
        case measure => simp [intOf]
      · rw [if_neg hle] at hir
        have hc := cmp_gt0 (show M < (r + 2 ^ i) * (r + 2 ^ i) by omega)
        obtain ⟨t, ht⟩ : ∃ t, cmpI (((r + 2 ^ i) * (r + 2 ^ i) : Nat) : Int) (M : Int) = t := ⟨_, rfl⟩
        rw [ht] at HC hc
        have HI := Lib.hid hir
        have HP := Lib.hid (show r + 2 ^ i ≤ 2 ^ 67 by omega)
        clear ht hir hle hr hp bT br bp bs
        go_wp2_with (first
          | (go_at_call 83; (with_reducible refine (HOf.out _).mono ?_); rintro e1 w1 ⟨a2, n2, c2, rfl, hv2, hb1⟩)
          | (go_at_call 78; (with_reducible refine (HS.out _ _ _ _ hv2).mono ?_); rintro e1 w2 ⟨a3, n3, c3, rfl, hv3, hb2⟩)
          | (go_at_call 82; refine (HA.out _ _ _ _ _ _ _ (HO.out.1.below (btn hb1 hb2)) hv3).mono ?_; rintro e1 w3 ⟨a4, n4, c4, rfl, hv4, hb3⟩)
          | (go_at_call 80; (with_reducible refine (HMu.out _ _ _ _ hv4).mono ?_); rintro e1 w4 ⟨a5, n5, c5, rfl, hv5, hb4⟩)
          | (go_at_call 81; refine (HC.out _ _ _ _ _ _ _ hv5 (HM.out.below (btn hbw (btn hb1 (btn hb2 (btn hb3 hb4)))))).mono ?_; rintro e1 w5 ⟨rfl, hb5⟩))
        go_roundw
        case rel =>
          unfold RootRel
          exact ⟨i, r, n1, c1, a1, by omega, rfl, by go_num, btn hbw (btn hb1 (btn hb2 (btn hb3 (btn hb4 hb5)))), HO.out.1.below (btn hb1 (btn hb2 (btn hb3 (btn hb4 hb5)))), HI.out, HP.out⟩
        case measure => simp [intOf]
end Go.Proofs.Ytecgkhijiogggaa
