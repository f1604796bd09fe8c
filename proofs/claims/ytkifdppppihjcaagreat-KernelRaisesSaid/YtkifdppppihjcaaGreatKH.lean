/- The reference's kernel: what each function computes. -/
import Derived.Test.YtkifdppppihjcaaGreatKG
import Derived.Test.YtkifdppppihjcaaGreatKR
import Derived.Test.YtkifdppppihjcaaGreatKQ
namespace Go.Proofs.YtkifdppppihjcaaGreat
set_option linter.unusedVariables false
set_option linter.unusedSimpArgs false
open Go.RowKit Go.Shelf Go.ChangeShapes Go.WideShapes SF

theorem toLo_range (a : Nat) : -9223372036854775808 ≤ toLo a ∧ toLo a ≤ 9223372036854775807 := by
  unfold toLo; split
  · decide
  · unfold wr; omega
theorem radd5_c (a b : Nat) (ha : W a) (hb : W b) : All 80 #[.int .u64 ((a : Nat) : Int), .int .u64 ((b : Nat) : Int)] (.int .u64 ((addV a b : Nat) : Int)) := r5add_s (Lib.hid (rAdd_c a b ha hb))
theorem rsub5_c (a b : Nat) (ha : W a) (hb : W b) : All 79 #[.int .u64 ((a : Nat) : Int), .int .u64 ((b : Nat) : Int)] (.int .u64 ((subV a b : Nat) : Int)) := r5sub_s (Lib.hid (rSub_c a b ha hb))
theorem rmul5_c (a b : Nat) (ha : W a) (hb : W b) : All 68 #[.int .u64 ((a : Nat) : Int), .int .u64 ((b : Nat) : Int)] (.int .u64 ((mulV a b : Nat) : Int)) := r5mul_s (Lib.hid (rMul_c a b ha hb))
theorem rdiv5_c (a b : Nat) (ha : W a) (hb : W b) : All 70 #[.int .u64 ((a : Nat) : Int), .int .u64 ((b : Nat) : Int)] (.int .u64 ((divV a b : Nat) : Int)) := r5div_s (Lib.hid (rDiv_c a b ha hb))
theorem of_c (v : Int) (h1 : -9223372036854775808 ≤ v) (h2 : v ≤ 9223372036854775807) : All 62 #[.int .i64 v] (.int .u64 ((ofV v : Nat) : Int)) := by
  unfold ofV
  by_cases h : v < 0
  · rw [if_pos h]; exact of_n h (Lib.hid (rFrom_c v (-1) ⟨h1, h2⟩ (by unfold Cell64; decide)))
  · rw [if_neg h]; exact of_p h (Lib.hid (rFrom_c v 0 ⟨h1, h2⟩ (by unfold Cell64; decide)))
theorem ok_comm (a b : Nat) : okV a b = okV b a := by unfold okV; rw [Bool.or_comm]
theorem cmp_anti (a b : Nat) : cmpV a b = -cmpV b a := by
  unfold cmpV cmpI
  rw [Bool.or_comm (nan a)]
  split
  · rfl
  · repeat' split
    all_goals omega
theorem rabove_c (a b : Nat) (ha : W a) (hb : W b) : All 66 #[.int .u64 ((a : Nat) : Int), .int .u64 ((b : Nat) : Int)] (.bool (belowV b a)) := by
  have e : belowV b a = (okV a b && decide (0 < cmpV a b)) := by
    unfold belowV; rw [ok_comm b a, cmp_anti b a]; congr 1; rw [decide_eq_decide]; omega
  rw [e]
  by_cases o1 : okV a b = true
  · have h := all_of (rcmp_c a b ha hb); rw [o1] at h ⊢; exact rabove_1 (Lib.hid h)
  · have o1 := Bool.eq_false_iff.2 o1
    have h := all_of (rcmp_c a b ha hb); rw [o1] at h ⊢; exact rabove_0 (Lib.hid h)
theorem rbelow_c (a b : Nat) (ha : W a) (hb : W b) : All 77 #[.int .u64 ((a : Nat) : Int), .int .u64 ((b : Nat) : Int)] (.bool (belowV a b)) := rbelow_s (Lib.hid (rabove_c b a hb ha))
theorem rexp_c (x : Nat) (hx : W x) : All 12 #[.int .u64 ((x : Nat) : Int)] (.int .u64 ((expV x : Nat) : Int)) := by
  by_cases n1 : nan x = true
  · rw [show expV x = NaN by simp [expV, n1]]
    have G0 : Hid (All 64 #[.int .u64 ((x : Nat) : Int)] (.bool true)) := by rw [← n1]; exact Lib.hid (all_of (risnan_c (x) (by simp (config := {maxDischargeDepth := 12}) only [WQ, hx])))
    exact rexp_n G0
  have n1 := Bool.eq_false_iff.2 n1
  by_cases h1 : belowV (ofV 710) x = true
  · rw [show expV x = Inf by simp [expV, n1, h1]]
    have G0 : Hid (All 64 #[.int .u64 ((x : Nat) : Int)] (.bool false)) := by rw [← n1]; exact Lib.hid (all_of (risnan_c (x) (by simp (config := {maxDischargeDepth := 12}) only [WQ, hx])))
    have G1 : Hid (All 62 #[.int .i64 710] (.int .u64 ((ofV 710 : Nat) : Int))) := Lib.hid (of_c (710) (by decide) (by decide))
    have G2 : Hid (All 66 #[.int .u64 ((x : Nat) : Int), .int .u64 ((ofV 710 : Nat) : Int)] (.bool true)) := by rw [← h1]; exact Lib.hid (rabove_c (x) (ofV 710) (by simp (config := {maxDischargeDepth := 12}) only [WQ, hx]) (by simp (config := {maxDischargeDepth := 12}) only [WQ, hx]))
    exact rexp_hi G0 G1 G2
  have h1 := Bool.eq_false_iff.2 h1
  by_cases h2 : belowV x (ofV (-746)) = true
  · rw [show expV x = 0 by simp [expV, n1, h1, h2]]
    have G0 : Hid (All 64 #[.int .u64 ((x : Nat) : Int)] (.bool false)) := by rw [← n1]; exact Lib.hid (all_of (risnan_c (x) (by simp (config := {maxDischargeDepth := 12}) only [WQ, hx])))
    have G1 : Hid (All 62 #[.int .i64 710] (.int .u64 ((ofV 710 : Nat) : Int))) := Lib.hid (of_c (710) (by decide) (by decide))
    have G2 : Hid (All 66 #[.int .u64 ((x : Nat) : Int), .int .u64 ((ofV 710 : Nat) : Int)] (.bool false)) := by rw [← h1]; exact Lib.hid (rabove_c (x) (ofV 710) (by simp (config := {maxDischargeDepth := 12}) only [WQ, hx]) (by simp (config := {maxDischargeDepth := 12}) only [WQ, hx]))
    have G3 : Hid (All 62 #[.int .i64 (-746)] (.int .u64 ((ofV (-746) : Nat) : Int))) := Lib.hid (of_c ((-746)) (by decide) (by decide))
    have G4 : Hid (All 77 #[.int .u64 ((x : Nat) : Int), .int .u64 ((ofV (-746) : Nat) : Int)] (.bool true)) := by rw [← h2]; exact Lib.hid (rbelow_c (x) (ofV (-746)) (by simp (config := {maxDischargeDepth := 12}) only [WQ, hx]) (by simp (config := {maxDischargeDepth := 12}) only [WQ, hx]))
    exact rexp_lo G0 G1 G2 G3 G4
  have h2 := Bool.eq_false_iff.2 h2
  rw [show expV x = expF x by simp [expV, n1, h1, h2]]
  have G0 : Hid (All 64 #[.int .u64 ((x : Nat) : Int)] (.bool false)) := by rw [← n1]; exact Lib.hid (all_of (risnan_c (x) (by simp (config := {maxDischargeDepth := 12}) only [WQ, hx])))
  have G1 : Hid (All 62 #[.int .i64 710] (.int .u64 ((ofV 710 : Nat) : Int))) := Lib.hid (of_c (710) (by decide) (by decide))
  have G2 : Hid (All 66 #[.int .u64 ((x : Nat) : Int), .int .u64 ((ofV 710 : Nat) : Int)] (.bool false)) := by rw [← h1]; exact Lib.hid (rabove_c (x) (ofV 710) (by simp (config := {maxDischargeDepth := 12}) only [WQ, hx]) (by simp (config := {maxDischargeDepth := 12}) only [WQ, hx]))
  have G3 : Hid (All 62 #[.int .i64 (-746)] (.int .u64 ((ofV (-746) : Nat) : Int))) := Lib.hid (of_c ((-746)) (by decide) (by decide))
  have G4 : Hid (All 77 #[.int .u64 ((x : Nat) : Int), .int .u64 ((ofV (-746) : Nat) : Int)] (.bool false)) := by rw [← h2]; exact Lib.hid (rbelow_c (x) (ofV (-746)) (by simp (config := {maxDischargeDepth := 12}) only [WQ, hx]) (by simp (config := {maxDischargeDepth := 12}) only [WQ, hx]))
  have G5 : Hid (All 68 #[.int .u64 ((x : Nat) : Int), .int .u64 4609176140021203710] (.int .u64 ((mulV x 4609176140021203710 : Nat) : Int))) := Lib.hid (rmul5_c (x) 4609176140021203710 (by simp (config := {maxDischargeDepth := 12}) only [WQ, hx]) (by simp (config := {maxDischargeDepth := 12}) only [WQ, hx]))
  have G6 : Hid (All 78 #[.int .u64 ((mulV x 4609176140021203710 : Nat) : Int)] (.int .u64 ((expK x : Nat) : Int))) := Lib.hid (rRound_c (mulV x 4609176140021203710) (by simp (config := {maxDischargeDepth := 12}) only [WQ, hx]))
  have G7 : Hid (All 68 #[.int .u64 ((expK x : Nat) : Int), .int .u64 4604418534311723008] (.int .u64 ((mulV (expK x) 4604418534311723008 : Nat) : Int))) := Lib.hid (rmul5_c (expK x) 4604418534311723008 (by simp (config := {maxDischargeDepth := 12}) only [WQ, hx]) (by simp (config := {maxDischargeDepth := 12}) only [WQ, hx]))
  have G8 : Hid (All 79 #[.int .u64 ((x : Nat) : Int), .int .u64 ((mulV (expK x) 4604418534311723008 : Nat) : Int)] (.int .u64 ((subV x (mulV (expK x) 4604418534311723008) : Nat) : Int))) := Lib.hid (rsub5_c (x) (mulV (expK x) 4604418534311723008) (by simp (config := {maxDischargeDepth := 12}) only [WQ, hx]) (by simp (config := {maxDischargeDepth := 12}) only [WQ, hx]))
  have G9 : Hid (All 68 #[.int .u64 ((expK x : Nat) : Int), .int .u64 4461442080421002358] (.int .u64 ((mulV (expK x) 4461442080421002358 : Nat) : Int))) := Lib.hid (rmul5_c (expK x) 4461442080421002358 (by simp (config := {maxDischargeDepth := 12}) only [WQ, hx]) (by simp (config := {maxDischargeDepth := 12}) only [WQ, hx]))
  have G10 : Hid (All 79 #[.int .u64 ((subV x (mulV (expK x) 4604418534311723008) : Nat) : Int), .int .u64 ((mulV (expK x) 4461442080421002358 : Nat) : Int)] (.int .u64 ((expR x : Nat) : Int))) := Lib.hid (rsub5_c (subV x (mulV (expK x) 4604418534311723008)) (mulV (expK x) 4461442080421002358) (by simp (config := {maxDischargeDepth := 12}) only [WQ, hx]) (by simp (config := {maxDischargeDepth := 12}) only [WQ, hx]))
  have G11 : Hid (All 62 #[.int .i64 1] (.int .u64 ((ofV 1 : Nat) : Int))) := Lib.hid (of_c (1) (by decide) (by decide))
  have G12 : Hid (All 67 #[.int .u64 ((expK x : Nat) : Int)] (.tuple #[.int .i64 ((toLo (expK x))), .int .i64 ((toHi (expK x))), .int .i64 ((toT (expK x)))])) := Lib.hid (rTo_c (expK x) (by simp (config := {maxDischargeDepth := 12}) only [WQ, hx]))
  have G13 : Hid (All 81 #[.int .u64 ((expP (expR x) : Nat) : Int), .int .i64 ((toLo (expK x)))] (.int .u64 ((expF x : Nat) : Int))) := Lib.hid (rScale_c (expP (expR x)) (by simp (config := {maxDischargeDepth := 12}) only [WQ, hx]) (((toLo (expK x)))) (toLo_range _))
  exact rexp_f (P := (fun k : Int => ((upV (expStep (expR x)) 13 (ofV 1) ((13 : Int) - k).toNat : Nat) : Int))) G0 G1 G2 G3 G4 G5 G6 G7 G8 G9 G10 G11 G12 G13 (Lib.hid (fun k k1 k2 => by
      obtain ⟨q, hq⟩ : ∃ q, upV (expStep (expR x)) 13 (ofV 1) (13 - k).toNat = q := ⟨_, rfl⟩
      have wq : W q := by rw [← hq]; exact W_upV (W_ofV _) (fun _ _ _ => W_expStep) _
      refine ⟨((ofV k : Nat) : Int), ((divV (expR x) (ofV k) : Nat) : Int), ((mulV (divV (expR x) (ofV k)) q : Nat) : Int), Lib.hid (of_c k (by omega) (by omega)), Lib.hid (rdiv5_c (expR x) (ofV k) (by simp (config := {maxDischargeDepth := 12}) only [WQ, hx]) (by simp (config := {maxDischargeDepth := 12}) only [WQ, hx])), ?_, ?_⟩
      · rw [hq]; exact Lib.hid (rmul5_c (divV (expR x) (ofV k)) q W_divV wq)
      · rw [upV_next _ _ _ k2, hq]; exact Lib.hid (radd5_c (ofV 1) (mulV (divV (expR x) (ofV k)) q) (W_ofV _) (W_mulV _ _)))) (by show ((upV _ _ _ ((13 : Int) - 13).toNat : Nat) : Int) = _; rw [Int.sub_self]; rfl) (by show ((upV _ _ _ ((13 : Int) - (1 - 1)).toNat : Nat) : Int) = _; rw [show ((13 : Int) - (1 - 1)).toNat = 13 by decide, of_1]; rfl)
theorem of1_c : All 62 #[.int .i64 1] (.int .u64 ((SF.One : Nat) : Int)) := by
  have := of_c 1 (by decide) (by decide); rw [of_1] at this; exact this
theorem rln_c (x : Nat) (hx : W x) : All 14 #[.int .u64 ((x : Nat) : Int)] (.int .u64 ((lnV x : Nat) : Int)) := by
  by_cases n1 : nan x = true
  · rw [show lnV x = NaN by simp [lnV, n1]]
    have G0 : Hid (All 64 #[.int .u64 ((x : Nat) : Int)] (.bool true)) := by rw [← n1]; exact Lib.hid (all_of (risnan_c (x) (by simp (config := {maxDischargeDepth := 12}) only [WQ, hx])))
    exact rln_n G0
  have n1 := Bool.eq_false_iff.2 n1
  by_cases b1 : belowV x 0 = true
  · rw [show lnV x = NaN by simp [lnV, n1, b1]]
    have G0 : Hid (All 64 #[.int .u64 ((x : Nat) : Int)] (.bool false)) := by rw [← n1]; exact Lib.hid (all_of (risnan_c (x) (by simp (config := {maxDischargeDepth := 12}) only [WQ, hx])))
    have G1 : Hid (All 77 #[.int .u64 ((x : Nat) : Int), .int .u64 0] (.bool true)) := by rw [← b1]; exact Lib.hid (rbelow_c (x) 0 (by simp (config := {maxDischargeDepth := 12}) only [WQ, hx]) (by simp (config := {maxDischargeDepth := 12}) only [WQ, hx]))
    exact rln_m G0 G1
  have b1 := Bool.eq_false_iff.2 b1
  by_cases z1 : zer x = true
  · rw [show lnV x = negV 9218868437227405312 by simp [lnV, n1, b1, z1, Inf]]
    have G0 : Hid (All 64 #[.int .u64 ((x : Nat) : Int)] (.bool false)) := by rw [← n1]; exact Lib.hid (all_of (risnan_c (x) (by simp (config := {maxDischargeDepth := 12}) only [WQ, hx])))
    have G1 : Hid (All 77 #[.int .u64 ((x : Nat) : Int), .int .u64 0] (.bool false)) := by rw [← b1]; exact Lib.hid (rbelow_c (x) 0 (by simp (config := {maxDischargeDepth := 12}) only [WQ, hx]) (by simp (config := {maxDischargeDepth := 12}) only [WQ, hx]))
    have G2 : Hid (All 61 #[.int .u64 ((x : Nat) : Int)] (.bool true)) := by rw [← z1]; exact Lib.hid (all_of (riszero_c (x) (by simp (config := {maxDischargeDepth := 12}) only [WQ, hx])))
    have G3 : Hid (All 89 #[.int .u64 9218868437227405312] (.int .u64 ((negV 9218868437227405312 : Nat) : Int))) := Lib.hid (all_of (rneg_c 9218868437227405312 (by simp (config := {maxDischargeDepth := 12}) only [WQ, hx])))
    exact rln_z G0 G1 G2 G3
  have z1 := Bool.eq_false_iff.2 z1
  by_cases i1 : inf x = true
  · have g1 : ng x = false := by rw [← below_ng n1 z1]; exact b1
    have ex : x = 9218868437227405312 := by
      have := inf_mag i1; have e := sg_mag hx; rw [g1, this] at e; exact e.symm
    have he : (((x : Nat) : Int) == 9218868437227405312) = true := by rw [ex]; rfl
    rw [show lnV x = x by simp [lnV, n1, b1, z1, i1]]
    have G0 : Hid (All 64 #[.int .u64 ((x : Nat) : Int)] (.bool false)) := by rw [← n1]; exact Lib.hid (all_of (risnan_c (x) (by simp (config := {maxDischargeDepth := 12}) only [WQ, hx])))
    have G1 : Hid (All 77 #[.int .u64 ((x : Nat) : Int), .int .u64 0] (.bool false)) := by rw [← b1]; exact Lib.hid (rbelow_c (x) 0 (by simp (config := {maxDischargeDepth := 12}) only [WQ, hx]) (by simp (config := {maxDischargeDepth := 12}) only [WQ, hx]))
    have G2 : Hid (All 61 #[.int .u64 ((x : Nat) : Int)] (.bool false)) := by rw [← z1]; exact Lib.hid (all_of (riszero_c (x) (by simp (config := {maxDischargeDepth := 12}) only [WQ, hx])))
    have R := rln_i he G0 G1 G2
    rw [show (9218868437227405312 : Int) = ((x : Nat) : Int) by rw [ex]; rfl] at R
    exact R
  have i1 := Bool.eq_false_iff.2 i1
  rw [show lnV x = lnF x by simp [lnV, n1, b1, z1, i1]]
  have g1 : ng x = false := by rw [← below_ng n1 z1]; exact b1
  have m0 : sm x ≠ 0 := fun h => by rw [sm_zero.1 h] at z1; exact absurd z1 (by decide)
  have hb := bl_sm53 x
  have se1 := se_ge x
  have se2 := se_le n1 i1
  have he : (((x : Nat) : Int) == 9218868437227405312) = false := by
    rw [beq_eq_false_iff_ne]; intro h
    have : x = 9218868437227405312 := by omega
    rw [this] at i1; exact absurd i1 (by decide)
  obtain ⟨J, hJ⟩ : ∃ J : Int, J = max 0 (-lnK x) := ⟨_, rfl⟩
  obtain ⟨L, hL⟩ : ∃ L : Int, L = max 0 (lnK x) := ⟨_, rfl⟩
  have hK : -3000 ≤ lnK x ∧ lnK x ≤ 2000 := by unfold lnK; omega
  have d1 : belowV (lnW x J) SF.One = false := by rw [← of_1]; exact lnW_mid n1 i1 z1 (by omega) hJ
  have d2 := lnW_end n1 i1 z1
  by_cases r1 : belowV Root2 (lnM x) = true
  · rw [show lnF x = lnT (divV (lnM x) (ofV 2)) (lnK x + 1) from if_pos r1]
    have KF : All 62 #[.int .i64 ((L) - (J) + 1)] (.int .u64 ((ofV (lnK x + 1) : Nat) : Int)) := by
      rw [show L - J + 1 = lnK x + 1 by omega]; exact of_c (lnK x + 1) (by omega) (by omega)
    have G0 : Hid (All 64 #[.int .u64 ((x : Nat) : Int)] (.bool false)) := by rw [← n1]; exact Lib.hid (all_of (risnan_c (x) (by simp (config := {maxDischargeDepth := 12}) only [WQ, hx, W_lnW])))
    have G1 : Hid (All 77 #[.int .u64 ((x : Nat) : Int), .int .u64 0] (.bool false)) := by rw [← b1]; exact Lib.hid (rbelow_c (x) 0 (by simp (config := {maxDischargeDepth := 12}) only [WQ, hx, W_lnW]) (by simp (config := {maxDischargeDepth := 12}) only [WQ, hx, W_lnW]))
    have G2 : Hid (All 61 #[.int .u64 ((x : Nat) : Int)] (.bool false)) := by rw [← z1]; exact Lib.hid (all_of (riszero_c (x) (by simp (config := {maxDischargeDepth := 12}) only [WQ, hx, W_lnW])))
    have G3 : Hid (All 62 #[.int .i64 1] (.int .u64 ((SF.One : Nat) : Int))) := Lib.hid (of1_c)
    have G4 : Hid (All 62 #[.int .i64 2] (.int .u64 ((ofV 2 : Nat) : Int))) := Lib.hid (of_c (2) (by decide) (by decide))
    have G5 : Hid (All 77 #[.int .u64 ((lnW x J : Nat) : Int), .int .u64 ((SF.One : Nat) : Int)] (.bool false)) := by rw [← d1]; exact Lib.hid (rbelow_c (lnW x J) (SF.One) (by simp (config := {maxDischargeDepth := 12}) only [WQ, hx, W_lnW]) (by simp (config := {maxDischargeDepth := 12}) only [WQ, hx, W_lnW]))
    have G6 : Hid (All 77 #[.int .u64 ((lnM x : Nat) : Int), .int .u64 ((ofV 2 : Nat) : Int)] (.bool true)) := by rw [← d2]; exact Lib.hid (rbelow_c (lnM x) (ofV 2) (by simp (config := {maxDischargeDepth := 12}) only [WQ, hx, W_lnW]) (by simp (config := {maxDischargeDepth := 12}) only [WQ, hx, W_lnW]))
    have G7 : Hid (All 66 #[.int .u64 ((lnM x : Nat) : Int), .int .u64 4609047870845172685] (.bool true)) := by rw [← r1]; exact Lib.hid (rabove_c (lnM x) 4609047870845172685 (by simp (config := {maxDischargeDepth := 12}) only [WQ, hx, W_lnW]) (by simp (config := {maxDischargeDepth := 12}) only [WQ, hx, W_lnW]))
    have G8 : Hid (All 70 #[.int .u64 ((lnM x : Nat) : Int), .int .u64 ((ofV 2 : Nat) : Int)] (.int .u64 ((divV (lnM x) (ofV 2) : Nat) : Int))) := Lib.hid (rdiv5_c (lnM x) (ofV 2) (by simp (config := {maxDischargeDepth := 12}) only [WQ, hx, W_lnW]) (by simp (config := {maxDischargeDepth := 12}) only [WQ, hx, W_lnW]))
    have G9 : Hid (All 79 #[.int .u64 ((divV (lnM x) (ofV 2) : Nat) : Int), .int .u64 ((SF.One : Nat) : Int)] (.int .u64 ((subV (divV (lnM x) (ofV 2)) SF.One : Nat) : Int))) := Lib.hid (rsub5_c (divV (lnM x) (ofV 2)) (SF.One) (by simp (config := {maxDischargeDepth := 12}) only [WQ, hx, W_lnW]) (by simp (config := {maxDischargeDepth := 12}) only [WQ, hx, W_lnW]))
    have G10 : Hid (All 80 #[.int .u64 ((divV (lnM x) (ofV 2) : Nat) : Int), .int .u64 ((SF.One : Nat) : Int)] (.int .u64 ((addV (divV (lnM x) (ofV 2)) SF.One : Nat) : Int))) := Lib.hid (radd5_c (divV (lnM x) (ofV 2)) (SF.One) (by simp (config := {maxDischargeDepth := 12}) only [WQ, hx, W_lnW]) (by simp (config := {maxDischargeDepth := 12}) only [WQ, hx, W_lnW]))
    have G11 : Hid (All 70 #[.int .u64 ((subV (divV (lnM x) (ofV 2)) SF.One : Nat) : Int), .int .u64 ((addV (divV (lnM x) (ofV 2)) SF.One : Nat) : Int)] (.int .u64 ((lnS (divV (lnM x) (ofV 2)) : Nat) : Int))) := Lib.hid (rdiv5_c (subV (divV (lnM x) (ofV 2)) SF.One) (addV (divV (lnM x) (ofV 2)) SF.One) (by simp (config := {maxDischargeDepth := 12}) only [WQ, hx, W_lnW]) (by simp (config := {maxDischargeDepth := 12}) only [WQ, hx, W_lnW]))
    have G12 : Hid (All 68 #[.int .u64 ((lnS (divV (lnM x) (ofV 2)) : Nat) : Int), .int .u64 ((lnS (divV (lnM x) (ofV 2)) : Nat) : Int)] (.int .u64 ((mulV (lnS (divV (lnM x) (ofV 2))) (lnS (divV (lnM x) (ofV 2))) : Nat) : Int))) := Lib.hid (rmul5_c (lnS (divV (lnM x) (ofV 2))) (lnS (divV (lnM x) (ofV 2))) (by simp (config := {maxDischargeDepth := 12}) only [WQ, hx, W_lnW]) (by simp (config := {maxDischargeDepth := 12}) only [WQ, hx, W_lnW]))
    have G13 : Hid (All 62 #[.int .i64 21] (.int .u64 ((ofV 21 : Nat) : Int))) := Lib.hid (of_c (21) (by decide) (by decide))
    have G14 : Hid (All 70 #[.int .u64 ((SF.One : Nat) : Int), .int .u64 ((ofV 21 : Nat) : Int)] (.int .u64 ((invV 21 : Nat) : Int))) := Lib.hid (rdiv5_c (SF.One) (ofV 21) (by simp (config := {maxDischargeDepth := 12}) only [WQ, hx, W_lnW]) (by simp (config := {maxDischargeDepth := 12}) only [WQ, hx, W_lnW]))
    have G15 : Hid (All 62 #[.int .i64 ((L) - (J) + 1)] (.int .u64 ((ofV (lnK x + 1) : Nat) : Int))) := Lib.hid (KF)
    have G16 : Hid (All 68 #[.int .u64 ((ofV (lnK x + 1) : Nat) : Int), .int .u64 4604418534313441775] (.int .u64 ((mulV (ofV (lnK x + 1)) 4604418534313441775 : Nat) : Int))) := Lib.hid (rmul5_c (ofV (lnK x + 1)) 4604418534313441775 (by simp (config := {maxDischargeDepth := 12}) only [WQ, hx, W_lnW]) (by simp (config := {maxDischargeDepth := 12}) only [WQ, hx, W_lnW]))
    have G17 : Hid (All 68 #[.int .u64 ((ofV 2 : Nat) : Int), .int .u64 ((lnS (divV (lnM x) (ofV 2)) : Nat) : Int)] (.int .u64 ((mulV (ofV 2) (lnS (divV (lnM x) (ofV 2))) : Nat) : Int))) := Lib.hid (rmul5_c (ofV 2) (lnS (divV (lnM x) (ofV 2))) (by simp (config := {maxDischargeDepth := 12}) only [WQ, hx, W_lnW]) (by simp (config := {maxDischargeDepth := 12}) only [WQ, hx, W_lnW]))
    have G18 : Hid (All 68 #[.int .u64 ((mulV (ofV 2) (lnS (divV (lnM x) (ofV 2))) : Nat) : Int), .int .u64 ((lnP (mulV (lnS (divV (lnM x) (ofV 2))) (lnS (divV (lnM x) (ofV 2)))) : Nat) : Int)] (.int .u64 ((mulV (mulV (ofV 2) (lnS (divV (lnM x) (ofV 2)))) (lnP (mulV (lnS (divV (lnM x) (ofV 2))) (lnS (divV (lnM x) (ofV 2))))) : Nat) : Int))) := Lib.hid (rmul5_c (mulV (ofV 2) (lnS (divV (lnM x) (ofV 2)))) (lnP (mulV (lnS (divV (lnM x) (ofV 2))) (lnS (divV (lnM x) (ofV 2))))) (by simp (config := {maxDischargeDepth := 12}) only [WQ, hx, W_lnW]) (by simp (config := {maxDischargeDepth := 12}) only [WQ, hx, W_lnW]))
    have G19 : Hid (All 80 #[.int .u64 ((mulV (ofV (lnK x + 1)) 4604418534313441775 : Nat) : Int), .int .u64 ((mulV (mulV (ofV 2) (lnS (divV (lnM x) (ofV 2)))) (lnP (mulV (lnS (divV (lnM x) (ofV 2))) (lnS (divV (lnM x) (ofV 2))))) : Nat) : Int)] (.int .u64 ((lnT (divV (lnM x) (ofV 2)) (lnK x + 1) : Nat) : Int))) := Lib.hid (radd5_c (mulV (ofV (lnK x + 1)) 4604418534313441775) (mulV (mulV (ofV 2) (lnS (divV (lnM x) (ofV 2)))) (lnP (mulV (lnS (divV (lnM x) (ofV 2))) (lnS (divV (lnM x) (ofV 2)))))) (by simp (config := {maxDischargeDepth := 12}) only [WQ, hx, W_lnW]) (by simp (config := {maxDischargeDepth := 12}) only [WQ, hx, W_lnW]))
    exact rln_g (J := J) (L := L) (M := fun k : Int => ((lnW x k : Nat) : Int)) (N := fun k : Int => ((lnW x (J - k) : Nat) : Int)) (P := (fun k : Int => ((upV (lnStep (mulV (lnS (divV (lnM x) (ofV 2))) (lnS (divV (lnM x) (ofV 2))))) 9 (invV 21) ((9 : Int) - k).toNat : Nat) : Int))) he (by omega) (by omega) (by omega) (by omega) G0 G1 G2 G3 G4 G5 G6 G7 G8 G9 G10 G11 G12 G13 G14 G15 G16 G17 G18 G19
      (Lib.hid (fun k k1 k2 => by
        obtain ⟨u1, u2⟩ := lnW_up n1 i1 z1 k1 (by omega)
        have h1 := rbelow_c (lnW x k) (ofV 1) (W_lnW _ _) (W_ofV _)
        rw [u1, of_1] at h1
        have h2 := rScale_c (lnW x k) (W_lnW _ _) 1 (by decide)
        rw [u2] at h2
        exact ⟨0, Lib.hid h1, Lib.hid h2⟩)) (by show ((lnW x 0 : Nat) : Int) = _; rw [lnW_0 hx n1 i1 g1]) rfl
      (Lib.hid (fun k k1 k2 => by
        obtain ⟨u1, u2⟩ := lnW_down n1 i1 z1 k1 (show k < lnK x by omega)
        have e1 : J - k = -k := by omega
        have e2 : J - (k + 1) = -(k + 1) := by omega
        have h1 := rbelow_c (lnW x (-k)) (ofV 2) (W_lnW _ _) (W_ofV _)
        rw [u1] at h1
        have h2 := rScale_c (lnW x (-k)) (W_lnW _ _) (-1) (by decide)
        rw [u2] at h2
        rw [e1, e2]
        exact ⟨0, Lib.hid h1, Lib.hid h2⟩)) (by show ((lnW x (J - 0) : Nat) : Int) = _; rw [Int.sub_zero]) (by show ((lnW x (J - L) : Nat) : Int) = _; rw [show J - L = -lnK x by omega, lnW_M])
      (Lib.hid (fun k k1 k2 => by
        obtain ⟨q, hq⟩ : ∃ q, upV (lnStep (mulV (lnS (divV (lnM x) (ofV 2))) (lnS (divV (lnM x) (ofV 2))))) 9 (invV 21) (9 - k).toNat = q := ⟨_, rfl⟩
        have wq : W q := by rw [← hq]; exact W_upV W_invV (fun _ _ _ => W_lnStep) _
        refine ⟨((ofV (2 * k + 1) : Nat) : Int), ((invV (2 * k + 1) : Nat) : Int), ((mulV (mulV (lnS (divV (lnM x) (ofV 2))) (lnS (divV (lnM x) (ofV 2)))) q : Nat) : Int), Lib.hid (of_c (2 * k + 1) (by omega) (by omega)), Lib.hid (rdiv5_c SF.One (ofV (2 * k + 1)) (by simp (config := {maxDischargeDepth := 12}) only [WQ, hx, W_lnW]) (by simp (config := {maxDischargeDepth := 12}) only [WQ, hx, W_lnW])), ?_, ?_⟩
        · rw [hq]; exact Lib.hid (rmul5_c (mulV (lnS (divV (lnM x) (ofV 2))) (lnS (divV (lnM x) (ofV 2)))) q (W_mulV _ _) wq)
        · rw [upV_next _ _ _ k2, hq]; exact Lib.hid (radd5_c (invV (2 * k + 1)) (mulV (mulV (lnS (divV (lnM x) (ofV 2))) (lnS (divV (lnM x) (ofV 2)))) q) W_invV (W_mulV _ _))))
      (by show ((upV _ _ _ ((9 : Int) - 9).toNat : Nat) : Int) = _; rw [Int.sub_self]; rfl) (by show ((upV _ _ _ ((9 : Int) - (0 - 1)).toNat : Nat) : Int) = _; rw [show ((9 : Int) - (0 - 1)).toNat = 9 + 1 by decide]; rfl)
  have r1 := Bool.eq_false_iff.2 r1
  rw [show lnF x = lnT (lnM x) (lnK x) from if_neg (by rw [r1]; decide)]
  have KF : All 62 #[.int .i64 ((L) - (J))] (.int .u64 ((ofV (lnK x) : Nat) : Int)) := by
    rw [show L - J = lnK x by omega]; exact of_c (lnK x) (by omega) (by omega)
  have G0 : Hid (All 64 #[.int .u64 ((x : Nat) : Int)] (.bool false)) := by rw [← n1]; exact Lib.hid (all_of (risnan_c (x) (by simp (config := {maxDischargeDepth := 12}) only [WQ, hx, W_lnW])))
  have G1 : Hid (All 77 #[.int .u64 ((x : Nat) : Int), .int .u64 0] (.bool false)) := by rw [← b1]; exact Lib.hid (rbelow_c (x) 0 (by simp (config := {maxDischargeDepth := 12}) only [WQ, hx, W_lnW]) (by simp (config := {maxDischargeDepth := 12}) only [WQ, hx, W_lnW]))
  have G2 : Hid (All 61 #[.int .u64 ((x : Nat) : Int)] (.bool false)) := by rw [← z1]; exact Lib.hid (all_of (riszero_c (x) (by simp (config := {maxDischargeDepth := 12}) only [WQ, hx, W_lnW])))
  have G3 : Hid (All 62 #[.int .i64 1] (.int .u64 ((SF.One : Nat) : Int))) := Lib.hid (of1_c)
  have G4 : Hid (All 62 #[.int .i64 2] (.int .u64 ((ofV 2 : Nat) : Int))) := Lib.hid (of_c (2) (by decide) (by decide))
  have G5 : Hid (All 77 #[.int .u64 ((lnW x J : Nat) : Int), .int .u64 ((SF.One : Nat) : Int)] (.bool false)) := by rw [← d1]; exact Lib.hid (rbelow_c (lnW x J) (SF.One) (by simp (config := {maxDischargeDepth := 12}) only [WQ, hx, W_lnW]) (by simp (config := {maxDischargeDepth := 12}) only [WQ, hx, W_lnW]))
  have G6 : Hid (All 77 #[.int .u64 ((lnM x : Nat) : Int), .int .u64 ((ofV 2 : Nat) : Int)] (.bool true)) := by rw [← d2]; exact Lib.hid (rbelow_c (lnM x) (ofV 2) (by simp (config := {maxDischargeDepth := 12}) only [WQ, hx, W_lnW]) (by simp (config := {maxDischargeDepth := 12}) only [WQ, hx, W_lnW]))
  have G7 : Hid (All 66 #[.int .u64 ((lnM x : Nat) : Int), .int .u64 4609047870845172685] (.bool false)) := by rw [← r1]; exact Lib.hid (rabove_c (lnM x) 4609047870845172685 (by simp (config := {maxDischargeDepth := 12}) only [WQ, hx, W_lnW]) (by simp (config := {maxDischargeDepth := 12}) only [WQ, hx, W_lnW]))
  have G8 : Hid (All 79 #[.int .u64 ((lnM x : Nat) : Int), .int .u64 ((SF.One : Nat) : Int)] (.int .u64 ((subV (lnM x) SF.One : Nat) : Int))) := Lib.hid (rsub5_c (lnM x) (SF.One) (by simp (config := {maxDischargeDepth := 12}) only [WQ, hx, W_lnW]) (by simp (config := {maxDischargeDepth := 12}) only [WQ, hx, W_lnW]))
  have G9 : Hid (All 80 #[.int .u64 ((lnM x : Nat) : Int), .int .u64 ((SF.One : Nat) : Int)] (.int .u64 ((addV (lnM x) SF.One : Nat) : Int))) := Lib.hid (radd5_c (lnM x) (SF.One) (by simp (config := {maxDischargeDepth := 12}) only [WQ, hx, W_lnW]) (by simp (config := {maxDischargeDepth := 12}) only [WQ, hx, W_lnW]))
  have G10 : Hid (All 70 #[.int .u64 ((subV (lnM x) SF.One : Nat) : Int), .int .u64 ((addV (lnM x) SF.One : Nat) : Int)] (.int .u64 ((lnS (lnM x) : Nat) : Int))) := Lib.hid (rdiv5_c (subV (lnM x) SF.One) (addV (lnM x) SF.One) (by simp (config := {maxDischargeDepth := 12}) only [WQ, hx, W_lnW]) (by simp (config := {maxDischargeDepth := 12}) only [WQ, hx, W_lnW]))
  have G11 : Hid (All 68 #[.int .u64 ((lnS (lnM x) : Nat) : Int), .int .u64 ((lnS (lnM x) : Nat) : Int)] (.int .u64 ((mulV (lnS (lnM x)) (lnS (lnM x)) : Nat) : Int))) := Lib.hid (rmul5_c (lnS (lnM x)) (lnS (lnM x)) (by simp (config := {maxDischargeDepth := 12}) only [WQ, hx, W_lnW]) (by simp (config := {maxDischargeDepth := 12}) only [WQ, hx, W_lnW]))
  have G12 : Hid (All 62 #[.int .i64 21] (.int .u64 ((ofV 21 : Nat) : Int))) := Lib.hid (of_c (21) (by decide) (by decide))
  have G13 : Hid (All 70 #[.int .u64 ((SF.One : Nat) : Int), .int .u64 ((ofV 21 : Nat) : Int)] (.int .u64 ((invV 21 : Nat) : Int))) := Lib.hid (rdiv5_c (SF.One) (ofV 21) (by simp (config := {maxDischargeDepth := 12}) only [WQ, hx, W_lnW]) (by simp (config := {maxDischargeDepth := 12}) only [WQ, hx, W_lnW]))
  have G14 : Hid (All 62 #[.int .i64 ((L) - (J))] (.int .u64 ((ofV (lnK x) : Nat) : Int))) := Lib.hid (KF)
  have G15 : Hid (All 68 #[.int .u64 ((ofV (lnK x) : Nat) : Int), .int .u64 4604418534313441775] (.int .u64 ((mulV (ofV (lnK x)) 4604418534313441775 : Nat) : Int))) := Lib.hid (rmul5_c (ofV (lnK x)) 4604418534313441775 (by simp (config := {maxDischargeDepth := 12}) only [WQ, hx, W_lnW]) (by simp (config := {maxDischargeDepth := 12}) only [WQ, hx, W_lnW]))
  have G16 : Hid (All 68 #[.int .u64 ((ofV 2 : Nat) : Int), .int .u64 ((lnS (lnM x) : Nat) : Int)] (.int .u64 ((mulV (ofV 2) (lnS (lnM x)) : Nat) : Int))) := Lib.hid (rmul5_c (ofV 2) (lnS (lnM x)) (by simp (config := {maxDischargeDepth := 12}) only [WQ, hx, W_lnW]) (by simp (config := {maxDischargeDepth := 12}) only [WQ, hx, W_lnW]))
  have G17 : Hid (All 68 #[.int .u64 ((mulV (ofV 2) (lnS (lnM x)) : Nat) : Int), .int .u64 ((lnP (mulV (lnS (lnM x)) (lnS (lnM x))) : Nat) : Int)] (.int .u64 ((mulV (mulV (ofV 2) (lnS (lnM x))) (lnP (mulV (lnS (lnM x)) (lnS (lnM x)))) : Nat) : Int))) := Lib.hid (rmul5_c (mulV (ofV 2) (lnS (lnM x))) (lnP (mulV (lnS (lnM x)) (lnS (lnM x)))) (by simp (config := {maxDischargeDepth := 12}) only [WQ, hx, W_lnW]) (by simp (config := {maxDischargeDepth := 12}) only [WQ, hx, W_lnW]))
  have G18 : Hid (All 80 #[.int .u64 ((mulV (ofV (lnK x)) 4604418534313441775 : Nat) : Int), .int .u64 ((mulV (mulV (ofV 2) (lnS (lnM x))) (lnP (mulV (lnS (lnM x)) (lnS (lnM x)))) : Nat) : Int)] (.int .u64 ((lnT (lnM x) (lnK x) : Nat) : Int))) := Lib.hid (radd5_c (mulV (ofV (lnK x)) 4604418534313441775) (mulV (mulV (ofV 2) (lnS (lnM x))) (lnP (mulV (lnS (lnM x)) (lnS (lnM x))))) (by simp (config := {maxDischargeDepth := 12}) only [WQ, hx, W_lnW]) (by simp (config := {maxDischargeDepth := 12}) only [WQ, hx, W_lnW]))
  exact rln_s (J := J) (L := L) (M := fun k : Int => ((lnW x k : Nat) : Int)) (N := fun k : Int => ((lnW x (J - k) : Nat) : Int)) (P := (fun k : Int => ((upV (lnStep (mulV (lnS (lnM x)) (lnS (lnM x)))) 9 (invV 21) ((9 : Int) - k).toNat : Nat) : Int))) he (by omega) (by omega) (by omega) (by omega) G0 G1 G2 G3 G4 G5 G6 G7 G8 G9 G10 G11 G12 G13 G14 G15 G16 G17 G18
    (Lib.hid (fun k k1 k2 => by
      obtain ⟨u1, u2⟩ := lnW_up n1 i1 z1 k1 (by omega)
      have h1 := rbelow_c (lnW x k) (ofV 1) (W_lnW _ _) (W_ofV _)
      rw [u1, of_1] at h1
      have h2 := rScale_c (lnW x k) (W_lnW _ _) 1 (by decide)
      rw [u2] at h2
      exact ⟨0, Lib.hid h1, Lib.hid h2⟩)) (by show ((lnW x 0 : Nat) : Int) = _; rw [lnW_0 hx n1 i1 g1]) rfl
    (Lib.hid (fun k k1 k2 => by
      obtain ⟨u1, u2⟩ := lnW_down n1 i1 z1 k1 (show k < lnK x by omega)
      have e1 : J - k = -k := by omega
      have e2 : J - (k + 1) = -(k + 1) := by omega
      have h1 := rbelow_c (lnW x (-k)) (ofV 2) (W_lnW _ _) (W_ofV _)
      rw [u1] at h1
      have h2 := rScale_c (lnW x (-k)) (W_lnW _ _) (-1) (by decide)
      rw [u2] at h2
      rw [e1, e2]
      exact ⟨0, Lib.hid h1, Lib.hid h2⟩)) (by show ((lnW x (J - 0) : Nat) : Int) = _; rw [Int.sub_zero]) (by show ((lnW x (J - L) : Nat) : Int) = _; rw [show J - L = -lnK x by omega, lnW_M])
    (Lib.hid (fun k k1 k2 => by
      obtain ⟨q, hq⟩ : ∃ q, upV (lnStep (mulV (lnS (lnM x)) (lnS (lnM x)))) 9 (invV 21) (9 - k).toNat = q := ⟨_, rfl⟩
      have wq : W q := by rw [← hq]; exact W_upV W_invV (fun _ _ _ => W_lnStep) _
      refine ⟨((ofV (2 * k + 1) : Nat) : Int), ((invV (2 * k + 1) : Nat) : Int), ((mulV (mulV (lnS (lnM x)) (lnS (lnM x))) q : Nat) : Int), Lib.hid (of_c (2 * k + 1) (by omega) (by omega)), Lib.hid (rdiv5_c SF.One (ofV (2 * k + 1)) (by simp (config := {maxDischargeDepth := 12}) only [WQ, hx, W_lnW]) (by simp (config := {maxDischargeDepth := 12}) only [WQ, hx, W_lnW])), ?_, ?_⟩
      · rw [hq]; exact Lib.hid (rmul5_c (mulV (lnS (lnM x)) (lnS (lnM x))) q (W_mulV _ _) wq)
      · rw [upV_next _ _ _ k2, hq]; exact Lib.hid (radd5_c (invV (2 * k + 1)) (mulV (mulV (lnS (lnM x)) (lnS (lnM x))) q) W_invV (W_mulV _ _))))
    (by show ((upV _ _ _ ((9 : Int) - 9).toNat : Nat) : Int) = _; rw [Int.sub_self]; rfl) (by show ((upV _ _ _ ((9 : Int) - (0 - 1)).toNat : Nat) : Int) = _; rw [show ((9 : Int) - (0 - 1)).toNat = 9 + 1 by decide]; rfl)
theorem rpinv (R : Nat) : ∀ n r b, PInv R n r b → 0 < n → ∃ r1 b1 : Int, (n % 2 = 1 → Hid (All 68 #[.int .u64 r, .int .u64 b] (.int .u64 r1))) ∧ (n % 2 = 0 → r1 = r) ∧ (0 < n / 2 → Hid (All 68 #[.int .u64 b, .int .u64 b] (.int .u64 b1))) ∧ (¬ 0 < n / 2 → b1 = b) ∧ PInv R (n / 2) r1 b1 := by
  intro n r b I h
  obtain ⟨f, rr, bb, rfl, rfl, n0, n1, wr, wb, e⟩ := I
  refine ⟨_, _, fun ho => ?_, fun ho => ?_, fun hn => ?_, fun hn => ?_, pinv_next h n1 wr wb e⟩
  · rw [if_pos ho]; exact Lib.hid (rmul5_c rr bb wr wb)
  · rw [if_neg (by omega)]
  · rw [if_pos hn]; exact Lib.hid (rmul5_c bb bb wb wb)
  · rw [if_neg hn]
theorem pinv_first (x : Nat) (hx : W x) (k : Int) (k1 : 0 ≤ k) (k2 : k ≤ 100000) : PInv (powN x k) k ((SF.One : Nat) : Int) (x : Int) := ⟨20, SF.One, x, rfl, rfl, k1, by omega, W_One, hx, rfl⟩
theorem rpow_y (x y : Nat) (hx : W x) (hy : W y) (zy : zer y = false) (n2 : nan y = true) : All 9 #[.int .u64 ((x : Nat) : Int), .int .u64 ((y : Nat) : Int)] (.int .u64 ((NaN : Nat) : Int)) := by
  by_cases p1 : belowV 0 x = true
  · rw [show NaN = expV (mulV y (lnV x)) by rw [mul_nan n2, show expV NaN = NaN by unfold expV; rw [if_pos nan_NaN]]]
    have G0 : Hid (All 61 #[.int .u64 ((y : Nat) : Int)] (.bool false)) := by rw [← zy]; exact Lib.hid (all_of (riszero_c (y) (by simp (config := {maxDischargeDepth := 12}) only [WQ, hx, hy])))
    have G1 : Hid (All 63 #[.int .u64 ((y : Nat) : Int)] (.int .u64 ((absV y : Nat) : Int))) := Lib.hid (all_of (rabs_c (y) (by simp (config := {maxDischargeDepth := 12}) only [WQ, hx, hy])))
    have G2 : Hid (All 64 #[.int .u64 ((y : Nat) : Int)] (.bool true)) := by rw [← n2]; exact Lib.hid (all_of (risnan_c (y) (by simp (config := {maxDischargeDepth := 12}) only [WQ, hx, hy])))
    have G3 : Hid (All 66 #[.int .u64 ((x : Nat) : Int), .int .u64 0] (.bool true)) := by rw [← p1]; exact Lib.hid (rabove_c (x) 0 (by simp (config := {maxDischargeDepth := 12}) only [WQ, hx, hy]) (by simp (config := {maxDischargeDepth := 12}) only [WQ, hx, hy]))
    have G4 : Hid (All 14 #[.int .u64 ((x : Nat) : Int)] (.int .u64 ((lnV x : Nat) : Int))) := Lib.hid (rln_c (x) (by simp (config := {maxDischargeDepth := 12}) only [WQ, hx, hy]))
    have G5 : Hid (All 68 #[.int .u64 ((y : Nat) : Int), .int .u64 ((lnV x : Nat) : Int)] (.int .u64 ((mulV y (lnV x) : Nat) : Int))) := Lib.hid (rmul5_c (y) (lnV x) (by simp (config := {maxDischargeDepth := 12}) only [WQ, hx, hy]) (by simp (config := {maxDischargeDepth := 12}) only [WQ, hx, hy]))
    have G6 : Hid (All 12 #[.int .u64 ((mulV y (lnV x) : Nat) : Int)] (.int .u64 ((expV (mulV y (lnV x)) : Nat) : Int))) := Lib.hid (rexp_c (mulV y (lnV x)) (by simp (config := {maxDischargeDepth := 12}) only [WQ, hx, hy]))
    exact rpow_ne G0 G1 G2 G3 G4 G5 G6
  have p1 := Bool.eq_false_iff.2 p1
  by_cases zx : zer x = true
  · have G0 : Hid (All 61 #[.int .u64 ((y : Nat) : Int)] (.bool false)) := by rw [← zy]; exact Lib.hid (all_of (riszero_c (y) (by simp (config := {maxDischargeDepth := 12}) only [WQ, hx, hy])))
    have G1 : Hid (All 63 #[.int .u64 ((y : Nat) : Int)] (.int .u64 ((absV y : Nat) : Int))) := Lib.hid (all_of (rabs_c (y) (by simp (config := {maxDischargeDepth := 12}) only [WQ, hx, hy])))
    have G2 : Hid (All 64 #[.int .u64 ((y : Nat) : Int)] (.bool true)) := by rw [← n2]; exact Lib.hid (all_of (risnan_c (y) (by simp (config := {maxDischargeDepth := 12}) only [WQ, hx, hy])))
    have G3 : Hid (All 66 #[.int .u64 ((x : Nat) : Int), .int .u64 0] (.bool false)) := by rw [← p1]; exact Lib.hid (rabove_c (x) 0 (by simp (config := {maxDischargeDepth := 12}) only [WQ, hx, hy]) (by simp (config := {maxDischargeDepth := 12}) only [WQ, hx, hy]))
    have G4 : Hid (All 61 #[.int .u64 ((x : Nat) : Int)] (.bool true)) := by rw [← zx]; exact Lib.hid (all_of (riszero_c (x) (by simp (config := {maxDischargeDepth := 12}) only [WQ, hx, hy])))
    exact rpow_nz G0 G1 G2 G3 G4
  have zx := Bool.eq_false_iff.2 zx
  have G0 : Hid (All 61 #[.int .u64 ((y : Nat) : Int)] (.bool false)) := by rw [← zy]; exact Lib.hid (all_of (riszero_c (y) (by simp (config := {maxDischargeDepth := 12}) only [WQ, hx, hy])))
  have G1 : Hid (All 63 #[.int .u64 ((y : Nat) : Int)] (.int .u64 ((absV y : Nat) : Int))) := Lib.hid (all_of (rabs_c (y) (by simp (config := {maxDischargeDepth := 12}) only [WQ, hx, hy])))
  have G2 : Hid (All 64 #[.int .u64 ((y : Nat) : Int)] (.bool true)) := by rw [← n2]; exact Lib.hid (all_of (risnan_c (y) (by simp (config := {maxDischargeDepth := 12}) only [WQ, hx, hy])))
  have G3 : Hid (All 66 #[.int .u64 ((x : Nat) : Int), .int .u64 0] (.bool false)) := by rw [← p1]; exact Lib.hid (rabove_c (x) 0 (by simp (config := {maxDischargeDepth := 12}) only [WQ, hx, hy]) (by simp (config := {maxDischargeDepth := 12}) only [WQ, hx, hy]))
  have G4 : Hid (All 61 #[.int .u64 ((x : Nat) : Int)] (.bool false)) := by rw [← zx]; exact Lib.hid (all_of (riszero_c (x) (by simp (config := {maxDischargeDepth := 12}) only [WQ, hx, hy])))
  exact rpow_nm G0 G1 G2 G3 G4
theorem rpow_x (x y : Nat) (hx : W x) (hy : W y) (zy : zer y = false) (n2 : nan y = false) (n1 : nan x = true) : All 9 #[.int .u64 ((x : Nat) : Int), .int .u64 ((y : Nat) : Int)] (.int .u64 ((NaN : Nat) : Int)) := by
  have p1 : belowV 0 x = false := by unfold belowV okV; rw [n1]; rfl
  have zx : zer x = false := by unfold nan at n1; unfold zer; simp at n1 ⊢; omega
  by_cases c0 : wholeV 0 y = y
  · have he : (((wholeV 0 y : Nat) : Int) == ((y : Nat) : Int)) = true := by rw [c0]; exact beq_self_eq_true _
    by_cases g1 : belowV (ofV 1024) (absV y) = true
    · have G0 : Hid (All 61 #[.int .u64 ((y : Nat) : Int)] (.bool false)) := by rw [← zy]; exact Lib.hid (all_of (riszero_c (y) (by simp (config := {maxDischargeDepth := 12}) only [WQ, hx, hy])))
      have G1 : Hid (All 63 #[.int .u64 ((y : Nat) : Int)] (.int .u64 ((absV y : Nat) : Int))) := Lib.hid (all_of (rabs_c (y) (by simp (config := {maxDischargeDepth := 12}) only [WQ, hx, hy])))
      have G2 : Hid (All 64 #[.int .u64 ((y : Nat) : Int)] (.bool false)) := by rw [← n2]; exact Lib.hid (all_of (risnan_c (y) (by simp (config := {maxDischargeDepth := 12}) only [WQ, hx, hy])))
      have G3 : Hid (All 65 #[.int .u64 ((y : Nat) : Int)] (.int .u64 ((wholeV 0 y : Nat) : Int))) := Lib.hid (rTrunc_c (y) (by simp (config := {maxDischargeDepth := 12}) only [WQ, hx, hy]))
      have G4 : Hid (All 62 #[.int .i64 1024] (.int .u64 ((ofV 1024 : Nat) : Int))) := Lib.hid (of_c (1024) (by decide) (by decide))
      have G5 : Hid (All 66 #[.int .u64 ((absV y : Nat) : Int), .int .u64 ((ofV 1024 : Nat) : Int)] (.bool true)) := by rw [← g1]; exact Lib.hid (rabove_c (absV y) (ofV 1024) (by simp (config := {maxDischargeDepth := 12}) only [WQ, hx, hy]) (by simp (config := {maxDischargeDepth := 12}) only [WQ, hx, hy]))
      have G6 : Hid (All 66 #[.int .u64 ((x : Nat) : Int), .int .u64 0] (.bool false)) := by rw [← p1]; exact Lib.hid (rabove_c (x) 0 (by simp (config := {maxDischargeDepth := 12}) only [WQ, hx, hy]) (by simp (config := {maxDischargeDepth := 12}) only [WQ, hx, hy]))
      have G7 : Hid (All 61 #[.int .u64 ((x : Nat) : Int)] (.bool false)) := by rw [← zx]; exact Lib.hid (all_of (riszero_c (x) (by simp (config := {maxDischargeDepth := 12}) only [WQ, hx, hy])))
      exact rpow_am he G0 G1 G2 G3 G4 G5 G6 G7
    have g1 := Bool.eq_false_iff.2 g1
    have r1 := cell_range n2 g1
    have e1 : powN x (toLo (absV y)) = NaN := powN_nan n1 (cell_pos n2 zy c0 g1) r1.2
    by_cases s1 : ng y = true
    · rw [show NaN = divV SF.One (powN x (toLo (absV y))) by rw [e1, div_nan' nan_NaN]]
      have G0 : Hid (All 61 #[.int .u64 ((y : Nat) : Int)] (.bool false)) := by rw [← zy]; exact Lib.hid (all_of (riszero_c (y) (by simp (config := {maxDischargeDepth := 12}) only [WQ, hx, hy])))
      have G1 : Hid (All 63 #[.int .u64 ((y : Nat) : Int)] (.int .u64 ((absV y : Nat) : Int))) := Lib.hid (all_of (rabs_c (y) (by simp (config := {maxDischargeDepth := 12}) only [WQ, hx, hy])))
      have G2 : Hid (All 64 #[.int .u64 ((y : Nat) : Int)] (.bool false)) := by rw [← n2]; exact Lib.hid (all_of (risnan_c (y) (by simp (config := {maxDischargeDepth := 12}) only [WQ, hx, hy])))
      have G3 : Hid (All 65 #[.int .u64 ((y : Nat) : Int)] (.int .u64 ((wholeV 0 y : Nat) : Int))) := Lib.hid (rTrunc_c (y) (by simp (config := {maxDischargeDepth := 12}) only [WQ, hx, hy]))
      have G4 : Hid (All 62 #[.int .i64 1024] (.int .u64 ((ofV 1024 : Nat) : Int))) := Lib.hid (of_c (1024) (by decide) (by decide))
      have G5 : Hid (All 66 #[.int .u64 ((absV y : Nat) : Int), .int .u64 ((ofV 1024 : Nat) : Int)] (.bool false)) := by rw [← g1]; exact Lib.hid (rabove_c (absV y) (ofV 1024) (by simp (config := {maxDischargeDepth := 12}) only [WQ, hx, hy]) (by simp (config := {maxDischargeDepth := 12}) only [WQ, hx, hy]))
      have G6 : Hid (All 67 #[.int .u64 ((absV y : Nat) : Int)] (.tuple #[.int .i64 ((toLo (absV y))), .int .i64 ((toHi (absV y))), .int .i64 ((toT (absV y)))])) := Lib.hid (rTo_c (absV y) (by simp (config := {maxDischargeDepth := 12}) only [WQ, hx, hy]))
      have G7 : Hid (All 62 #[.int .i64 1] (.int .u64 ((SF.One : Nat) : Int))) := Lib.hid (of1_c)
      have G8 : Hid (All 69 #[.int .u64 ((y : Nat) : Int)] (.bool true)) := by rw [← s1]; exact Lib.hid (all_of (rminus_c (y) (by simp (config := {maxDischargeDepth := 12}) only [WQ, hx, hy])))
      have G9 : Hid (All 70 #[.int .u64 ((SF.One : Nat) : Int), .int .u64 ((powN x (toLo (absV y)) : Nat) : Int)] (.int .u64 ((divV SF.One (powN x (toLo (absV y))) : Nat) : Int))) := Lib.hid (rdiv5_c (SF.One) (powN x (toLo (absV y))) (by simp (config := {maxDischargeDepth := 12}) only [WQ, hx, hy]) (by simp (config := {maxDischargeDepth := 12}) only [WQ, hx, hy]))
      exact rpow_wm he r1.1 r1.2 (PInv (powN x (toLo (absV y)))) (Lib.hid (rpinv _)) (Lib.hid (fun n r b I h => pinv_end I h)) (pinv_first x hx _ r1.1 r1.2) G0 G1 G2 G3 G4 G5 G6 G7 G8 G9
    have s1 := Bool.eq_false_iff.2 s1
    rw [← e1]
    have G0 : Hid (All 61 #[.int .u64 ((y : Nat) : Int)] (.bool false)) := by rw [← zy]; exact Lib.hid (all_of (riszero_c (y) (by simp (config := {maxDischargeDepth := 12}) only [WQ, hx, hy])))
    have G1 : Hid (All 63 #[.int .u64 ((y : Nat) : Int)] (.int .u64 ((absV y : Nat) : Int))) := Lib.hid (all_of (rabs_c (y) (by simp (config := {maxDischargeDepth := 12}) only [WQ, hx, hy])))
    have G2 : Hid (All 64 #[.int .u64 ((y : Nat) : Int)] (.bool false)) := by rw [← n2]; exact Lib.hid (all_of (risnan_c (y) (by simp (config := {maxDischargeDepth := 12}) only [WQ, hx, hy])))
    have G3 : Hid (All 65 #[.int .u64 ((y : Nat) : Int)] (.int .u64 ((wholeV 0 y : Nat) : Int))) := Lib.hid (rTrunc_c (y) (by simp (config := {maxDischargeDepth := 12}) only [WQ, hx, hy]))
    have G4 : Hid (All 62 #[.int .i64 1024] (.int .u64 ((ofV 1024 : Nat) : Int))) := Lib.hid (of_c (1024) (by decide) (by decide))
    have G5 : Hid (All 66 #[.int .u64 ((absV y : Nat) : Int), .int .u64 ((ofV 1024 : Nat) : Int)] (.bool false)) := by rw [← g1]; exact Lib.hid (rabove_c (absV y) (ofV 1024) (by simp (config := {maxDischargeDepth := 12}) only [WQ, hx, hy]) (by simp (config := {maxDischargeDepth := 12}) only [WQ, hx, hy]))
    have G6 : Hid (All 67 #[.int .u64 ((absV y : Nat) : Int)] (.tuple #[.int .i64 ((toLo (absV y))), .int .i64 ((toHi (absV y))), .int .i64 ((toT (absV y)))])) := Lib.hid (rTo_c (absV y) (by simp (config := {maxDischargeDepth := 12}) only [WQ, hx, hy]))
    have G7 : Hid (All 62 #[.int .i64 1] (.int .u64 ((SF.One : Nat) : Int))) := Lib.hid (of1_c)
    have G8 : Hid (All 69 #[.int .u64 ((y : Nat) : Int)] (.bool false)) := by rw [← s1]; exact Lib.hid (all_of (rminus_c (y) (by simp (config := {maxDischargeDepth := 12}) only [WQ, hx, hy])))
    exact rpow_wp he r1.1 r1.2 (PInv (powN x (toLo (absV y)))) (Lib.hid (rpinv _)) (Lib.hid (fun n r b I h => pinv_end I h)) (pinv_first x hx _ r1.1 r1.2) G0 G1 G2 G3 G4 G5 G6 G7 G8
  have he : (((wholeV 0 y : Nat) : Int) == ((y : Nat) : Int)) = false := by rw [beq_eq_false_iff_ne]; intro h; exact c0 (by omega)
  have G0 : Hid (All 61 #[.int .u64 ((y : Nat) : Int)] (.bool false)) := by rw [← zy]; exact Lib.hid (all_of (riszero_c (y) (by simp (config := {maxDischargeDepth := 12}) only [WQ, hx, hy])))
  have G1 : Hid (All 63 #[.int .u64 ((y : Nat) : Int)] (.int .u64 ((absV y : Nat) : Int))) := Lib.hid (all_of (rabs_c (y) (by simp (config := {maxDischargeDepth := 12}) only [WQ, hx, hy])))
  have G2 : Hid (All 64 #[.int .u64 ((y : Nat) : Int)] (.bool false)) := by rw [← n2]; exact Lib.hid (all_of (risnan_c (y) (by simp (config := {maxDischargeDepth := 12}) only [WQ, hx, hy])))
  have G3 : Hid (All 65 #[.int .u64 ((y : Nat) : Int)] (.int .u64 ((wholeV 0 y : Nat) : Int))) := Lib.hid (rTrunc_c (y) (by simp (config := {maxDischargeDepth := 12}) only [WQ, hx, hy]))
  have G4 : Hid (All 66 #[.int .u64 ((x : Nat) : Int), .int .u64 0] (.bool false)) := by rw [← p1]; exact Lib.hid (rabove_c (x) 0 (by simp (config := {maxDischargeDepth := 12}) only [WQ, hx, hy]) (by simp (config := {maxDischargeDepth := 12}) only [WQ, hx, hy]))
  have G5 : Hid (All 61 #[.int .u64 ((x : Nat) : Int)] (.bool false)) := by rw [← zx]; exact Lib.hid (all_of (riszero_c (x) (by simp (config := {maxDischargeDepth := 12}) only [WQ, hx, hy])))
  exact rpow_tm he G0 G1 G2 G3 G4 G5
theorem rpow_f (x y : Nat) (hx : W x) (hy : W y) (zy : zer y = false) (n2 : nan y = false) (n1 : nan x = false) : All 9 #[.int .u64 ((x : Nat) : Int), .int .u64 ((y : Nat) : Int)] (.int .u64 ((powV x y : Nat) : Int)) := by
  have k0 := pow_whole hy n2 zy
  have b0 := below_0 n2
  rw [zy, Bool.not_false, Bool.and_true] at b0
  by_cases c0 : wholeV 0 y = y
  · have he : (((wholeV 0 y : Nat) : Int) == ((y : Nat) : Int)) = true := by rw [c0]; exact beq_self_eq_true _
    have k1 : powOk y = true := by rw [k0]; exact decide_eq_true c0
    by_cases g1 : belowV (ofV 1024) (absV y) = true
    · by_cases p1 : belowV 0 x = true
      · rw [show powV x y = expV (mulV y (lnV x)) by simp [powV, powR, zy, n2, g1, n1, k1, p1]]
        have G0 : Hid (All 61 #[.int .u64 ((y : Nat) : Int)] (.bool false)) := by rw [← zy]; exact Lib.hid (all_of (riszero_c (y) (by simp (config := {maxDischargeDepth := 12}) only [WQ, hx, hy])))
        have G1 : Hid (All 63 #[.int .u64 ((y : Nat) : Int)] (.int .u64 ((absV y : Nat) : Int))) := Lib.hid (all_of (rabs_c (y) (by simp (config := {maxDischargeDepth := 12}) only [WQ, hx, hy])))
        have G2 : Hid (All 64 #[.int .u64 ((y : Nat) : Int)] (.bool false)) := by rw [← n2]; exact Lib.hid (all_of (risnan_c (y) (by simp (config := {maxDischargeDepth := 12}) only [WQ, hx, hy])))
        have G3 : Hid (All 65 #[.int .u64 ((y : Nat) : Int)] (.int .u64 ((wholeV 0 y : Nat) : Int))) := Lib.hid (rTrunc_c (y) (by simp (config := {maxDischargeDepth := 12}) only [WQ, hx, hy]))
        have G4 : Hid (All 62 #[.int .i64 1024] (.int .u64 ((ofV 1024 : Nat) : Int))) := Lib.hid (of_c (1024) (by decide) (by decide))
        have G5 : Hid (All 66 #[.int .u64 ((absV y : Nat) : Int), .int .u64 ((ofV 1024 : Nat) : Int)] (.bool true)) := by rw [← g1]; exact Lib.hid (rabove_c (absV y) (ofV 1024) (by simp (config := {maxDischargeDepth := 12}) only [WQ, hx, hy]) (by simp (config := {maxDischargeDepth := 12}) only [WQ, hx, hy]))
        have G6 : Hid (All 66 #[.int .u64 ((x : Nat) : Int), .int .u64 0] (.bool true)) := by rw [← p1]; exact Lib.hid (rabove_c (x) 0 (by simp (config := {maxDischargeDepth := 12}) only [WQ, hx, hy]) (by simp (config := {maxDischargeDepth := 12}) only [WQ, hx, hy]))
        have G7 : Hid (All 14 #[.int .u64 ((x : Nat) : Int)] (.int .u64 ((lnV x : Nat) : Int))) := Lib.hid (rln_c (x) (by simp (config := {maxDischargeDepth := 12}) only [WQ, hx, hy]))
        have G8 : Hid (All 68 #[.int .u64 ((y : Nat) : Int), .int .u64 ((lnV x : Nat) : Int)] (.int .u64 ((mulV y (lnV x) : Nat) : Int))) := Lib.hid (rmul5_c (y) (lnV x) (by simp (config := {maxDischargeDepth := 12}) only [WQ, hx, hy]) (by simp (config := {maxDischargeDepth := 12}) only [WQ, hx, hy]))
        have G9 : Hid (All 12 #[.int .u64 ((mulV y (lnV x) : Nat) : Int)] (.int .u64 ((expV (mulV y (lnV x)) : Nat) : Int))) := Lib.hid (rexp_c (mulV y (lnV x)) (by simp (config := {maxDischargeDepth := 12}) only [WQ, hx, hy]))
        exact rpow_ae he G0 G1 G2 G3 G4 G5 G6 G7 G8 G9
      have p1 := Bool.eq_false_iff.2 p1
      by_cases zx : zer x = true
      · by_cases p2 : belowV 0 y = true
        · rw [show powV x y = 0 by simp [powV, powR, zy, n2, g1, n1, k1, p1, zx, p2]]
          have G0 : Hid (All 61 #[.int .u64 ((y : Nat) : Int)] (.bool false)) := by rw [← zy]; exact Lib.hid (all_of (riszero_c (y) (by simp (config := {maxDischargeDepth := 12}) only [WQ, hx, hy])))
          have G1 : Hid (All 63 #[.int .u64 ((y : Nat) : Int)] (.int .u64 ((absV y : Nat) : Int))) := Lib.hid (all_of (rabs_c (y) (by simp (config := {maxDischargeDepth := 12}) only [WQ, hx, hy])))
          have G2 : Hid (All 64 #[.int .u64 ((y : Nat) : Int)] (.bool false)) := by rw [← n2]; exact Lib.hid (all_of (risnan_c (y) (by simp (config := {maxDischargeDepth := 12}) only [WQ, hx, hy])))
          have G3 : Hid (All 65 #[.int .u64 ((y : Nat) : Int)] (.int .u64 ((wholeV 0 y : Nat) : Int))) := Lib.hid (rTrunc_c (y) (by simp (config := {maxDischargeDepth := 12}) only [WQ, hx, hy]))
          have G4 : Hid (All 62 #[.int .i64 1024] (.int .u64 ((ofV 1024 : Nat) : Int))) := Lib.hid (of_c (1024) (by decide) (by decide))
          have G5 : Hid (All 66 #[.int .u64 ((absV y : Nat) : Int), .int .u64 ((ofV 1024 : Nat) : Int)] (.bool true)) := by rw [← g1]; exact Lib.hid (rabove_c (absV y) (ofV 1024) (by simp (config := {maxDischargeDepth := 12}) only [WQ, hx, hy]) (by simp (config := {maxDischargeDepth := 12}) only [WQ, hx, hy]))
          have G6 : Hid (All 66 #[.int .u64 ((x : Nat) : Int), .int .u64 0] (.bool false)) := by rw [← p1]; exact Lib.hid (rabove_c (x) 0 (by simp (config := {maxDischargeDepth := 12}) only [WQ, hx, hy]) (by simp (config := {maxDischargeDepth := 12}) only [WQ, hx, hy]))
          have G7 : Hid (All 61 #[.int .u64 ((x : Nat) : Int)] (.bool true)) := by rw [← zx]; exact Lib.hid (all_of (riszero_c (x) (by simp (config := {maxDischargeDepth := 12}) only [WQ, hx, hy])))
          have G8 : Hid (All 66 #[.int .u64 ((y : Nat) : Int), .int .u64 0] (.bool true)) := by rw [← p2]; exact Lib.hid (rabove_c (y) 0 (by simp (config := {maxDischargeDepth := 12}) only [WQ, hx, hy]) (by simp (config := {maxDischargeDepth := 12}) only [WQ, hx, hy]))
          exact rpow_ap he G0 G1 G2 G3 G4 G5 G6 G7 G8
        have p2 := Bool.eq_false_iff.2 p2
        rw [show powV x y = Inf by simp [powV, powR, zy, n2, g1, n1, k1, p1, zx, p2]]
        have G0 : Hid (All 61 #[.int .u64 ((y : Nat) : Int)] (.bool false)) := by rw [← zy]; exact Lib.hid (all_of (riszero_c (y) (by simp (config := {maxDischargeDepth := 12}) only [WQ, hx, hy])))
        have G1 : Hid (All 63 #[.int .u64 ((y : Nat) : Int)] (.int .u64 ((absV y : Nat) : Int))) := Lib.hid (all_of (rabs_c (y) (by simp (config := {maxDischargeDepth := 12}) only [WQ, hx, hy])))
        have G2 : Hid (All 64 #[.int .u64 ((y : Nat) : Int)] (.bool false)) := by rw [← n2]; exact Lib.hid (all_of (risnan_c (y) (by simp (config := {maxDischargeDepth := 12}) only [WQ, hx, hy])))
        have G3 : Hid (All 65 #[.int .u64 ((y : Nat) : Int)] (.int .u64 ((wholeV 0 y : Nat) : Int))) := Lib.hid (rTrunc_c (y) (by simp (config := {maxDischargeDepth := 12}) only [WQ, hx, hy]))
        have G4 : Hid (All 62 #[.int .i64 1024] (.int .u64 ((ofV 1024 : Nat) : Int))) := Lib.hid (of_c (1024) (by decide) (by decide))
        have G5 : Hid (All 66 #[.int .u64 ((absV y : Nat) : Int), .int .u64 ((ofV 1024 : Nat) : Int)] (.bool true)) := by rw [← g1]; exact Lib.hid (rabove_c (absV y) (ofV 1024) (by simp (config := {maxDischargeDepth := 12}) only [WQ, hx, hy]) (by simp (config := {maxDischargeDepth := 12}) only [WQ, hx, hy]))
        have G6 : Hid (All 66 #[.int .u64 ((x : Nat) : Int), .int .u64 0] (.bool false)) := by rw [← p1]; exact Lib.hid (rabove_c (x) 0 (by simp (config := {maxDischargeDepth := 12}) only [WQ, hx, hy]) (by simp (config := {maxDischargeDepth := 12}) only [WQ, hx, hy]))
        have G7 : Hid (All 61 #[.int .u64 ((x : Nat) : Int)] (.bool true)) := by rw [← zx]; exact Lib.hid (all_of (riszero_c (x) (by simp (config := {maxDischargeDepth := 12}) only [WQ, hx, hy])))
        have G8 : Hid (All 66 #[.int .u64 ((y : Nat) : Int), .int .u64 0] (.bool false)) := by rw [← p2]; exact Lib.hid (rabove_c (y) 0 (by simp (config := {maxDischargeDepth := 12}) only [WQ, hx, hy]) (by simp (config := {maxDischargeDepth := 12}) only [WQ, hx, hy]))
        exact rpow_ai he G0 G1 G2 G3 G4 G5 G6 G7 G8
      have zx := Bool.eq_false_iff.2 zx
      rw [show powV x y = NaN by simp [powV, powR, zy, n2, g1, n1, k1, p1, zx]]
      have G0 : Hid (All 61 #[.int .u64 ((y : Nat) : Int)] (.bool false)) := by rw [← zy]; exact Lib.hid (all_of (riszero_c (y) (by simp (config := {maxDischargeDepth := 12}) only [WQ, hx, hy])))
      have G1 : Hid (All 63 #[.int .u64 ((y : Nat) : Int)] (.int .u64 ((absV y : Nat) : Int))) := Lib.hid (all_of (rabs_c (y) (by simp (config := {maxDischargeDepth := 12}) only [WQ, hx, hy])))
      have G2 : Hid (All 64 #[.int .u64 ((y : Nat) : Int)] (.bool false)) := by rw [← n2]; exact Lib.hid (all_of (risnan_c (y) (by simp (config := {maxDischargeDepth := 12}) only [WQ, hx, hy])))
      have G3 : Hid (All 65 #[.int .u64 ((y : Nat) : Int)] (.int .u64 ((wholeV 0 y : Nat) : Int))) := Lib.hid (rTrunc_c (y) (by simp (config := {maxDischargeDepth := 12}) only [WQ, hx, hy]))
      have G4 : Hid (All 62 #[.int .i64 1024] (.int .u64 ((ofV 1024 : Nat) : Int))) := Lib.hid (of_c (1024) (by decide) (by decide))
      have G5 : Hid (All 66 #[.int .u64 ((absV y : Nat) : Int), .int .u64 ((ofV 1024 : Nat) : Int)] (.bool true)) := by rw [← g1]; exact Lib.hid (rabove_c (absV y) (ofV 1024) (by simp (config := {maxDischargeDepth := 12}) only [WQ, hx, hy]) (by simp (config := {maxDischargeDepth := 12}) only [WQ, hx, hy]))
      have G6 : Hid (All 66 #[.int .u64 ((x : Nat) : Int), .int .u64 0] (.bool false)) := by rw [← p1]; exact Lib.hid (rabove_c (x) 0 (by simp (config := {maxDischargeDepth := 12}) only [WQ, hx, hy]) (by simp (config := {maxDischargeDepth := 12}) only [WQ, hx, hy]))
      have G7 : Hid (All 61 #[.int .u64 ((x : Nat) : Int)] (.bool false)) := by rw [← zx]; exact Lib.hid (all_of (riszero_c (x) (by simp (config := {maxDischargeDepth := 12}) only [WQ, hx, hy])))
      exact rpow_am he G0 G1 G2 G3 G4 G5 G6 G7
    have g1 := Bool.eq_false_iff.2 g1
    have r1 := cell_range n2 g1
    by_cases s1 : ng y = true
    · rw [s1] at b0
      rw [show powV x y = divV SF.One (powN x (toLo (absV y))) by simp [powV, powR, zy, n2, n1, k1, g1, b0]]
      have G0 : Hid (All 61 #[.int .u64 ((y : Nat) : Int)] (.bool false)) := by rw [← zy]; exact Lib.hid (all_of (riszero_c (y) (by simp (config := {maxDischargeDepth := 12}) only [WQ, hx, hy])))
      have G1 : Hid (All 63 #[.int .u64 ((y : Nat) : Int)] (.int .u64 ((absV y : Nat) : Int))) := Lib.hid (all_of (rabs_c (y) (by simp (config := {maxDischargeDepth := 12}) only [WQ, hx, hy])))
      have G2 : Hid (All 64 #[.int .u64 ((y : Nat) : Int)] (.bool false)) := by rw [← n2]; exact Lib.hid (all_of (risnan_c (y) (by simp (config := {maxDischargeDepth := 12}) only [WQ, hx, hy])))
      have G3 : Hid (All 65 #[.int .u64 ((y : Nat) : Int)] (.int .u64 ((wholeV 0 y : Nat) : Int))) := Lib.hid (rTrunc_c (y) (by simp (config := {maxDischargeDepth := 12}) only [WQ, hx, hy]))
      have G4 : Hid (All 62 #[.int .i64 1024] (.int .u64 ((ofV 1024 : Nat) : Int))) := Lib.hid (of_c (1024) (by decide) (by decide))
      have G5 : Hid (All 66 #[.int .u64 ((absV y : Nat) : Int), .int .u64 ((ofV 1024 : Nat) : Int)] (.bool false)) := by rw [← g1]; exact Lib.hid (rabove_c (absV y) (ofV 1024) (by simp (config := {maxDischargeDepth := 12}) only [WQ, hx, hy]) (by simp (config := {maxDischargeDepth := 12}) only [WQ, hx, hy]))
      have G6 : Hid (All 67 #[.int .u64 ((absV y : Nat) : Int)] (.tuple #[.int .i64 ((toLo (absV y))), .int .i64 ((toHi (absV y))), .int .i64 ((toT (absV y)))])) := Lib.hid (rTo_c (absV y) (by simp (config := {maxDischargeDepth := 12}) only [WQ, hx, hy]))
      have G7 : Hid (All 62 #[.int .i64 1] (.int .u64 ((SF.One : Nat) : Int))) := Lib.hid (of1_c)
      have G8 : Hid (All 69 #[.int .u64 ((y : Nat) : Int)] (.bool true)) := by rw [← s1]; exact Lib.hid (all_of (rminus_c (y) (by simp (config := {maxDischargeDepth := 12}) only [WQ, hx, hy])))
      have G9 : Hid (All 70 #[.int .u64 ((SF.One : Nat) : Int), .int .u64 ((powN x (toLo (absV y)) : Nat) : Int)] (.int .u64 ((divV SF.One (powN x (toLo (absV y))) : Nat) : Int))) := Lib.hid (rdiv5_c (SF.One) (powN x (toLo (absV y))) (by simp (config := {maxDischargeDepth := 12}) only [WQ, hx, hy]) (by simp (config := {maxDischargeDepth := 12}) only [WQ, hx, hy]))
      exact rpow_wm he r1.1 r1.2 (PInv (powN x (toLo (absV y)))) (Lib.hid (rpinv _)) (Lib.hid (fun n r b I h => pinv_end I h)) (pinv_first x hx _ r1.1 r1.2) G0 G1 G2 G3 G4 G5 G6 G7 G8 G9
    have s1 := Bool.eq_false_iff.2 s1
    rw [s1] at b0
    rw [show powV x y = powN x (toLo (absV y)) by simp [powV, powR, zy, n2, n1, k1, g1, b0]]
    have G0 : Hid (All 61 #[.int .u64 ((y : Nat) : Int)] (.bool false)) := by rw [← zy]; exact Lib.hid (all_of (riszero_c (y) (by simp (config := {maxDischargeDepth := 12}) only [WQ, hx, hy])))
    have G1 : Hid (All 63 #[.int .u64 ((y : Nat) : Int)] (.int .u64 ((absV y : Nat) : Int))) := Lib.hid (all_of (rabs_c (y) (by simp (config := {maxDischargeDepth := 12}) only [WQ, hx, hy])))
    have G2 : Hid (All 64 #[.int .u64 ((y : Nat) : Int)] (.bool false)) := by rw [← n2]; exact Lib.hid (all_of (risnan_c (y) (by simp (config := {maxDischargeDepth := 12}) only [WQ, hx, hy])))
    have G3 : Hid (All 65 #[.int .u64 ((y : Nat) : Int)] (.int .u64 ((wholeV 0 y : Nat) : Int))) := Lib.hid (rTrunc_c (y) (by simp (config := {maxDischargeDepth := 12}) only [WQ, hx, hy]))
    have G4 : Hid (All 62 #[.int .i64 1024] (.int .u64 ((ofV 1024 : Nat) : Int))) := Lib.hid (of_c (1024) (by decide) (by decide))
    have G5 : Hid (All 66 #[.int .u64 ((absV y : Nat) : Int), .int .u64 ((ofV 1024 : Nat) : Int)] (.bool false)) := by rw [← g1]; exact Lib.hid (rabove_c (absV y) (ofV 1024) (by simp (config := {maxDischargeDepth := 12}) only [WQ, hx, hy]) (by simp (config := {maxDischargeDepth := 12}) only [WQ, hx, hy]))
    have G6 : Hid (All 67 #[.int .u64 ((absV y : Nat) : Int)] (.tuple #[.int .i64 ((toLo (absV y))), .int .i64 ((toHi (absV y))), .int .i64 ((toT (absV y)))])) := Lib.hid (rTo_c (absV y) (by simp (config := {maxDischargeDepth := 12}) only [WQ, hx, hy]))
    have G7 : Hid (All 62 #[.int .i64 1] (.int .u64 ((SF.One : Nat) : Int))) := Lib.hid (of1_c)
    have G8 : Hid (All 69 #[.int .u64 ((y : Nat) : Int)] (.bool false)) := by rw [← s1]; exact Lib.hid (all_of (rminus_c (y) (by simp (config := {maxDischargeDepth := 12}) only [WQ, hx, hy])))
    exact rpow_wp he r1.1 r1.2 (PInv (powN x (toLo (absV y)))) (Lib.hid (rpinv _)) (Lib.hid (fun n r b I h => pinv_end I h)) (pinv_first x hx _ r1.1 r1.2) G0 G1 G2 G3 G4 G5 G6 G7 G8
  have he : (((wholeV 0 y : Nat) : Int) == ((y : Nat) : Int)) = false := by rw [beq_eq_false_iff_ne]; intro h; exact c0 (by omega)
  have k1 : powOk y = false := by rw [k0]; exact decide_eq_false c0
  by_cases p1 : belowV 0 x = true
  · rw [show powV x y = expV (mulV y (lnV x)) by simp [powV, powR, zy, n2, n1, k1, p1]]
    have G0 : Hid (All 61 #[.int .u64 ((y : Nat) : Int)] (.bool false)) := by rw [← zy]; exact Lib.hid (all_of (riszero_c (y) (by simp (config := {maxDischargeDepth := 12}) only [WQ, hx, hy])))
    have G1 : Hid (All 63 #[.int .u64 ((y : Nat) : Int)] (.int .u64 ((absV y : Nat) : Int))) := Lib.hid (all_of (rabs_c (y) (by simp (config := {maxDischargeDepth := 12}) only [WQ, hx, hy])))
    have G2 : Hid (All 64 #[.int .u64 ((y : Nat) : Int)] (.bool false)) := by rw [← n2]; exact Lib.hid (all_of (risnan_c (y) (by simp (config := {maxDischargeDepth := 12}) only [WQ, hx, hy])))
    have G3 : Hid (All 65 #[.int .u64 ((y : Nat) : Int)] (.int .u64 ((wholeV 0 y : Nat) : Int))) := Lib.hid (rTrunc_c (y) (by simp (config := {maxDischargeDepth := 12}) only [WQ, hx, hy]))
    have G4 : Hid (All 66 #[.int .u64 ((x : Nat) : Int), .int .u64 0] (.bool true)) := by rw [← p1]; exact Lib.hid (rabove_c (x) 0 (by simp (config := {maxDischargeDepth := 12}) only [WQ, hx, hy]) (by simp (config := {maxDischargeDepth := 12}) only [WQ, hx, hy]))
    have G5 : Hid (All 14 #[.int .u64 ((x : Nat) : Int)] (.int .u64 ((lnV x : Nat) : Int))) := Lib.hid (rln_c (x) (by simp (config := {maxDischargeDepth := 12}) only [WQ, hx, hy]))
    have G6 : Hid (All 68 #[.int .u64 ((y : Nat) : Int), .int .u64 ((lnV x : Nat) : Int)] (.int .u64 ((mulV y (lnV x) : Nat) : Int))) := Lib.hid (rmul5_c (y) (lnV x) (by simp (config := {maxDischargeDepth := 12}) only [WQ, hx, hy]) (by simp (config := {maxDischargeDepth := 12}) only [WQ, hx, hy]))
    have G7 : Hid (All 12 #[.int .u64 ((mulV y (lnV x) : Nat) : Int)] (.int .u64 ((expV (mulV y (lnV x)) : Nat) : Int))) := Lib.hid (rexp_c (mulV y (lnV x)) (by simp (config := {maxDischargeDepth := 12}) only [WQ, hx, hy]))
    exact rpow_te he G0 G1 G2 G3 G4 G5 G6 G7
  have p1 := Bool.eq_false_iff.2 p1
  by_cases zx : zer x = true
  · by_cases p2 : belowV 0 y = true
    · rw [show powV x y = 0 by simp [powV, powR, zy, n2, n1, k1, p1, zx, p2]]
      have G0 : Hid (All 61 #[.int .u64 ((y : Nat) : Int)] (.bool false)) := by rw [← zy]; exact Lib.hid (all_of (riszero_c (y) (by simp (config := {maxDischargeDepth := 12}) only [WQ, hx, hy])))
      have G1 : Hid (All 63 #[.int .u64 ((y : Nat) : Int)] (.int .u64 ((absV y : Nat) : Int))) := Lib.hid (all_of (rabs_c (y) (by simp (config := {maxDischargeDepth := 12}) only [WQ, hx, hy])))
      have G2 : Hid (All 64 #[.int .u64 ((y : Nat) : Int)] (.bool false)) := by rw [← n2]; exact Lib.hid (all_of (risnan_c (y) (by simp (config := {maxDischargeDepth := 12}) only [WQ, hx, hy])))
      have G3 : Hid (All 65 #[.int .u64 ((y : Nat) : Int)] (.int .u64 ((wholeV 0 y : Nat) : Int))) := Lib.hid (rTrunc_c (y) (by simp (config := {maxDischargeDepth := 12}) only [WQ, hx, hy]))
      have G4 : Hid (All 66 #[.int .u64 ((x : Nat) : Int), .int .u64 0] (.bool false)) := by rw [← p1]; exact Lib.hid (rabove_c (x) 0 (by simp (config := {maxDischargeDepth := 12}) only [WQ, hx, hy]) (by simp (config := {maxDischargeDepth := 12}) only [WQ, hx, hy]))
      have G5 : Hid (All 61 #[.int .u64 ((x : Nat) : Int)] (.bool true)) := by rw [← zx]; exact Lib.hid (all_of (riszero_c (x) (by simp (config := {maxDischargeDepth := 12}) only [WQ, hx, hy])))
      have G6 : Hid (All 66 #[.int .u64 ((y : Nat) : Int), .int .u64 0] (.bool true)) := by rw [← p2]; exact Lib.hid (rabove_c (y) 0 (by simp (config := {maxDischargeDepth := 12}) only [WQ, hx, hy]) (by simp (config := {maxDischargeDepth := 12}) only [WQ, hx, hy]))
      exact rpow_tp he G0 G1 G2 G3 G4 G5 G6
    have p2 := Bool.eq_false_iff.2 p2
    rw [show powV x y = Inf by simp [powV, powR, zy, n2, n1, k1, p1, zx, p2]]
    have G0 : Hid (All 61 #[.int .u64 ((y : Nat) : Int)] (.bool false)) := by rw [← zy]; exact Lib.hid (all_of (riszero_c (y) (by simp (config := {maxDischargeDepth := 12}) only [WQ, hx, hy])))
    have G1 : Hid (All 63 #[.int .u64 ((y : Nat) : Int)] (.int .u64 ((absV y : Nat) : Int))) := Lib.hid (all_of (rabs_c (y) (by simp (config := {maxDischargeDepth := 12}) only [WQ, hx, hy])))
    have G2 : Hid (All 64 #[.int .u64 ((y : Nat) : Int)] (.bool false)) := by rw [← n2]; exact Lib.hid (all_of (risnan_c (y) (by simp (config := {maxDischargeDepth := 12}) only [WQ, hx, hy])))
    have G3 : Hid (All 65 #[.int .u64 ((y : Nat) : Int)] (.int .u64 ((wholeV 0 y : Nat) : Int))) := Lib.hid (rTrunc_c (y) (by simp (config := {maxDischargeDepth := 12}) only [WQ, hx, hy]))
    have G4 : Hid (All 66 #[.int .u64 ((x : Nat) : Int), .int .u64 0] (.bool false)) := by rw [← p1]; exact Lib.hid (rabove_c (x) 0 (by simp (config := {maxDischargeDepth := 12}) only [WQ, hx, hy]) (by simp (config := {maxDischargeDepth := 12}) only [WQ, hx, hy]))
    have G5 : Hid (All 61 #[.int .u64 ((x : Nat) : Int)] (.bool true)) := by rw [← zx]; exact Lib.hid (all_of (riszero_c (x) (by simp (config := {maxDischargeDepth := 12}) only [WQ, hx, hy])))
    have G6 : Hid (All 66 #[.int .u64 ((y : Nat) : Int), .int .u64 0] (.bool false)) := by rw [← p2]; exact Lib.hid (rabove_c (y) 0 (by simp (config := {maxDischargeDepth := 12}) only [WQ, hx, hy]) (by simp (config := {maxDischargeDepth := 12}) only [WQ, hx, hy]))
    exact rpow_ti he G0 G1 G2 G3 G4 G5 G6
  have zx := Bool.eq_false_iff.2 zx
  rw [show powV x y = NaN by simp [powV, powR, zy, n2, n1, k1, p1, zx]]
  have G0 : Hid (All 61 #[.int .u64 ((y : Nat) : Int)] (.bool false)) := by rw [← zy]; exact Lib.hid (all_of (riszero_c (y) (by simp (config := {maxDischargeDepth := 12}) only [WQ, hx, hy])))
  have G1 : Hid (All 63 #[.int .u64 ((y : Nat) : Int)] (.int .u64 ((absV y : Nat) : Int))) := Lib.hid (all_of (rabs_c (y) (by simp (config := {maxDischargeDepth := 12}) only [WQ, hx, hy])))
  have G2 : Hid (All 64 #[.int .u64 ((y : Nat) : Int)] (.bool false)) := by rw [← n2]; exact Lib.hid (all_of (risnan_c (y) (by simp (config := {maxDischargeDepth := 12}) only [WQ, hx, hy])))
  have G3 : Hid (All 65 #[.int .u64 ((y : Nat) : Int)] (.int .u64 ((wholeV 0 y : Nat) : Int))) := Lib.hid (rTrunc_c (y) (by simp (config := {maxDischargeDepth := 12}) only [WQ, hx, hy]))
  have G4 : Hid (All 66 #[.int .u64 ((x : Nat) : Int), .int .u64 0] (.bool false)) := by rw [← p1]; exact Lib.hid (rabove_c (x) 0 (by simp (config := {maxDischargeDepth := 12}) only [WQ, hx, hy]) (by simp (config := {maxDischargeDepth := 12}) only [WQ, hx, hy]))
  have G5 : Hid (All 61 #[.int .u64 ((x : Nat) : Int)] (.bool false)) := by rw [← zx]; exact Lib.hid (all_of (riszero_c (x) (by simp (config := {maxDischargeDepth := 12}) only [WQ, hx, hy])))
  exact rpow_tm he G0 G1 G2 G3 G4 G5
theorem rpow_c (x y : Nat) (hx : W x) (hy : W y) : All 9 #[.int .u64 ((x : Nat) : Int), .int .u64 ((y : Nat) : Int)] (.int .u64 ((powV x y : Nat) : Int)) := by
  by_cases zy : zer y = true
  · rw [show powV x y = SF.One by simp [powV, powR, zy]]
    have G0 : Hid (All 61 #[.int .u64 ((y : Nat) : Int)] (.bool true)) := by rw [← zy]; exact Lib.hid (all_of (riszero_c (y) (by simp (config := {maxDischargeDepth := 12}) only [WQ, hx, hy])))
    have G1 : Hid (All 62 #[.int .i64 1] (.int .u64 ((SF.One : Nat) : Int))) := Lib.hid (of1_c)
    exact rpow_z G0 G1
  have zy := Bool.eq_false_iff.2 zy
  by_cases n2 : nan y = true
  · rw [show powV x y = NaN by simp [powV, powR, zy, n2]]
    exact rpow_y x y hx hy zy n2
  have n2 := Bool.eq_false_iff.2 n2
  by_cases n1 : nan x = true
  · rw [show powV x y = NaN by simp [powV, powR, zy, n1]]
    exact rpow_x x y hx hy zy n2 n1
  have n1 := Bool.eq_false_iff.2 n1
  exact rpow_f x y hx hy zy n2 n1
