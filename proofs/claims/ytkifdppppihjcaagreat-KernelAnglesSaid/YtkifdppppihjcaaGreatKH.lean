/- The reference's kernel: what each function computes. -/
import Derived.Test.YtkifdppppihjcaaGreatKG
import Derived.Test.YtkifdppppihjcaaGreatKR
import Derived.Test.YtkifdppppihjcaaGreatKQ
namespace Go.Proofs.YtkifdppppihjcaaGreat
set_option linter.unusedVariables false
set_option linter.unusedSimpArgs false
open Go.RowKit Go.Shelf Go.ChangeShapes Go.WideShapes SF

theorem radd5_c (a b : Nat) (ha : W a) (hb : W b) : All 80 #[.int .u64 ((a : Nat) : Int), .int .u64 ((b : Nat) : Int)] (.int .u64 ((addV a b : Nat) : Int)) := r5add_s (Lib.hid (rAdd_c a b ha hb))
theorem rsub5_c (a b : Nat) (ha : W a) (hb : W b) : All 79 #[.int .u64 ((a : Nat) : Int), .int .u64 ((b : Nat) : Int)] (.int .u64 ((subV a b : Nat) : Int)) := r5sub_s (Lib.hid (rSub_c a b ha hb))
theorem rmul5_c (a b : Nat) (ha : W a) (hb : W b) : All 68 #[.int .u64 ((a : Nat) : Int), .int .u64 ((b : Nat) : Int)] (.int .u64 ((mulV a b : Nat) : Int)) := r5mul_s (Lib.hid (rMul_c a b ha hb))
theorem rdiv5_c (a b : Nat) (ha : W a) (hb : W b) : All 70 #[.int .u64 ((a : Nat) : Int), .int .u64 ((b : Nat) : Int)] (.int .u64 ((divV a b : Nat) : Int)) := r5div_s (Lib.hid (rDiv_c a b ha hb))
theorem of_c (v : Int) (h1 : -9223372036854775808 ≤ v) (h2 : v ≤ 9223372036854775807) : All 62 #[.int .i64 v] (.int .u64 ((ofV v : Nat) : Int)) := by
  unfold ofV
  by_cases h : v < 0
  · rw [if_pos h]; exact of_n h (Lib.hid (rFrom_c v (-1) ⟨h1, h2⟩ (by unfold Cell64; decide)))
  · rw [if_neg h]; exact of_p h (Lib.hid (rFrom_c v 0 ⟨h1, h2⟩ (by unfold Cell64; decide)))
theorem ok_comm (a b : Nat) : okV a b = okV b a := by unfold okV; rw [Bool.or_comm]
theorem cmp_anti (a b : Nat) : cmpV a b = -cmpV b a := by
  unfold cmpV cmpI
  rw [Bool.or_comm (nan a)]
  split
  · rfl
  · repeat' split
    all_goals omega
theorem rabove_c (a b : Nat) (ha : W a) (hb : W b) : All 66 #[.int .u64 ((a : Nat) : Int), .int .u64 ((b : Nat) : Int)] (.bool (belowV b a)) := by
  have e : belowV b a = (okV a b && decide (0 < cmpV a b)) := by
    unfold belowV; rw [ok_comm b a, cmp_anti b a]; congr 1; rw [decide_eq_decide]; omega
  rw [e]
  by_cases o1 : okV a b = true
  · have h := all_of (rcmp_c a b ha hb); rw [o1] at h ⊢; exact rabove_1 (Lib.hid h)
  · have o1 := Bool.eq_false_iff.2 o1
    have h := all_of (rcmp_c a b ha hb); rw [o1] at h ⊢; exact rabove_0 (Lib.hid h)
theorem rbelow_c (a b : Nat) (ha : W a) (hb : W b) : All 77 #[.int .u64 ((a : Nat) : Int), .int .u64 ((b : Nat) : Int)] (.bool (belowV a b)) := rbelow_s (Lib.hid (rabove_c b a hb ha))
theorem ris_c (a b : Nat) (ha : W a) (hb : W b) : All 100 #[.int .u64 ((a : Nat) : Int), .int .u64 ((b : Nat) : Int)] (.bool (okV a b && (cmpV a b == 0))) := by
  by_cases o1 : okV a b = true
  · have h := all_of (rcmp_c a b ha hb); rw [o1] at h ⊢; exact ris_1 (Lib.hid h)
  · have o1 := Bool.eq_false_iff.2 o1
    have h := all_of (rcmp_c a b ha hb); rw [o1] at h ⊢; exact ris_0 (Lib.hid h)
theorem like_c (t x : Nat) (ht : W t) (hx : W x) : All 96 #[.int .u64 ((t : Nat) : Int), .int .u64 ((x : Nat) : Int)] (.int .u64 ((signedV t x : Nat) : Int)) := by
  unfold signedV
  by_cases h : ng x = true
  · rw [if_pos h]; have m := all_of (rminus_c x hx); rw [h] at m; exact like_t (Lib.hid m) (Lib.hid (all_of (rneg_c t ht)))
  · rw [if_neg h]; have m := all_of (rminus_c x hx); rw [Bool.eq_false_iff.2 h] at m; exact like_f (Lib.hid m)
theorem of1_c : All 62 #[.int .i64 1] (.int .u64 ((SF.One : Nat) : Int)) := by
  have := of_c 1 (by decide) (by decide); rw [of_1] at this; exact this
theorem ratan_c (x : Nat) (hx : W x) : All 42 #[.int .u64 ((x : Nat) : Int)] (.int .u64 ((atanV x : Nat) : Int)) := by
  by_cases n1 : nan x = true
  · rw [show atanV x = NaN by simp [atanV, n1]]
    have G0 : Hid (All 64 #[.int .u64 ((x : Nat) : Int)] (.bool true)) := by rw [← n1]; exact Lib.hid (all_of (risnan_c (x) (by simp (config := {maxDischargeDepth := 12}) only [WQ, hx])))
    exact ratan_n G0
  have n1 := Bool.eq_false_iff.2 n1
  by_cases z1 : zer x = true
  · rw [show atanV x = x by simp [atanV, n1, z1]]
    have G0 : Hid (All 64 #[.int .u64 ((x : Nat) : Int)] (.bool false)) := by rw [← n1]; exact Lib.hid (all_of (risnan_c (x) (by simp (config := {maxDischargeDepth := 12}) only [WQ, hx])))
    have G1 : Hid (All 61 #[.int .u64 ((x : Nat) : Int)] (.bool true)) := by rw [← z1]; exact Lib.hid (all_of (riszero_c (x) (by simp (config := {maxDischargeDepth := 12}) only [WQ, hx])))
    exact ratan_z G0 G1
  have z1 := Bool.eq_false_iff.2 z1
  by_cases i1 : inf x = true
  · rw [show atanV x = signedV HalfPi x by simp [atanV, n1, z1, i1]]
    have G0 : Hid (All 64 #[.int .u64 ((x : Nat) : Int)] (.bool false)) := by rw [← n1]; exact Lib.hid (all_of (risnan_c (x) (by simp (config := {maxDischargeDepth := 12}) only [WQ, hx])))
    have G1 : Hid (All 61 #[.int .u64 ((x : Nat) : Int)] (.bool false)) := by rw [← z1]; exact Lib.hid (all_of (riszero_c (x) (by simp (config := {maxDischargeDepth := 12}) only [WQ, hx])))
    have G2 : Hid (All 99 #[.int .u64 ((x : Nat) : Int)] (.bool true)) := by rw [← i1]; exact Lib.hid (all_of (risinf_c (x) (by simp (config := {maxDischargeDepth := 12}) only [WQ, hx])))
    have G3 : Hid (All 96 #[.int .u64 4609753056924675352, .int .u64 ((x : Nat) : Int)] (.int .u64 ((signedV HalfPi x : Nat) : Int))) := Lib.hid (like_c 4609753056924675352 (x) (by simp (config := {maxDischargeDepth := 12}) only [WQ, hx]) (by simp (config := {maxDischargeDepth := 12}) only [WQ, hx]))
    exact ratan_i G0 G1 G2 G3
  have i1 := Bool.eq_false_iff.2 i1
  by_cases g1 : belowV SF.One (absV x) = true
  · rw [show atanV x = atanG x by simp [atanV, n1, z1, i1, g1]]
    have G0 : Hid (All 64 #[.int .u64 ((x : Nat) : Int)] (.bool false)) := by rw [← n1]; exact Lib.hid (all_of (risnan_c (x) (by simp (config := {maxDischargeDepth := 12}) only [WQ, hx])))
    have G1 : Hid (All 61 #[.int .u64 ((x : Nat) : Int)] (.bool false)) := by rw [← z1]; exact Lib.hid (all_of (riszero_c (x) (by simp (config := {maxDischargeDepth := 12}) only [WQ, hx])))
    have G2 : Hid (All 99 #[.int .u64 ((x : Nat) : Int)] (.bool false)) := by rw [← i1]; exact Lib.hid (all_of (risinf_c (x) (by simp (config := {maxDischargeDepth := 12}) only [WQ, hx])))
    have G3 : Hid (All 63 #[.int .u64 ((x : Nat) : Int)] (.int .u64 ((absV x : Nat) : Int))) := Lib.hid (all_of (rabs_c (x) (by simp (config := {maxDischargeDepth := 12}) only [WQ, hx])))
    have G4 : Hid (All 62 #[.int .i64 1] (.int .u64 ((SF.One : Nat) : Int))) := Lib.hid (of1_c)
    have G5 : Hid (All 66 #[.int .u64 ((absV x : Nat) : Int), .int .u64 ((SF.One : Nat) : Int)] (.bool true)) := by rw [← g1]; exact Lib.hid (rabove_c (absV x) (SF.One) (by simp (config := {maxDischargeDepth := 12}) only [WQ, hx]) (by simp (config := {maxDischargeDepth := 12}) only [WQ, hx]))
    have G6 : Hid (All 70 #[.int .u64 ((SF.One : Nat) : Int), .int .u64 ((absV x : Nat) : Int)] (.int .u64 ((divV SF.One (absV x) : Nat) : Int))) := Lib.hid (rdiv5_c (SF.One) (absV x) (by simp (config := {maxDischargeDepth := 12}) only [WQ, hx]) (by simp (config := {maxDischargeDepth := 12}) only [WQ, hx]))
    have G7 : Hid (All 68 #[.int .u64 ((atB (atB (divV SF.One (absV x))) : Nat) : Int), .int .u64 ((atB (atB (divV SF.One (absV x))) : Nat) : Int)] (.int .u64 ((mulV (atB (atB (divV SF.One (absV x)))) (atB (atB (divV SF.One (absV x)))) : Nat) : Int))) := Lib.hid (rmul5_c (atB (atB (divV SF.One (absV x)))) (atB (atB (divV SF.One (absV x)))) (by simp (config := {maxDischargeDepth := 12}) only [WQ, hx]) (by simp (config := {maxDischargeDepth := 12}) only [WQ, hx]))
    have G8 : Hid (All 62 #[.int .i64 23] (.int .u64 ((ofV 23 : Nat) : Int))) := Lib.hid (of_c (23) (by decide) (by decide))
    have G9 : Hid (All 70 #[.int .u64 ((SF.One : Nat) : Int), .int .u64 ((ofV 23 : Nat) : Int)] (.int .u64 ((invV 23 : Nat) : Int))) := Lib.hid (rdiv5_c (SF.One) (ofV 23) (by simp (config := {maxDischargeDepth := 12}) only [WQ, hx]) (by simp (config := {maxDischargeDepth := 12}) only [WQ, hx]))
    have G10 : Hid (All 62 #[.int .i64 4] (.int .u64 ((ofV 4 : Nat) : Int))) := Lib.hid (of_c (4) (by decide) (by decide))
    have G11 : Hid (All 68 #[.int .u64 ((atB (atB (divV SF.One (absV x))) : Nat) : Int), .int .u64 ((atP (mulV (atB (atB (divV SF.One (absV x)))) (atB (atB (divV SF.One (absV x))))) : Nat) : Int)] (.int .u64 ((mulV (atB (atB (divV SF.One (absV x)))) (atP (mulV (atB (atB (divV SF.One (absV x)))) (atB (atB (divV SF.One (absV x)))))) : Nat) : Int))) := Lib.hid (rmul5_c (atB (atB (divV SF.One (absV x)))) (atP (mulV (atB (atB (divV SF.One (absV x)))) (atB (atB (divV SF.One (absV x)))))) (by simp (config := {maxDischargeDepth := 12}) only [WQ, hx]) (by simp (config := {maxDischargeDepth := 12}) only [WQ, hx]))
    have G12 : Hid (All 68 #[.int .u64 ((ofV 4 : Nat) : Int), .int .u64 ((mulV (atB (atB (divV SF.One (absV x)))) (atP (mulV (atB (atB (divV SF.One (absV x)))) (atB (atB (divV SF.One (absV x)))))) : Nat) : Int)] (.int .u64 ((atT (atB (atB (divV SF.One (absV x)))) : Nat) : Int))) := Lib.hid (rmul5_c (ofV 4) (mulV (atB (atB (divV SF.One (absV x)))) (atP (mulV (atB (atB (divV SF.One (absV x)))) (atB (atB (divV SF.One (absV x))))))) (by simp (config := {maxDischargeDepth := 12}) only [WQ, hx]) (by simp (config := {maxDischargeDepth := 12}) only [WQ, hx]))
    have G13 : Hid (All 79 #[.int .u64 4609753056924675352, .int .u64 ((atT (atB (atB (divV SF.One (absV x)))) : Nat) : Int)] (.int .u64 ((subV HalfPi (atT (atB (atB (divV SF.One (absV x))))) : Nat) : Int))) := Lib.hid (rsub5_c 4609753056924675352 (atT (atB (atB (divV SF.One (absV x))))) (by simp (config := {maxDischargeDepth := 12}) only [WQ, hx]) (by simp (config := {maxDischargeDepth := 12}) only [WQ, hx]))
    have G14 : Hid (All 96 #[.int .u64 ((subV HalfPi (atT (atB (atB (divV SF.One (absV x))))) : Nat) : Int), .int .u64 ((x : Nat) : Int)] (.int .u64 ((atanG x : Nat) : Int))) := Lib.hid (like_c (subV HalfPi (atT (atB (atB (divV SF.One (absV x)))))) (x) (by simp (config := {maxDischargeDepth := 12}) only [WQ, hx]) (by simp (config := {maxDischargeDepth := 12}) only [WQ, hx]))
    exact ratan_g (B := (fun k : Int => if k = 0 then ((divV SF.One (absV x) : Nat) : Int) else if k = 1 then ((atB (divV SF.One (absV x)) : Nat) : Int) else ((atB (atB (divV SF.One (absV x))) : Nat) : Int))) (P := (fun k : Int => ((upV (atStep (mulV (atB (atB (divV SF.One (absV x)))) (atB (atB (divV SF.One (absV x)))))) 10 (invV 23) ((10 : Int) - k).toNat : Nat) : Int))) G0 G1 G2 G3 G4 G5 G6 G7 G8 G9 G10 G11 G12 G13 G14
      (Lib.hid (fun k k1 k2 => by
        have e : k = 0 ∨ k = 1 := by omega
        rcases e with rfl | rfl
        · exact ⟨_, _, _, _, Lib.hid (rmul5_c (divV SF.One (absV x)) (divV SF.One (absV x)) (by simp (config := {maxDischargeDepth := 12}) only [WQ, hx]) (by simp (config := {maxDischargeDepth := 12}) only [WQ, hx])), Lib.hid (radd5_c SF.One (mulV (divV SF.One (absV x)) (divV SF.One (absV x))) (by simp (config := {maxDischargeDepth := 12}) only [WQ, hx]) (by simp (config := {maxDischargeDepth := 12}) only [WQ, hx])), Lib.hid (rSqrt_c (addV SF.One (mulV (divV SF.One (absV x)) (divV SF.One (absV x)))) (by simp (config := {maxDischargeDepth := 12}) only [WQ, hx])), Lib.hid (radd5_c SF.One (sqrtV (addV SF.One (mulV (divV SF.One (absV x)) (divV SF.One (absV x))))) (by simp (config := {maxDischargeDepth := 12}) only [WQ, hx]) (by simp (config := {maxDischargeDepth := 12}) only [WQ, hx])), Lib.hid (rdiv5_c (divV SF.One (absV x)) (addV SF.One (sqrtV (addV SF.One (mulV (divV SF.One (absV x)) (divV SF.One (absV x)))))) (by simp (config := {maxDischargeDepth := 12}) only [WQ, hx]) (by simp (config := {maxDischargeDepth := 12}) only [WQ, hx]))⟩
        · exact ⟨_, _, _, _, Lib.hid (rmul5_c (atB (divV SF.One (absV x))) (atB (divV SF.One (absV x))) (by simp (config := {maxDischargeDepth := 12}) only [WQ, hx]) (by simp (config := {maxDischargeDepth := 12}) only [WQ, hx])), Lib.hid (radd5_c SF.One (mulV (atB (divV SF.One (absV x))) (atB (divV SF.One (absV x)))) (by simp (config := {maxDischargeDepth := 12}) only [WQ, hx]) (by simp (config := {maxDischargeDepth := 12}) only [WQ, hx])), Lib.hid (rSqrt_c (addV SF.One (mulV (atB (divV SF.One (absV x))) (atB (divV SF.One (absV x))))) (by simp (config := {maxDischargeDepth := 12}) only [WQ, hx])), Lib.hid (radd5_c SF.One (sqrtV (addV SF.One (mulV (atB (divV SF.One (absV x))) (atB (divV SF.One (absV x)))))) (by simp (config := {maxDischargeDepth := 12}) only [WQ, hx]) (by simp (config := {maxDischargeDepth := 12}) only [WQ, hx])), Lib.hid (rdiv5_c (atB (divV SF.One (absV x))) (addV SF.One (sqrtV (addV SF.One (mulV (atB (divV SF.One (absV x))) (atB (divV SF.One (absV x))))))) (by simp (config := {maxDischargeDepth := 12}) only [WQ, hx]) (by simp (config := {maxDischargeDepth := 12}) only [WQ, hx]))⟩)) rfl rfl
      (Lib.hid (fun k k1 k2 => by
        obtain ⟨q, hq⟩ : ∃ q, upV (atStep (mulV (atB (atB (divV SF.One (absV x)))) (atB (atB (divV SF.One (absV x)))))) 10 (invV 23) (10 - k).toNat = q := ⟨_, rfl⟩
        have wq : W q := by rw [← hq]; exact W_upV W_invV (fun _ _ _ => W_atStep) _
        refine ⟨((ofV (2 * k + 1) : Nat) : Int), ((invV (2 * k + 1) : Nat) : Int), ((mulV (mulV (atB (atB (divV SF.One (absV x)))) (atB (atB (divV SF.One (absV x))))) q : Nat) : Int), Lib.hid (of_c (2 * k + 1) (by omega) (by omega)), Lib.hid (rdiv5_c SF.One (ofV (2 * k + 1)) (by simp (config := {maxDischargeDepth := 12}) only [WQ, hx]) (by simp (config := {maxDischargeDepth := 12}) only [WQ, hx])), ?_, ?_⟩
        · rw [hq]; exact Lib.hid (rmul5_c (mulV (atB (atB (divV SF.One (absV x)))) (atB (atB (divV SF.One (absV x))))) q (W_mulV _ _) wq)
        · rw [upV_next _ _ _ k2, hq]; exact Lib.hid (rsub5_c (invV (2 * k + 1)) (mulV (mulV (atB (atB (divV SF.One (absV x)))) (atB (atB (divV SF.One (absV x))))) q) W_invV (W_mulV _ _))))
      (by show ((upV _ _ _ ((10 : Int) - 10).toNat : Nat) : Int) = _; rw [Int.sub_self]; rfl) (by show ((upV _ _ _ ((10 : Int) - (0 - 1)).toNat : Nat) : Int) = _; rw [show ((10 : Int) - (0 - 1)).toNat = 10 + 1 by decide]; rfl)
  have g1 := Bool.eq_false_iff.2 g1
  rw [show atanV x = atanS x by simp [atanV, n1, z1, i1, g1]]
  have G0 : Hid (All 64 #[.int .u64 ((x : Nat) : Int)] (.bool false)) := by rw [← n1]; exact Lib.hid (all_of (risnan_c (x) (by simp (config := {maxDischargeDepth := 12}) only [WQ, hx])))
  have G1 : Hid (All 61 #[.int .u64 ((x : Nat) : Int)] (.bool false)) := by rw [← z1]; exact Lib.hid (all_of (riszero_c (x) (by simp (config := {maxDischargeDepth := 12}) only [WQ, hx])))
  have G2 : Hid (All 99 #[.int .u64 ((x : Nat) : Int)] (.bool false)) := by rw [← i1]; exact Lib.hid (all_of (risinf_c (x) (by simp (config := {maxDischargeDepth := 12}) only [WQ, hx])))
  have G3 : Hid (All 63 #[.int .u64 ((x : Nat) : Int)] (.int .u64 ((absV x : Nat) : Int))) := Lib.hid (all_of (rabs_c (x) (by simp (config := {maxDischargeDepth := 12}) only [WQ, hx])))
  have G4 : Hid (All 62 #[.int .i64 1] (.int .u64 ((SF.One : Nat) : Int))) := Lib.hid (of1_c)
  have G5 : Hid (All 66 #[.int .u64 ((absV x : Nat) : Int), .int .u64 ((SF.One : Nat) : Int)] (.bool false)) := by rw [← g1]; exact Lib.hid (rabove_c (absV x) (SF.One) (by simp (config := {maxDischargeDepth := 12}) only [WQ, hx]) (by simp (config := {maxDischargeDepth := 12}) only [WQ, hx]))
  have G6 : Hid (All 68 #[.int .u64 ((atB (atB (absV x)) : Nat) : Int), .int .u64 ((atB (atB (absV x)) : Nat) : Int)] (.int .u64 ((mulV (atB (atB (absV x))) (atB (atB (absV x))) : Nat) : Int))) := Lib.hid (rmul5_c (atB (atB (absV x))) (atB (atB (absV x))) (by simp (config := {maxDischargeDepth := 12}) only [WQ, hx]) (by simp (config := {maxDischargeDepth := 12}) only [WQ, hx]))
  have G7 : Hid (All 62 #[.int .i64 23] (.int .u64 ((ofV 23 : Nat) : Int))) := Lib.hid (of_c (23) (by decide) (by decide))
  have G8 : Hid (All 70 #[.int .u64 ((SF.One : Nat) : Int), .int .u64 ((ofV 23 : Nat) : Int)] (.int .u64 ((invV 23 : Nat) : Int))) := Lib.hid (rdiv5_c (SF.One) (ofV 23) (by simp (config := {maxDischargeDepth := 12}) only [WQ, hx]) (by simp (config := {maxDischargeDepth := 12}) only [WQ, hx]))
  have G9 : Hid (All 62 #[.int .i64 4] (.int .u64 ((ofV 4 : Nat) : Int))) := Lib.hid (of_c (4) (by decide) (by decide))
  have G10 : Hid (All 68 #[.int .u64 ((atB (atB (absV x)) : Nat) : Int), .int .u64 ((atP (mulV (atB (atB (absV x))) (atB (atB (absV x)))) : Nat) : Int)] (.int .u64 ((mulV (atB (atB (absV x))) (atP (mulV (atB (atB (absV x))) (atB (atB (absV x))))) : Nat) : Int))) := Lib.hid (rmul5_c (atB (atB (absV x))) (atP (mulV (atB (atB (absV x))) (atB (atB (absV x))))) (by simp (config := {maxDischargeDepth := 12}) only [WQ, hx]) (by simp (config := {maxDischargeDepth := 12}) only [WQ, hx]))
  have G11 : Hid (All 68 #[.int .u64 ((ofV 4 : Nat) : Int), .int .u64 ((mulV (atB (atB (absV x))) (atP (mulV (atB (atB (absV x))) (atB (atB (absV x))))) : Nat) : Int)] (.int .u64 ((atT (atB (atB (absV x))) : Nat) : Int))) := Lib.hid (rmul5_c (ofV 4) (mulV (atB (atB (absV x))) (atP (mulV (atB (atB (absV x))) (atB (atB (absV x)))))) (by simp (config := {maxDischargeDepth := 12}) only [WQ, hx]) (by simp (config := {maxDischargeDepth := 12}) only [WQ, hx]))
  have G12 : Hid (All 96 #[.int .u64 ((atT (atB (atB (absV x))) : Nat) : Int), .int .u64 ((x : Nat) : Int)] (.int .u64 ((atanS x : Nat) : Int))) := Lib.hid (like_c (atT (atB (atB (absV x)))) (x) (by simp (config := {maxDischargeDepth := 12}) only [WQ, hx]) (by simp (config := {maxDischargeDepth := 12}) only [WQ, hx]))
  exact ratan_s (B := (fun k : Int => if k = 0 then ((absV x : Nat) : Int) else if k = 1 then ((atB (absV x) : Nat) : Int) else ((atB (atB (absV x)) : Nat) : Int))) (P := (fun k : Int => ((upV (atStep (mulV (atB (atB (absV x))) (atB (atB (absV x))))) 10 (invV 23) ((10 : Int) - k).toNat : Nat) : Int))) G0 G1 G2 G3 G4 G5 G6 G7 G8 G9 G10 G11 G12
    (Lib.hid (fun k k1 k2 => by
      have e : k = 0 ∨ k = 1 := by omega
      rcases e with rfl | rfl
      · exact ⟨_, _, _, _, Lib.hid (rmul5_c (absV x) (absV x) (by simp (config := {maxDischargeDepth := 12}) only [WQ, hx]) (by simp (config := {maxDischargeDepth := 12}) only [WQ, hx])), Lib.hid (radd5_c SF.One (mulV (absV x) (absV x)) (by simp (config := {maxDischargeDepth := 12}) only [WQ, hx]) (by simp (config := {maxDischargeDepth := 12}) only [WQ, hx])), Lib.hid (rSqrt_c (addV SF.One (mulV (absV x) (absV x))) (by simp (config := {maxDischargeDepth := 12}) only [WQ, hx])), Lib.hid (radd5_c SF.One (sqrtV (addV SF.One (mulV (absV x) (absV x)))) (by simp (config := {maxDischargeDepth := 12}) only [WQ, hx]) (by simp (config := {maxDischargeDepth := 12}) only [WQ, hx])), Lib.hid (rdiv5_c (absV x) (addV SF.One (sqrtV (addV SF.One (mulV (absV x) (absV x))))) (by simp (config := {maxDischargeDepth := 12}) only [WQ, hx]) (by simp (config := {maxDischargeDepth := 12}) only [WQ, hx]))⟩
      · exact ⟨_, _, _, _, Lib.hid (rmul5_c (atB (absV x)) (atB (absV x)) (by simp (config := {maxDischargeDepth := 12}) only [WQ, hx]) (by simp (config := {maxDischargeDepth := 12}) only [WQ, hx])), Lib.hid (radd5_c SF.One (mulV (atB (absV x)) (atB (absV x))) (by simp (config := {maxDischargeDepth := 12}) only [WQ, hx]) (by simp (config := {maxDischargeDepth := 12}) only [WQ, hx])), Lib.hid (rSqrt_c (addV SF.One (mulV (atB (absV x)) (atB (absV x)))) (by simp (config := {maxDischargeDepth := 12}) only [WQ, hx])), Lib.hid (radd5_c SF.One (sqrtV (addV SF.One (mulV (atB (absV x)) (atB (absV x))))) (by simp (config := {maxDischargeDepth := 12}) only [WQ, hx]) (by simp (config := {maxDischargeDepth := 12}) only [WQ, hx])), Lib.hid (rdiv5_c (atB (absV x)) (addV SF.One (sqrtV (addV SF.One (mulV (atB (absV x)) (atB (absV x)))))) (by simp (config := {maxDischargeDepth := 12}) only [WQ, hx]) (by simp (config := {maxDischargeDepth := 12}) only [WQ, hx]))⟩)) rfl rfl
    (Lib.hid (fun k k1 k2 => by
      obtain ⟨q, hq⟩ : ∃ q, upV (atStep (mulV (atB (atB (absV x))) (atB (atB (absV x))))) 10 (invV 23) (10 - k).toNat = q := ⟨_, rfl⟩
      have wq : W q := by rw [← hq]; exact W_upV W_invV (fun _ _ _ => W_atStep) _
      refine ⟨((ofV (2 * k + 1) : Nat) : Int), ((invV (2 * k + 1) : Nat) : Int), ((mulV (mulV (atB (atB (absV x))) (atB (atB (absV x)))) q : Nat) : Int), Lib.hid (of_c (2 * k + 1) (by omega) (by omega)), Lib.hid (rdiv5_c SF.One (ofV (2 * k + 1)) (by simp (config := {maxDischargeDepth := 12}) only [WQ, hx]) (by simp (config := {maxDischargeDepth := 12}) only [WQ, hx])), ?_, ?_⟩
      · rw [hq]; exact Lib.hid (rmul5_c (mulV (atB (atB (absV x))) (atB (atB (absV x)))) q (W_mulV _ _) wq)
      · rw [upV_next _ _ _ k2, hq]; exact Lib.hid (rsub5_c (invV (2 * k + 1)) (mulV (mulV (atB (atB (absV x))) (atB (atB (absV x)))) q) W_invV (W_mulV _ _))))
    (by show ((upV _ _ _ ((10 : Int) - 10).toNat : Nat) : Int) = _; rw [Int.sub_self]; rfl) (by show ((upV _ _ _ ((10 : Int) - (0 - 1)).toNat : Nat) : Int) = _; rw [show ((10 : Int) - (0 - 1)).toNat = 10 + 1 by decide]; rfl)
theorem rasin_c (x : Nat) (hx : W x) : All 44 #[.int .u64 ((x : Nat) : Int)] (.int .u64 ((asinV x : Nat) : Int)) := by
  by_cases n1 : nan x = true
  · rw [show asinV x = NaN by simp [asinV, n1]]
    have G0 : Hid (All 63 #[.int .u64 ((x : Nat) : Int)] (.int .u64 ((absV x : Nat) : Int))) := Lib.hid (all_of (rabs_c (x) (by simp (config := {maxDischargeDepth := 12}) only [WQ, hx])))
    have G1 : Hid (All 64 #[.int .u64 ((x : Nat) : Int)] (.bool true)) := by rw [← n1]; exact Lib.hid (all_of (risnan_c (x) (by simp (config := {maxDischargeDepth := 12}) only [WQ, hx])))
    exact rasin_n G0 G1
  have n1 := Bool.eq_false_iff.2 n1
  by_cases g1 : belowV SF.One (absV x) = true
  · rw [show asinV x = NaN by simp [asinV, n1, g1]]
    have G0 : Hid (All 63 #[.int .u64 ((x : Nat) : Int)] (.int .u64 ((absV x : Nat) : Int))) := Lib.hid (all_of (rabs_c (x) (by simp (config := {maxDischargeDepth := 12}) only [WQ, hx])))
    have G1 : Hid (All 64 #[.int .u64 ((x : Nat) : Int)] (.bool false)) := by rw [← n1]; exact Lib.hid (all_of (risnan_c (x) (by simp (config := {maxDischargeDepth := 12}) only [WQ, hx])))
    have G2 : Hid (All 62 #[.int .i64 1] (.int .u64 ((SF.One : Nat) : Int))) := Lib.hid (of1_c)
    have G3 : Hid (All 66 #[.int .u64 ((absV x : Nat) : Int), .int .u64 ((SF.One : Nat) : Int)] (.bool true)) := by rw [← g1]; exact Lib.hid (rabove_c (absV x) (SF.One) (by simp (config := {maxDischargeDepth := 12}) only [WQ, hx]) (by simp (config := {maxDischargeDepth := 12}) only [WQ, hx]))
    exact rasin_a G0 G1 G2 G3
  have g1 := Bool.eq_false_iff.2 g1
  have e0 := is_one n1
  rw [of_1] at e0
  by_cases e1 : absV x = SF.One
  · rw [decide_eq_true e1] at e0
    rw [show asinV x = signedV HalfPi x by unfold asinV; rw [if_neg (by rw [n1]; decide), if_neg (by rw [g1]; decide), if_pos e1]]
    have G0 : Hid (All 63 #[.int .u64 ((x : Nat) : Int)] (.int .u64 ((absV x : Nat) : Int))) := Lib.hid (all_of (rabs_c (x) (by simp (config := {maxDischargeDepth := 12}) only [WQ, hx])))
    have G1 : Hid (All 64 #[.int .u64 ((x : Nat) : Int)] (.bool false)) := by rw [← n1]; exact Lib.hid (all_of (risnan_c (x) (by simp (config := {maxDischargeDepth := 12}) only [WQ, hx])))
    have G2 : Hid (All 62 #[.int .i64 1] (.int .u64 ((SF.One : Nat) : Int))) := Lib.hid (of1_c)
    have G3 : Hid (All 66 #[.int .u64 ((absV x : Nat) : Int), .int .u64 ((SF.One : Nat) : Int)] (.bool false)) := by rw [← g1]; exact Lib.hid (rabove_c (absV x) (SF.One) (by simp (config := {maxDischargeDepth := 12}) only [WQ, hx]) (by simp (config := {maxDischargeDepth := 12}) only [WQ, hx]))
    have G4 : Hid (All 100 #[.int .u64 ((absV x : Nat) : Int), .int .u64 ((SF.One : Nat) : Int)] (.bool true)) := by rw [← e0]; exact Lib.hid (ris_c (absV x) (SF.One) (by simp (config := {maxDischargeDepth := 12}) only [WQ, hx]) (by simp (config := {maxDischargeDepth := 12}) only [WQ, hx]))
    have G5 : Hid (All 96 #[.int .u64 4609753056924675352, .int .u64 ((x : Nat) : Int)] (.int .u64 ((signedV HalfPi x : Nat) : Int))) := Lib.hid (like_c 4609753056924675352 (x) (by simp (config := {maxDischargeDepth := 12}) only [WQ, hx]) (by simp (config := {maxDischargeDepth := 12}) only [WQ, hx]))
    exact rasin_1 G0 G1 G2 G3 G4 G5
  rw [decide_eq_false e1] at e0
  rw [show asinV x = asinF x by simp [asinV, n1, g1, e1]]
  have G0 : Hid (All 63 #[.int .u64 ((x : Nat) : Int)] (.int .u64 ((absV x : Nat) : Int))) := Lib.hid (all_of (rabs_c (x) (by simp (config := {maxDischargeDepth := 12}) only [WQ, hx])))
  have G1 : Hid (All 64 #[.int .u64 ((x : Nat) : Int)] (.bool false)) := by rw [← n1]; exact Lib.hid (all_of (risnan_c (x) (by simp (config := {maxDischargeDepth := 12}) only [WQ, hx])))
  have G2 : Hid (All 62 #[.int .i64 1] (.int .u64 ((SF.One : Nat) : Int))) := Lib.hid (of1_c)
  have G3 : Hid (All 66 #[.int .u64 ((absV x : Nat) : Int), .int .u64 ((SF.One : Nat) : Int)] (.bool false)) := by rw [← g1]; exact Lib.hid (rabove_c (absV x) (SF.One) (by simp (config := {maxDischargeDepth := 12}) only [WQ, hx]) (by simp (config := {maxDischargeDepth := 12}) only [WQ, hx]))
  have G4 : Hid (All 100 #[.int .u64 ((absV x : Nat) : Int), .int .u64 ((SF.One : Nat) : Int)] (.bool false)) := by rw [← e0]; exact Lib.hid (ris_c (absV x) (SF.One) (by simp (config := {maxDischargeDepth := 12}) only [WQ, hx]) (by simp (config := {maxDischargeDepth := 12}) only [WQ, hx]))
  have G5 : Hid (All 79 #[.int .u64 ((SF.One : Nat) : Int), .int .u64 ((x : Nat) : Int)] (.int .u64 ((subV SF.One x : Nat) : Int))) := Lib.hid (rsub5_c (SF.One) (x) (by simp (config := {maxDischargeDepth := 12}) only [WQ, hx]) (by simp (config := {maxDischargeDepth := 12}) only [WQ, hx]))
  have G6 : Hid (All 80 #[.int .u64 ((SF.One : Nat) : Int), .int .u64 ((x : Nat) : Int)] (.int .u64 ((addV SF.One x : Nat) : Int))) := Lib.hid (radd5_c (SF.One) (x) (by simp (config := {maxDischargeDepth := 12}) only [WQ, hx]) (by simp (config := {maxDischargeDepth := 12}) only [WQ, hx]))
  have G7 : Hid (All 68 #[.int .u64 ((subV SF.One x : Nat) : Int), .int .u64 ((addV SF.One x : Nat) : Int)] (.int .u64 ((mulV (subV SF.One x) (addV SF.One x) : Nat) : Int))) := Lib.hid (rmul5_c (subV SF.One x) (addV SF.One x) (by simp (config := {maxDischargeDepth := 12}) only [WQ, hx]) (by simp (config := {maxDischargeDepth := 12}) only [WQ, hx]))
  have G8 : Hid (All 97 #[.int .u64 ((mulV (subV SF.One x) (addV SF.One x) : Nat) : Int)] (.int .u64 ((sqrtV (mulV (subV SF.One x) (addV SF.One x)) : Nat) : Int))) := Lib.hid (rSqrt_c (mulV (subV SF.One x) (addV SF.One x)) (by simp (config := {maxDischargeDepth := 12}) only [WQ, hx]))
  have G9 : Hid (All 70 #[.int .u64 ((x : Nat) : Int), .int .u64 ((sqrtV (mulV (subV SF.One x) (addV SF.One x)) : Nat) : Int)] (.int .u64 ((divV x (sqrtV (mulV (subV SF.One x) (addV SF.One x))) : Nat) : Int))) := Lib.hid (rdiv5_c (x) (sqrtV (mulV (subV SF.One x) (addV SF.One x))) (by simp (config := {maxDischargeDepth := 12}) only [WQ, hx]) (by simp (config := {maxDischargeDepth := 12}) only [WQ, hx]))
  have G10 : Hid (All 42 #[.int .u64 ((divV x (sqrtV (mulV (subV SF.One x) (addV SF.One x))) : Nat) : Int)] (.int .u64 ((asinF x : Nat) : Int))) := Lib.hid (ratan_c (divV x (sqrtV (mulV (subV SF.One x) (addV SF.One x)))) (by simp (config := {maxDischargeDepth := 12}) only [WQ, hx]))
  exact rasin_f G0 G1 G2 G3 G4 G5 G6 G7 G8 G9 G10
theorem racos_c (x : Nat) (hx : W x) : All 46 #[.int .u64 ((x : Nat) : Int)] (.int .u64 ((acosV x : Nat) : Int)) := by
  have G0 : Hid (All 44 #[.int .u64 ((x : Nat) : Int)] (.int .u64 ((asinV x : Nat) : Int))) := Lib.hid (rasin_c (x) (by simp (config := {maxDischargeDepth := 12}) only [WQ, hx]))
  have G1 : Hid (All 79 #[.int .u64 4609753056924675352, .int .u64 ((asinV x : Nat) : Int)] (.int .u64 ((acosV x : Nat) : Int))) := Lib.hid (rsub5_c 4609753056924675352 (asinV x) (by simp (config := {maxDischargeDepth := 12}) only [WQ, hx]) (by simp (config := {maxDischargeDepth := 12}) only [WQ, hx]))
  exact racos_s G0 G1
theorem ratan2_c (y x : Nat) (hy : W y) (hx : W x) : All 48 #[.int .u64 ((y : Nat) : Int), .int .u64 ((x : Nat) : Int)] (.int .u64 ((atan2V y x : Nat) : Int)) := by
  by_cases n2 : nan y = true
  · rw [show atan2V y x = NaN by simp [atan2V, n2]]
    have G0 : Hid (All 64 #[.int .u64 ((y : Nat) : Int)] (.bool true)) := by rw [← n2]; exact Lib.hid (all_of (risnan_c (y) (by simp (config := {maxDischargeDepth := 12}) only [WQ, hx, hy])))
    exact ratan2_n1 G0
  have n2 := Bool.eq_false_iff.2 n2
  by_cases n1 : nan x = true
  · rw [show atan2V y x = NaN by simp [atan2V, n1, n2]]
    have G0 : Hid (All 64 #[.int .u64 ((y : Nat) : Int)] (.bool false)) := by rw [← n2]; exact Lib.hid (all_of (risnan_c (y) (by simp (config := {maxDischargeDepth := 12}) only [WQ, hx, hy])))
    have G1 : Hid (All 64 #[.int .u64 ((x : Nat) : Int)] (.bool true)) := by rw [← n1]; exact Lib.hid (all_of (risnan_c (x) (by simp (config := {maxDischargeDepth := 12}) only [WQ, hx, hy])))
    exact ratan2_n2 G0 G1
  have n1 := Bool.eq_false_iff.2 n1
  by_cases b1 : belowV 0 x = true
  · rw [show atan2V y x = atanV (divV y x) by simp [atan2V, n2, n1, b1]]
    have G0 : Hid (All 64 #[.int .u64 ((y : Nat) : Int)] (.bool false)) := by rw [← n2]; exact Lib.hid (all_of (risnan_c (y) (by simp (config := {maxDischargeDepth := 12}) only [WQ, hx, hy])))
    have G1 : Hid (All 64 #[.int .u64 ((x : Nat) : Int)] (.bool false)) := by rw [← n1]; exact Lib.hid (all_of (risnan_c (x) (by simp (config := {maxDischargeDepth := 12}) only [WQ, hx, hy])))
    have G2 : Hid (All 66 #[.int .u64 ((x : Nat) : Int), .int .u64 0] (.bool true)) := by rw [← b1]; exact Lib.hid (rabove_c (x) 0 (by simp (config := {maxDischargeDepth := 12}) only [WQ, hx, hy]) (by simp (config := {maxDischargeDepth := 12}) only [WQ, hx, hy]))
    have G3 : Hid (All 70 #[.int .u64 ((y : Nat) : Int), .int .u64 ((x : Nat) : Int)] (.int .u64 ((divV y x : Nat) : Int))) := Lib.hid (rdiv5_c (y) (x) (by simp (config := {maxDischargeDepth := 12}) only [WQ, hx, hy]) (by simp (config := {maxDischargeDepth := 12}) only [WQ, hx, hy]))
    have G4 : Hid (All 42 #[.int .u64 ((divV y x : Nat) : Int)] (.int .u64 ((atanV (divV y x) : Nat) : Int))) := Lib.hid (ratan_c (divV y x) (by simp (config := {maxDischargeDepth := 12}) only [WQ, hx, hy]))
    exact ratan2_p G0 G1 G2 G3 G4
  have b1 := Bool.eq_false_iff.2 b1
  by_cases b2 : belowV x 0 = true
  · by_cases s1 : ng y = true
    · rw [show atan2V y x = subV (atanV (divV y x)) PiV by simp [atan2V, n2, n1, b1, b2, s1]]
      have G0 : Hid (All 64 #[.int .u64 ((y : Nat) : Int)] (.bool false)) := by rw [← n2]; exact Lib.hid (all_of (risnan_c (y) (by simp (config := {maxDischargeDepth := 12}) only [WQ, hx, hy])))
      have G1 : Hid (All 64 #[.int .u64 ((x : Nat) : Int)] (.bool false)) := by rw [← n1]; exact Lib.hid (all_of (risnan_c (x) (by simp (config := {maxDischargeDepth := 12}) only [WQ, hx, hy])))
      have G2 : Hid (All 66 #[.int .u64 ((x : Nat) : Int), .int .u64 0] (.bool false)) := by rw [← b1]; exact Lib.hid (rabove_c (x) 0 (by simp (config := {maxDischargeDepth := 12}) only [WQ, hx, hy]) (by simp (config := {maxDischargeDepth := 12}) only [WQ, hx, hy]))
      have G3 : Hid (All 77 #[.int .u64 ((x : Nat) : Int), .int .u64 0] (.bool true)) := by rw [← b2]; exact Lib.hid (rbelow_c (x) 0 (by simp (config := {maxDischargeDepth := 12}) only [WQ, hx, hy]) (by simp (config := {maxDischargeDepth := 12}) only [WQ, hx, hy]))
      have G4 : Hid (All 69 #[.int .u64 ((y : Nat) : Int)] (.bool true)) := by rw [← s1]; exact Lib.hid (all_of (rminus_c (y) (by simp (config := {maxDischargeDepth := 12}) only [WQ, hx, hy])))
      have G5 : Hid (All 70 #[.int .u64 ((y : Nat) : Int), .int .u64 ((x : Nat) : Int)] (.int .u64 ((divV y x : Nat) : Int))) := Lib.hid (rdiv5_c (y) (x) (by simp (config := {maxDischargeDepth := 12}) only [WQ, hx, hy]) (by simp (config := {maxDischargeDepth := 12}) only [WQ, hx, hy]))
      have G6 : Hid (All 42 #[.int .u64 ((divV y x : Nat) : Int)] (.int .u64 ((atanV (divV y x) : Nat) : Int))) := Lib.hid (ratan_c (divV y x) (by simp (config := {maxDischargeDepth := 12}) only [WQ, hx, hy]))
      have G7 : Hid (All 79 #[.int .u64 ((atanV (divV y x) : Nat) : Int), .int .u64 4614256656552045848] (.int .u64 ((subV (atanV (divV y x)) PiV : Nat) : Int))) := Lib.hid (rsub5_c (atanV (divV y x)) 4614256656552045848 (by simp (config := {maxDischargeDepth := 12}) only [WQ, hx, hy]) (by simp (config := {maxDischargeDepth := 12}) only [WQ, hx, hy]))
      exact ratan2_m G0 G1 G2 G3 G4 G5 G6 G7
    have s1 := Bool.eq_false_iff.2 s1
    rw [show atan2V y x = addV (atanV (divV y x)) PiV by simp [atan2V, n2, n1, b1, b2, s1]]
    have G0 : Hid (All 64 #[.int .u64 ((y : Nat) : Int)] (.bool false)) := by rw [← n2]; exact Lib.hid (all_of (risnan_c (y) (by simp (config := {maxDischargeDepth := 12}) only [WQ, hx, hy])))
    have G1 : Hid (All 64 #[.int .u64 ((x : Nat) : Int)] (.bool false)) := by rw [← n1]; exact Lib.hid (all_of (risnan_c (x) (by simp (config := {maxDischargeDepth := 12}) only [WQ, hx, hy])))
    have G2 : Hid (All 66 #[.int .u64 ((x : Nat) : Int), .int .u64 0] (.bool false)) := by rw [← b1]; exact Lib.hid (rabove_c (x) 0 (by simp (config := {maxDischargeDepth := 12}) only [WQ, hx, hy]) (by simp (config := {maxDischargeDepth := 12}) only [WQ, hx, hy]))
    have G3 : Hid (All 77 #[.int .u64 ((x : Nat) : Int), .int .u64 0] (.bool true)) := by rw [← b2]; exact Lib.hid (rbelow_c (x) 0 (by simp (config := {maxDischargeDepth := 12}) only [WQ, hx, hy]) (by simp (config := {maxDischargeDepth := 12}) only [WQ, hx, hy]))
    have G4 : Hid (All 69 #[.int .u64 ((y : Nat) : Int)] (.bool false)) := by rw [← s1]; exact Lib.hid (all_of (rminus_c (y) (by simp (config := {maxDischargeDepth := 12}) only [WQ, hx, hy])))
    have G5 : Hid (All 70 #[.int .u64 ((y : Nat) : Int), .int .u64 ((x : Nat) : Int)] (.int .u64 ((divV y x : Nat) : Int))) := Lib.hid (rdiv5_c (y) (x) (by simp (config := {maxDischargeDepth := 12}) only [WQ, hx, hy]) (by simp (config := {maxDischargeDepth := 12}) only [WQ, hx, hy]))
    have G6 : Hid (All 42 #[.int .u64 ((divV y x : Nat) : Int)] (.int .u64 ((atanV (divV y x) : Nat) : Int))) := Lib.hid (ratan_c (divV y x) (by simp (config := {maxDischargeDepth := 12}) only [WQ, hx, hy]))
    have G7 : Hid (All 80 #[.int .u64 ((atanV (divV y x) : Nat) : Int), .int .u64 4614256656552045848] (.int .u64 ((addV (atanV (divV y x)) PiV : Nat) : Int))) := Lib.hid (radd5_c (atanV (divV y x)) 4614256656552045848 (by simp (config := {maxDischargeDepth := 12}) only [WQ, hx, hy]) (by simp (config := {maxDischargeDepth := 12}) only [WQ, hx, hy]))
    exact ratan2_q G0 G1 G2 G3 G4 G5 G6 G7
  have b2 := Bool.eq_false_iff.2 b2
  have a0 := above_0 n2
  have l0 := below_0 n2
  by_cases z1 : zer y = true
  · rw [z1, Bool.not_true, Bool.and_false] at a0 l0
    rw [show atan2V y x = y by simp [atan2V, n2, n1, b1, b2, z1]]
    have G0 : Hid (All 64 #[.int .u64 ((y : Nat) : Int)] (.bool false)) := by rw [← n2]; exact Lib.hid (all_of (risnan_c (y) (by simp (config := {maxDischargeDepth := 12}) only [WQ, hx, hy])))
    have G1 : Hid (All 64 #[.int .u64 ((x : Nat) : Int)] (.bool false)) := by rw [← n1]; exact Lib.hid (all_of (risnan_c (x) (by simp (config := {maxDischargeDepth := 12}) only [WQ, hx, hy])))
    have G2 : Hid (All 66 #[.int .u64 ((x : Nat) : Int), .int .u64 0] (.bool false)) := by rw [← b1]; exact Lib.hid (rabove_c (x) 0 (by simp (config := {maxDischargeDepth := 12}) only [WQ, hx, hy]) (by simp (config := {maxDischargeDepth := 12}) only [WQ, hx, hy]))
    have G3 : Hid (All 77 #[.int .u64 ((x : Nat) : Int), .int .u64 0] (.bool false)) := by rw [← b2]; exact Lib.hid (rbelow_c (x) 0 (by simp (config := {maxDischargeDepth := 12}) only [WQ, hx, hy]) (by simp (config := {maxDischargeDepth := 12}) only [WQ, hx, hy]))
    have G4 : Hid (All 66 #[.int .u64 ((y : Nat) : Int), .int .u64 0] (.bool false)) := by rw [← a0]; exact Lib.hid (rabove_c (y) 0 (by simp (config := {maxDischargeDepth := 12}) only [WQ, hx, hy]) (by simp (config := {maxDischargeDepth := 12}) only [WQ, hx, hy]))
    have G5 : Hid (All 77 #[.int .u64 ((y : Nat) : Int), .int .u64 0] (.bool false)) := by rw [← l0]; exact Lib.hid (rbelow_c (y) 0 (by simp (config := {maxDischargeDepth := 12}) only [WQ, hx, hy]) (by simp (config := {maxDischargeDepth := 12}) only [WQ, hx, hy]))
    exact ratan2_z G0 G1 G2 G3 G4 G5
  have z1 := Bool.eq_false_iff.2 z1
  by_cases s1 : ng y = true
  · rw [z1, s1] at a0 l0
    replace a0 : belowV 0 y = false := a0
    replace l0 : belowV y 0 = true := l0
    rw [show atan2V y x = negV 4609753056924675352 by simp [atan2V, n2, n1, b1, b2, z1, s1, signedV, HalfPi]]
    have G0 : Hid (All 64 #[.int .u64 ((y : Nat) : Int)] (.bool false)) := by rw [← n2]; exact Lib.hid (all_of (risnan_c (y) (by simp (config := {maxDischargeDepth := 12}) only [WQ, hx, hy])))
    have G1 : Hid (All 64 #[.int .u64 ((x : Nat) : Int)] (.bool false)) := by rw [← n1]; exact Lib.hid (all_of (risnan_c (x) (by simp (config := {maxDischargeDepth := 12}) only [WQ, hx, hy])))
    have G2 : Hid (All 66 #[.int .u64 ((x : Nat) : Int), .int .u64 0] (.bool false)) := by rw [← b1]; exact Lib.hid (rabove_c (x) 0 (by simp (config := {maxDischargeDepth := 12}) only [WQ, hx, hy]) (by simp (config := {maxDischargeDepth := 12}) only [WQ, hx, hy]))
    have G3 : Hid (All 77 #[.int .u64 ((x : Nat) : Int), .int .u64 0] (.bool false)) := by rw [← b2]; exact Lib.hid (rbelow_c (x) 0 (by simp (config := {maxDischargeDepth := 12}) only [WQ, hx, hy]) (by simp (config := {maxDischargeDepth := 12}) only [WQ, hx, hy]))
    have G4 : Hid (All 66 #[.int .u64 ((y : Nat) : Int), .int .u64 0] (.bool false)) := by rw [← a0]; exact Lib.hid (rabove_c (y) 0 (by simp (config := {maxDischargeDepth := 12}) only [WQ, hx, hy]) (by simp (config := {maxDischargeDepth := 12}) only [WQ, hx, hy]))
    have G5 : Hid (All 77 #[.int .u64 ((y : Nat) : Int), .int .u64 0] (.bool true)) := by rw [← l0]; exact Lib.hid (rbelow_c (y) 0 (by simp (config := {maxDischargeDepth := 12}) only [WQ, hx, hy]) (by simp (config := {maxDischargeDepth := 12}) only [WQ, hx, hy]))
    have G6 : Hid (All 89 #[.int .u64 4609753056924675352] (.int .u64 ((negV 4609753056924675352 : Nat) : Int))) := Lib.hid (all_of (rneg_c 4609753056924675352 (by simp (config := {maxDischargeDepth := 12}) only [WQ, hx, hy])))
    exact ratan2_b G0 G1 G2 G3 G4 G5 G6
  have s1 := Bool.eq_false_iff.2 s1
  rw [z1, s1] at a0
  replace a0 : belowV 0 y = true := a0
  rw [show atan2V y x = 4609753056924675352 by simp [atan2V, n2, n1, b1, b2, z1, s1, signedV, HalfPi]]
  have G0 : Hid (All 64 #[.int .u64 ((y : Nat) : Int)] (.bool false)) := by rw [← n2]; exact Lib.hid (all_of (risnan_c (y) (by simp (config := {maxDischargeDepth := 12}) only [WQ, hx, hy])))
  have G1 : Hid (All 64 #[.int .u64 ((x : Nat) : Int)] (.bool false)) := by rw [← n1]; exact Lib.hid (all_of (risnan_c (x) (by simp (config := {maxDischargeDepth := 12}) only [WQ, hx, hy])))
  have G2 : Hid (All 66 #[.int .u64 ((x : Nat) : Int), .int .u64 0] (.bool false)) := by rw [← b1]; exact Lib.hid (rabove_c (x) 0 (by simp (config := {maxDischargeDepth := 12}) only [WQ, hx, hy]) (by simp (config := {maxDischargeDepth := 12}) only [WQ, hx, hy]))
  have G3 : Hid (All 77 #[.int .u64 ((x : Nat) : Int), .int .u64 0] (.bool false)) := by rw [← b2]; exact Lib.hid (rbelow_c (x) 0 (by simp (config := {maxDischargeDepth := 12}) only [WQ, hx, hy]) (by simp (config := {maxDischargeDepth := 12}) only [WQ, hx, hy]))
  have G4 : Hid (All 66 #[.int .u64 ((y : Nat) : Int), .int .u64 0] (.bool true)) := by rw [← a0]; exact Lib.hid (rabove_c (y) 0 (by simp (config := {maxDischargeDepth := 12}) only [WQ, hx, hy]) (by simp (config := {maxDischargeDepth := 12}) only [WQ, hx, hy]))
  exact ratan2_a G0 G1 G2 G3 G4
