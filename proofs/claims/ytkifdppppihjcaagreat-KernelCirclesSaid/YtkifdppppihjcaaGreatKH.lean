/- The reference's kernel: what each function computes. -/
import Derived.Test.YtkifdppppihjcaaGreatKG
import Derived.Test.YtkifdppppihjcaaGreatKR
import Derived.Test.YtkifdppppihjcaaGreatKQ
namespace Go.Proofs.YtkifdppppihjcaaGreat
set_option linter.unusedVariables false
set_option linter.unusedSimpArgs false
open Go.RowKit Go.Shelf Go.ChangeShapes Go.WideShapes SF

theorem rsub5_c (a b : Nat) (ha : W a) (hb : W b) : All 79 #[.int .u64 ((a : Nat) : Int), .int .u64 ((b : Nat) : Int)] (.int .u64 ((subV a b : Nat) : Int)) := r5sub_s (Lib.hid (rSub_c a b ha hb))
theorem rmul5_c (a b : Nat) (ha : W a) (hb : W b) : All 68 #[.int .u64 ((a : Nat) : Int), .int .u64 ((b : Nat) : Int)] (.int .u64 ((mulV a b : Nat) : Int)) := r5mul_s (Lib.hid (rMul_c a b ha hb))
theorem rdiv5_c (a b : Nat) (ha : W a) (hb : W b) : All 70 #[.int .u64 ((a : Nat) : Int), .int .u64 ((b : Nat) : Int)] (.int .u64 ((divV a b : Nat) : Int)) := r5div_s (Lib.hid (rDiv_c a b ha hb))
theorem of_c (v : Int) (h1 : -9223372036854775808 ≤ v) (h2 : v ≤ 9223372036854775807) : All 62 #[.int .i64 v] (.int .u64 ((ofV v : Nat) : Int)) := by
  unfold ofV
  by_cases h : v < 0
  · rw [if_pos h]; exact of_n h (Lib.hid (rFrom_c v (-1) ⟨h1, h2⟩ (by unfold Cell64; decide)))
  · rw [if_neg h]; exact of_p h (Lib.hid (rFrom_c v 0 ⟨h1, h2⟩ (by unfold Cell64; decide)))
theorem ok_comm (a b : Nat) : okV a b = okV b a := by unfold okV; rw [Bool.or_comm]
theorem cmp_anti (a b : Nat) : cmpV a b = -cmpV b a := by
  unfold cmpV cmpI
  rw [Bool.or_comm (nan a)]
  split
  · rfl
  · repeat' split
    all_goals omega
theorem rabove_c (a b : Nat) (ha : W a) (hb : W b) : All 66 #[.int .u64 ((a : Nat) : Int), .int .u64 ((b : Nat) : Int)] (.bool (belowV b a)) := by
  have e : belowV b a = (okV a b && decide (0 < cmpV a b)) := by
    unfold belowV; rw [ok_comm b a, cmp_anti b a]; congr 1; rw [decide_eq_decide]; omega
  rw [e]
  by_cases o1 : okV a b = true
  · have h := all_of (rcmp_c a b ha hb); rw [o1] at h ⊢; exact rabove_1 (Lib.hid h)
  · have o1 := Bool.eq_false_iff.2 o1
    have h := all_of (rcmp_c a b ha hb); rw [o1] at h ⊢; exact rabove_0 (Lib.hid h)
theorem rsine_c (r : Nat) (hr : W r) : All 141 #[.int .u64 (r : Int)] (.int .u64 ((sineV r : Nat) : Int)) := by
  refine rsine_s (P := fun k : Int => ((upV (rowStep (mulV r r) 1) 8 (ofV 1) ((8 : Int) - k).toNat : Nat) : Int)) (Lib.hid (fun k k1 k2 => ?_)) (Lib.hid (rmul5_c r r hr hr)) (Lib.hid (of_c 1 (by decide) (by decide))) (Lib.hid (rmul5_c r (rowV (mulV r r) 1) hr W_rowV))
    (Lib.hid (fun k k1 k2 => ?_)) (by show ((upV _ _ _ ((8 : Int) - 8).toNat : Nat) : Int) = _; rw [Int.sub_self]; rfl) (by show ((upV _ _ _ ((8 : Int) - (1 - 1)).toNat : Nat) : Int) = ((rowV (mulV r r) 1 : Nat) : Int); rw [show ((8 : Int) - (1 - 1)).toNat = 8 by decide, of_1]; rfl)
  · have := (row_v (last := 1) (by decide) k1 k2).2
    exact this
  · obtain ⟨q, hq⟩ : ∃ q, upV (rowStep (mulV r r) 1) 8 (ofV 1) (8 - k).toNat = q := ⟨_, rfl⟩
    have wq : W q := by rw [← hq]; exact W_upV (W_ofV _) (fun _ _ _ => W_rowStep) _
    have v := (row_v (last := 1) (by decide) k1 k2).2
    have ek : 2 * k * (2 * k + 1) = 2 * k * (2 * k + 1) := rfl
    refine ⟨((ofV (2 * k * (2 * k + 1)) : Nat) : Int), ((divV (mulV r r) (ofV (2 * k * (2 * k + 1))) : Nat) : Int), ((mulV (divV (mulV r r) (ofV (2 * k * (2 * k + 1)))) q : Nat) : Int), Lib.hid (of_c _ (by omega) (by omega)), Lib.hid (rdiv5_c (mulV r r) (ofV (2 * k * (2 * k + 1))) (W_mulV _ _) (W_ofV _)), ?_, ?_⟩
    · rw [hq]; exact Lib.hid (rmul5_c (divV (mulV r r) (ofV (2 * k * (2 * k + 1)))) q W_divV wq)
    · rw [upV_next _ _ _ k2, hq]; exact Lib.hid (rsub5_c (ofV 1) (mulV (divV (mulV r r) (ofV (2 * k * (2 * k + 1)))) q) (W_ofV _) (W_mulV _ _))
theorem rcosine_c (r : Nat) (hr : W r) : All 142 #[.int .u64 (r : Int)] (.int .u64 ((cosineV r : Nat) : Int)) := by
  refine rcosine_s (P := fun k : Int => ((upV (rowStep (mulV r r) (-1)) 8 (ofV 1) ((8 : Int) - k).toNat : Nat) : Int)) (Lib.hid (fun k k1 k2 => ?_)) (Lib.hid (rmul5_c r r hr hr)) (Lib.hid (of_c 1 (by decide) (by decide)))
    (Lib.hid (fun k k1 k2 => ?_)) (by show ((upV _ _ _ ((8 : Int) - 8).toNat : Nat) : Int) = _; rw [Int.sub_self]; rfl) (by show ((upV _ _ _ ((8 : Int) - (1 - 1)).toNat : Nat) : Int) = ((rowV (mulV r r) (-1) : Nat) : Int); rw [show ((8 : Int) - (1 - 1)).toNat = 8 by decide, of_1]; rfl)
  · have := (row_v (last := (-1)) (by decide) k1 k2).2
    exact this
  · obtain ⟨q, hq⟩ : ∃ q, upV (rowStep (mulV r r) (-1)) 8 (ofV 1) (8 - k).toNat = q := ⟨_, rfl⟩
    have wq : W q := by rw [← hq]; exact W_upV (W_ofV _) (fun _ _ _ => W_rowStep) _
    have v := (row_v (last := (-1)) (by decide) k1 k2).2
    have ek : 2 * k * (2 * k + (-1)) = 2 * k * (2 * k - 1) := rfl
    refine ⟨((ofV (2 * k * (2 * k - 1)) : Nat) : Int), ((divV (mulV r r) (ofV (2 * k * (2 * k - 1))) : Nat) : Int), ((mulV (divV (mulV r r) (ofV (2 * k * (2 * k - 1)))) q : Nat) : Int), Lib.hid (of_c _ (by omega) (by omega)), Lib.hid (rdiv5_c (mulV r r) (ofV (2 * k * (2 * k - 1))) (W_mulV _ _) (W_ofV _)), ?_, ?_⟩
    · rw [hq]; exact Lib.hid (rmul5_c (divV (mulV r r) (ofV (2 * k * (2 * k - 1)))) q W_divV wq)
    · rw [upV_next _ _ _ k2, hq]; exact Lib.hid (rsub5_c (ofV 1) (mulV (divV (mulV r r) (ofV (2 * k * (2 * k - 1)))) q) (W_ofV _) (W_mulV _ _))
theorem turn_c (r : Nat) (k : Int) (hr : W r) : All 93 #[.int .u64 (r : Int), .int .i64 k] (.int .u64 ((turnV k r : Nat) : Int)) := by
  have hb := i64_and3 k
  unfold turnV
  have h : k % 4 = 0 ∨ k % 4 = 1 ∨ k % 4 = 2 ∨ k % 4 = 3 := by omega
  rcases h with h | h | h | h
  · rw [h] at hb; rw [if_pos h]
    exact turn_0 hb (Lib.hid (rsine_c r hr))
  · rw [h] at hb; rw [if_neg (by omega), if_pos h]
    exact turn_1 hb (Lib.hid (rcosine_c r hr))
  · rw [h] at hb; rw [if_neg (by omega), if_neg (by omega), if_pos h]
    exact turn_2 hb (Lib.hid (rsine_c r hr)) (Lib.hid (all_of (rneg_c (sineV r) (W_mulV _ _))))
  · rw [h] at hb; rw [if_neg (by omega), if_neg (by omega), if_neg (by omega)]
    exact turn_3 hb (Lib.hid (rcosine_c r hr)) (Lib.hid (all_of (rneg_c (cosineV r) W_rowV)))
theorem rquarter_c (x : Nat) (hx : W x) : All 92 #[.int .u64 ((x : Nat) : Int)]
    (if qOk x then .tuple #[.int .u64 ((qR x : Nat) : Int), .int .i64 (qK x), .bool true] else .tuple #[.int .u64 0, .int .i64 0, .bool false]) := by
  by_cases n1 : nan x = true
  · rw [show qOk x = false by simp [qOk, n1], if_neg (by decide)]
    have G0 : Hid (All 64 #[.int .u64 ((x : Nat) : Int)] (.bool true)) := by rw [← n1]; exact Lib.hid (all_of (risnan_c (x) (by simp (config := {maxDischargeDepth := 12}) only [WQ, hx])))
    exact rquarter_n G0
  have n1 := Bool.eq_false_iff.2 n1
  by_cases i1 : inf x = true
  · rw [show qOk x = false by simp [qOk, n1, i1], if_neg (by decide)]
    have G0 : Hid (All 64 #[.int .u64 ((x : Nat) : Int)] (.bool false)) := by rw [← n1]; exact Lib.hid (all_of (risnan_c (x) (by simp (config := {maxDischargeDepth := 12}) only [WQ, hx])))
    have G1 : Hid (All 99 #[.int .u64 ((x : Nat) : Int)] (.bool true)) := by rw [← i1]; exact Lib.hid (all_of (risinf_c (x) (by simp (config := {maxDischargeDepth := 12}) only [WQ, hx])))
    exact rquarter_i G0 G1
  have i1 := Bool.eq_false_iff.2 i1
  by_cases h1 : belowV (ofV 1073741824) (absV x) = true
  · rw [show qOk x = false by simp [qOk, n1, i1, h1], if_neg (by decide)]
    have G0 : Hid (All 64 #[.int .u64 ((x : Nat) : Int)] (.bool false)) := by rw [← n1]; exact Lib.hid (all_of (risnan_c (x) (by simp (config := {maxDischargeDepth := 12}) only [WQ, hx])))
    have G1 : Hid (All 99 #[.int .u64 ((x : Nat) : Int)] (.bool false)) := by rw [← i1]; exact Lib.hid (all_of (risinf_c (x) (by simp (config := {maxDischargeDepth := 12}) only [WQ, hx])))
    have G2 : Hid (All 63 #[.int .u64 ((x : Nat) : Int)] (.int .u64 ((absV x : Nat) : Int))) := Lib.hid (all_of (rabs_c (x) (by simp (config := {maxDischargeDepth := 12}) only [WQ, hx])))
    have G3 : Hid (All 62 #[.int .i64 1073741824] (.int .u64 ((ofV 1073741824 : Nat) : Int))) := Lib.hid (of_c (1073741824) (by decide) (by decide))
    have G4 : Hid (All 66 #[.int .u64 ((absV x : Nat) : Int), .int .u64 ((ofV 1073741824 : Nat) : Int)] (.bool true)) := by rw [← h1]; exact Lib.hid (rabove_c (absV x) (ofV 1073741824) (by simp (config := {maxDischargeDepth := 12}) only [WQ, hx]) (by simp (config := {maxDischargeDepth := 12}) only [WQ, hx]))
    exact rquarter_a G0 G1 G2 G3 G4
  have h1 := Bool.eq_false_iff.2 h1
  rw [show qOk x = true by simp [qOk, n1, i1, h1], if_pos rfl]
  have G0 : Hid (All 64 #[.int .u64 ((x : Nat) : Int)] (.bool false)) := by rw [← n1]; exact Lib.hid (all_of (risnan_c (x) (by simp (config := {maxDischargeDepth := 12}) only [WQ, hx])))
  have G1 : Hid (All 99 #[.int .u64 ((x : Nat) : Int)] (.bool false)) := by rw [← i1]; exact Lib.hid (all_of (risinf_c (x) (by simp (config := {maxDischargeDepth := 12}) only [WQ, hx])))
  have G2 : Hid (All 63 #[.int .u64 ((x : Nat) : Int)] (.int .u64 ((absV x : Nat) : Int))) := Lib.hid (all_of (rabs_c (x) (by simp (config := {maxDischargeDepth := 12}) only [WQ, hx])))
  have G3 : Hid (All 62 #[.int .i64 1073741824] (.int .u64 ((ofV 1073741824 : Nat) : Int))) := Lib.hid (of_c (1073741824) (by decide) (by decide))
  have G4 : Hid (All 66 #[.int .u64 ((absV x : Nat) : Int), .int .u64 ((ofV 1073741824 : Nat) : Int)] (.bool false)) := by rw [← h1]; exact Lib.hid (rabove_c (absV x) (ofV 1073741824) (by simp (config := {maxDischargeDepth := 12}) only [WQ, hx]) (by simp (config := {maxDischargeDepth := 12}) only [WQ, hx]))
  have G5 : Hid (All 68 #[.int .u64 ((x : Nat) : Int), .int .u64 4603909380684499075] (.int .u64 ((mulV x 4603909380684499075 : Nat) : Int))) := Lib.hid (rmul5_c (x) 4603909380684499075 (by simp (config := {maxDischargeDepth := 12}) only [WQ, hx]) (by simp (config := {maxDischargeDepth := 12}) only [WQ, hx]))
  have G6 : Hid (All 78 #[.int .u64 ((mulV x 4603909380684499075 : Nat) : Int)] (.int .u64 ((qF x : Nat) : Int))) := Lib.hid (rRound_c (mulV x 4603909380684499075) (by simp (config := {maxDischargeDepth := 12}) only [WQ, hx]))
  have G7 : Hid (All 68 #[.int .u64 ((qF x : Nat) : Int), .int .u64 4609753056853098496] (.int .u64 ((mulV (qF x) 4609753056853098496 : Nat) : Int))) := Lib.hid (rmul5_c (qF x) 4609753056853098496 (by simp (config := {maxDischargeDepth := 12}) only [WQ, hx]) (by simp (config := {maxDischargeDepth := 12}) only [WQ, hx]))
  have G8 : Hid (All 79 #[.int .u64 ((x : Nat) : Int), .int .u64 ((mulV (qF x) 4609753056853098496 : Nat) : Int)] (.int .u64 ((subV x (mulV (qF x) 4609753056853098496) : Nat) : Int))) := Lib.hid (rsub5_c (x) (mulV (qF x) 4609753056853098496) (by simp (config := {maxDischargeDepth := 12}) only [WQ, hx]) (by simp (config := {maxDischargeDepth := 12}) only [WQ, hx]))
  have G9 : Hid (All 68 #[.int .u64 ((qF x : Nat) : Int), .int .u64 4490388670355865600] (.int .u64 ((mulV (qF x) 4490388670355865600 : Nat) : Int))) := Lib.hid (rmul5_c (qF x) 4490388670355865600 (by simp (config := {maxDischargeDepth := 12}) only [WQ, hx]) (by simp (config := {maxDischargeDepth := 12}) only [WQ, hx]))
  have G10 : Hid (All 79 #[.int .u64 ((subV x (mulV (qF x) 4609753056853098496) : Nat) : Int), .int .u64 ((mulV (qF x) 4490388670355865600 : Nat) : Int)] (.int .u64 ((subV (subV x (mulV (qF x) 4609753056853098496)) (mulV (qF x) 4490388670355865600) : Nat) : Int))) := Lib.hid (rsub5_c (subV x (mulV (qF x) 4609753056853098496)) (mulV (qF x) 4490388670355865600) (by simp (config := {maxDischargeDepth := 12}) only [WQ, hx]) (by simp (config := {maxDischargeDepth := 12}) only [WQ, hx]))
  have G11 : Hid (All 68 #[.int .u64 ((qF x : Nat) : Int), .int .u64 4364452196894661639] (.int .u64 ((mulV (qF x) 4364452196894661639 : Nat) : Int))) := Lib.hid (rmul5_c (qF x) 4364452196894661639 (by simp (config := {maxDischargeDepth := 12}) only [WQ, hx]) (by simp (config := {maxDischargeDepth := 12}) only [WQ, hx]))
  have G12 : Hid (All 79 #[.int .u64 ((subV (subV x (mulV (qF x) 4609753056853098496)) (mulV (qF x) 4490388670355865600) : Nat) : Int), .int .u64 ((mulV (qF x) 4364452196894661639 : Nat) : Int)] (.int .u64 ((qR x : Nat) : Int))) := Lib.hid (rsub5_c (subV (subV x (mulV (qF x) 4609753056853098496)) (mulV (qF x) 4490388670355865600)) (mulV (qF x) 4364452196894661639) (by simp (config := {maxDischargeDepth := 12}) only [WQ, hx]) (by simp (config := {maxDischargeDepth := 12}) only [WQ, hx]))
  have G13 : Hid (All 67 #[.int .u64 ((qF x : Nat) : Int)] (.tuple #[.int .i64 ((toLo (qF x))), .int .i64 ((toHi (qF x))), .int .i64 ((toT (qF x)))])) := Lib.hid (rTo_c (qF x) (by simp (config := {maxDischargeDepth := 12}) only [WQ, hx]))
  exact rquarter_f (i64_and3 _) G0 G1 G2 G3 G4 G5 G6 G7 G8 G9 G10 G11 G12 G13
theorem rsin_c (x : Nat) (hx : W x) : All 24 #[.int .u64 ((x : Nat) : Int)] (.int .u64 ((sinV x : Nat) : Int)) := by
  by_cases z1 : zer x = true
  · rw [show sinV x = x by simp [sinV, z1]]
    have G0 : Hid (All 61 #[.int .u64 ((x : Nat) : Int)] (.bool true)) := by rw [← z1]; exact Lib.hid (all_of (riszero_c (x) (by simp (config := {maxDischargeDepth := 12}) only [WQ, hx])))
    exact rsin_z G0
  have z1 := Bool.eq_false_iff.2 z1
  by_cases q1 : qOk x = true
  · rw [show sinV x = turnV (qK x) (qR x) by simp [sinV, z1, q1]]
    have G0 : Hid (All 61 #[.int .u64 ((x : Nat) : Int)] (.bool false)) := by rw [← z1]; exact Lib.hid (all_of (riszero_c (x) (by simp (config := {maxDischargeDepth := 12}) only [WQ, hx])))
    have G1 : Hid (All 92 #[.int .u64 ((x : Nat) : Int)] (.tuple #[.int .u64 ((qR x : Nat) : Int), .int .i64 ((qK x)), .bool true])) := Lib.hid (by have := rquarter_c x hx; rw [q1] at this; exact this)
    have G2 : Hid (All 93 #[.int .u64 ((qR x : Nat) : Int), .int .i64 ((qK x))] (.int .u64 ((turnV (qK x) (qR x) : Nat) : Int))) := Lib.hid (turn_c (qR x) (qK x) (W_qR hx))
    exact rsin_f G0 G1 G2
  have q1 := Bool.eq_false_iff.2 q1
  rw [show sinV x = NaN by simp [sinV, z1, q1]]
  have G0 : Hid (All 61 #[.int .u64 ((x : Nat) : Int)] (.bool false)) := by rw [← z1]; exact Lib.hid (all_of (riszero_c (x) (by simp (config := {maxDischargeDepth := 12}) only [WQ, hx])))
  have G1 : Hid (All 92 #[.int .u64 ((x : Nat) : Int)] (.tuple #[.int .u64 ((0 : Nat) : Int), .int .i64 ((0)), .bool false])) := Lib.hid (by have := rquarter_c x hx; rw [q1] at this; exact this)
  exact rsin_n G0 G1
theorem rcos_c (x : Nat) (hx : W x) : All 26 #[.int .u64 ((x : Nat) : Int)] (.int .u64 ((cosV x : Nat) : Int)) := by
  by_cases q1 : qOk x = true
  · rw [show cosV x = turnV (qK x + 1) (qR x) by simp [cosV, q1]]
    have G0 : Hid (All 92 #[.int .u64 ((x : Nat) : Int)] (.tuple #[.int .u64 ((qR x : Nat) : Int), .int .i64 ((qK x)), .bool true])) := Lib.hid (by have := rquarter_c x hx; rw [q1] at this; exact this)
    have G1 : Hid (All 93 #[.int .u64 ((qR x : Nat) : Int), .int .i64 ((qK x) + 1)] (.int .u64 ((turnV (qK x + 1) (qR x) : Nat) : Int))) := Lib.hid (turn_c (qR x) (qK x + 1) (W_qR hx))
    exact rcos_f (Int.emod_nonneg _ (by decide)) (by omega) G0 G1
  have q1 := Bool.eq_false_iff.2 q1
  rw [show cosV x = NaN by simp [cosV, q1]]
  have G0 : Hid (All 92 #[.int .u64 ((x : Nat) : Int)] (.tuple #[.int .u64 ((0 : Nat) : Int), .int .i64 ((0)), .bool false])) := Lib.hid (by have := rquarter_c x hx; rw [q1] at this; exact this)
  exact rcos_n G0
theorem rtan_c (x : Nat) (hx : W x) : All 28 #[.int .u64 ((x : Nat) : Int)] (.int .u64 ((tanV x : Nat) : Int)) := by
  have G0 : Hid (All 24 #[.int .u64 ((x : Nat) : Int)] (.int .u64 ((sinV x : Nat) : Int))) := Lib.hid (rsin_c (x) (by simp (config := {maxDischargeDepth := 12}) only [WQ, hx]))
  have G1 : Hid (All 26 #[.int .u64 ((x : Nat) : Int)] (.int .u64 ((cosV x : Nat) : Int))) := Lib.hid (rcos_c (x) (by simp (config := {maxDischargeDepth := 12}) only [WQ, hx]))
  have G2 : Hid (All 70 #[.int .u64 ((sinV x : Nat) : Int), .int .u64 ((cosV x : Nat) : Int)] (.int .u64 ((tanV x : Nat) : Int))) := Lib.hid (rdiv5_c (sinV x) (cosV x) (by simp (config := {maxDischargeDepth := 12}) only [WQ, hx]) (by simp (config := {maxDischargeDepth := 12}) only [WQ, hx]))
  exact rtan_s G0 G1 G2
