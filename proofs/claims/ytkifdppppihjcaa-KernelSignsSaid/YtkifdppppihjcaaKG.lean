/- Texts KG, for this seat. -/
import Derived.Test.YtkifdppppihjcaaKX
namespace Go.Proofs.Ytkifdppppihjcaa
set_option linter.unusedVariables false
set_option linter.unusedSimpArgs false
open Go.RowKit Go.Shelf Go.ChangeShapes Go.WideShapes SF

theorem exp1_c (r : Nat) (hr : W r) (ad : Addr) (k : Int) (k1 : 1 ≤ k) (k2 : k ≤ 13) (p : Nat) (hp : W p) :
    AllC [(ad, .int .u64 (r : Int))] 28 #[.int .i64 k, .int .u64 (p : Int), .pointer (some ad)] (.int .u64 ((expStep r k p : Nat) : Int)) :=
  exp1_s ad (Lib.hid (n_c k (by omega) (by omega))) (Lib.hid (div_c r (ofV k) hr (W_ofV k))) (Lib.hid (mul_c (divV r (ofV k)) p W_divV hp)) (Lib.hid (add_c SF.One (mulV (divV r (ofV k)) p) W_One (W_mulV _ _)))
theorem sumUp_c (F : FuncId) (ef : ∀ args w, (callFunc F args).run Try.prog w = .ok (.enter F args) w) (cs : List (Addr × Value)) (cap : Value) (g : Int → Nat → Nat) (a b : Int) (h1 : -1000 ≤ b) (h2 : b ≤ a + 1) (h3 : a ≤ 1000) (n : Nat) (hn : (a - (b - 1)).toNat = n)
    (p0 : Nat) (w0 : W p0) (q0 : Int) (hq : (p0 : Int) = q0) (R : Nat) (hR : upV g a p0 n = R) (wg : ∀ i q, W q → W (g i q))
    (HS : ∀ k, b ≤ k → k ≤ a → ∀ p, W p → AllC cs F #[.int .i64 k, .int .u64 (p : Int), cap] (.int .u64 ((g k p : Nat) : Int))) :
    AllC cs 21 #[.int .u64 q0, .int .i64 a, .int .i64 b, .func (.func F) #[] #[cap]] (.int .u64 ((R : Nat) : Int)) := by
  subst hR hn hq
  refine sum1_c F ef cs cap (fun k => ((upV g a p0 (a - k).toNat : Nat) : Int)) a b h1 h2 h3 (Lib.hid (fun k k1 k2 => ?_)) _ ?_ _ rfl
  · show AllC cs F _ (.int .u64 ((upV g a p0 (a - (k - 1)).toNat : Nat) : Int))
    rw [upV_next _ _ _ k2]
    exact HS k k1 k2 _ (W_upV w0 wg _)
  · show ((upV g a p0 (a - a).toNat : Nat) : Int) = _
    rw [Int.sub_self]; rfl
theorem exps_c (r : Nat) (hr : W r) (ad : Addr) :
    AllC [(ad, .int .u64 (r : Int))] 21 #[.int .u64 4607182418800017408, .int .i64 13, .int .i64 1, .func (.func 28) #[] #[.pointer (some ad)]] (.int .u64 ((expP r : Nat) : Int)) :=
  sumUp_c _ (enters_of Try.func28 (by kernel_rfl) rfl) _ _ (expStep r) 13 1 (by decide) (by decide) (by decide) 13 (by decide) SF.One W_One _ rfl _ rfl (fun _ _ _ => W_expStep)
    (fun k k1 k2 p hp => exp1_c r hr ad k k1 k2 p hp)
theorem exp_c (x : Nat) (hx : W x) : All 5 #[.int .u64 ((x : Nat) : Int)] (.int .u64 ((expV x : Nat) : Int)) := by
  by_cases n1 : nan x = true
  · rw [show expV x = NaN by simp [expV, n1]]
    have G0 : Hid (All 11 #[.int .u64 ((x : Nat) : Int)] (.bool true)) := by rw [← n1]; exact Lib.hid (knan_c (x) (by simp (config := {maxDischargeDepth := 12}) only [WQ, hx]))
    exact exp_n G0
  have n1 := Bool.eq_false_iff.2 n1
  by_cases h1 : belowV (ofV 710) x = true
  · rw [show expV x = Inf by simp [expV, n1, h1]]
    have G0 : Hid (All 11 #[.int .u64 ((x : Nat) : Int)] (.bool false)) := by rw [← n1]; exact Lib.hid (knan_c (x) (by simp (config := {maxDischargeDepth := 12}) only [WQ, hx]))
    have G1 : Hid (All 25 #[.int .i64 710] (.int .u64 ((ofV 710 : Nat) : Int))) := Lib.hid (n_c (710) (by decide) (by decide))
    have G2 : Hid (All 16 #[.int .u64 ((x : Nat) : Int), .int .u64 ((ofV 710 : Nat) : Int)] (.bool true)) := by rw [← h1]; exact Lib.hid (above_c (x) (ofV 710) (by simp (config := {maxDischargeDepth := 12}) only [WQ, hx]) (by simp (config := {maxDischargeDepth := 12}) only [WQ, hx]))
    exact exp_hi G0 G1 G2
  have h1 := Bool.eq_false_iff.2 h1
  by_cases h2 : belowV x (ofV (-746)) = true
  · rw [show expV x = 0 by simp [expV, n1, h1, h2]]
    have G0 : Hid (All 11 #[.int .u64 ((x : Nat) : Int)] (.bool false)) := by rw [← n1]; exact Lib.hid (knan_c (x) (by simp (config := {maxDischargeDepth := 12}) only [WQ, hx]))
    have G1 : Hid (All 25 #[.int .i64 710] (.int .u64 ((ofV 710 : Nat) : Int))) := Lib.hid (n_c (710) (by decide) (by decide))
    have G2 : Hid (All 16 #[.int .u64 ((x : Nat) : Int), .int .u64 ((ofV 710 : Nat) : Int)] (.bool false)) := by rw [← h1]; exact Lib.hid (above_c (x) (ofV 710) (by simp (config := {maxDischargeDepth := 12}) only [WQ, hx]) (by simp (config := {maxDischargeDepth := 12}) only [WQ, hx]))
    have G3 : Hid (All 25 #[.int .i64 (-746)] (.int .u64 ((ofV (-746) : Nat) : Int))) := Lib.hid (n_c ((-746)) (by decide) (by decide))
    have G4 : Hid (All 26 #[.int .u64 ((x : Nat) : Int), .int .u64 ((ofV (-746) : Nat) : Int)] (.bool true)) := by rw [← h2]; exact Lib.hid (below_c (x) (ofV (-746)) (by simp (config := {maxDischargeDepth := 12}) only [WQ, hx]) (by simp (config := {maxDischargeDepth := 12}) only [WQ, hx]))
    exact exp_lo G0 G1 G2 G3 G4
  have h2 := Bool.eq_false_iff.2 h2
  rw [show expV x = expF x by simp [expV, n1, h1, h2]]
  have G0 : Hid (All 11 #[.int .u64 ((x : Nat) : Int)] (.bool false)) := by rw [← n1]; exact Lib.hid (knan_c (x) (by simp (config := {maxDischargeDepth := 12}) only [WQ, hx]))
  have G1 : Hid (All 25 #[.int .i64 710] (.int .u64 ((ofV 710 : Nat) : Int))) := Lib.hid (n_c (710) (by decide) (by decide))
  have G2 : Hid (All 16 #[.int .u64 ((x : Nat) : Int), .int .u64 ((ofV 710 : Nat) : Int)] (.bool false)) := by rw [← h1]; exact Lib.hid (above_c (x) (ofV 710) (by simp (config := {maxDischargeDepth := 12}) only [WQ, hx]) (by simp (config := {maxDischargeDepth := 12}) only [WQ, hx]))
  have G3 : Hid (All 25 #[.int .i64 (-746)] (.int .u64 ((ofV (-746) : Nat) : Int))) := Lib.hid (n_c ((-746)) (by decide) (by decide))
  have G4 : Hid (All 26 #[.int .u64 ((x : Nat) : Int), .int .u64 ((ofV (-746) : Nat) : Int)] (.bool false)) := by rw [← h2]; exact Lib.hid (below_c (x) (ofV (-746)) (by simp (config := {maxDischargeDepth := 12}) only [WQ, hx]) (by simp (config := {maxDischargeDepth := 12}) only [WQ, hx]))
  have G5 : Hid (All 20 #[.int .u64 ((x : Nat) : Int), .int .u64 4609176140021203710] (.int .u64 ((mulV x 4609176140021203710 : Nat) : Int))) := Lib.hid (mul_c (x) 4609176140021203710 (by simp (config := {maxDischargeDepth := 12}) only [WQ, hx]) (by simp (config := {maxDischargeDepth := 12}) only [WQ, hx]))
  have G6 : Hid (All 27 #[.int .u64 ((mulV x 4609176140021203710 : Nat) : Int)] (.int .u64 ((expK x : Nat) : Int))) := Lib.hid (rnd_c (mulV x 4609176140021203710) (by simp (config := {maxDischargeDepth := 12}) only [WQ, hx]))
  have G7 : Hid (All 20 #[.int .u64 ((expK x : Nat) : Int), .int .u64 4604418534311723008] (.int .u64 ((mulV (expK x) 4604418534311723008 : Nat) : Int))) := Lib.hid (mul_c (expK x) 4604418534311723008 (by simp (config := {maxDischargeDepth := 12}) only [WQ, hx]) (by simp (config := {maxDischargeDepth := 12}) only [WQ, hx]))
  have G8 : Hid (All 24 #[.int .u64 ((x : Nat) : Int), .int .u64 ((mulV (expK x) 4604418534311723008 : Nat) : Int)] (.int .u64 ((subV x (mulV (expK x) 4604418534311723008) : Nat) : Int))) := Lib.hid (sub_c (x) (mulV (expK x) 4604418534311723008) (by simp (config := {maxDischargeDepth := 12}) only [WQ, hx]) (by simp (config := {maxDischargeDepth := 12}) only [WQ, hx]))
  have G9 : Hid (All 20 #[.int .u64 ((expK x : Nat) : Int), .int .u64 4461442080421002358] (.int .u64 ((mulV (expK x) 4461442080421002358 : Nat) : Int))) := Lib.hid (mul_c (expK x) 4461442080421002358 (by simp (config := {maxDischargeDepth := 12}) only [WQ, hx]) (by simp (config := {maxDischargeDepth := 12}) only [WQ, hx]))
  have G10 : Hid (All 24 #[.int .u64 ((subV x (mulV (expK x) 4604418534311723008) : Nat) : Int), .int .u64 ((mulV (expK x) 4461442080421002358 : Nat) : Int)] (.int .u64 ((expR x : Nat) : Int))) := Lib.hid (sub_c (subV x (mulV (expK x) 4604418534311723008)) (mulV (expK x) 4461442080421002358) (by simp (config := {maxDischargeDepth := 12}) only [WQ, hx]) (by simp (config := {maxDischargeDepth := 12}) only [WQ, hx]))
  have G11 : Hid (∀ ad : Addr, AllC [(ad, .int .u64 ((expR x : Nat) : Int))] 21 #[.int .u64 4607182418800017408, .int .i64 13, .int .i64 1, .func (.func 28) #[] #[.pointer (some ad)]] (.int .u64 ((expP (expR x) : Nat) : Int))) := Lib.hid (exps_c (expR x) (W_expR hx))
  have G12 : Hid (All 30 #[.int .u64 ((expK x : Nat) : Int)] (.int .i64 ((toLo (expK x))))) := Lib.hid (cell_c (expK x) (by simp (config := {maxDischargeDepth := 12}) only [WQ, hx]))
  have G13 : Hid (All 29 #[.int .u64 ((expP (expR x) : Nat) : Int), .int .i64 ((toLo (expK x)))] (.int .u64 ((expF x : Nat) : Int))) := Lib.hid (scale_c (expP (expR x)) (((toLo (expK x)))) (by simp (config := {maxDischargeDepth := 12}) only [WQ, hx]))
  exact exp_f G0 G1 G2 G3 G4 G5 G6 G7 G8 G9 G10 G11 G12 G13
theorem signed_c (t x : Nat) (ht : W t) (hx : W x) : All 14 #[.int .u64 (t : Int), .int .u64 (x : Int)] (.int .u64 ((signedV t x : Nat) : Int)) := by
  have hb := band_sign hx
  unfold signedV
  by_cases h : ng x = true
  · rw [if_pos h] at hb; rw [if_pos h]
    exact signed_t hb (Lib.hid (all_of (neg_c t ht)))
  · rw [if_neg h] at hb; rw [if_neg h]
    exact signed_f hb
theorem odd_v {k : Int} (k1 : 0 ≤ k) (k2 : k ≤ 100) : IntKind.i64.wrap (IntKind.i64.wrap (2 * k) + 1) = 2 * k + 1 := by
  simp only [IntKind.wrap_i64]; omega
theorem atan1_c (z : Nat) (hz : W z) (ad : Addr) (k : Int) (k1 : 0 ≤ k) (k2 : k ≤ 10) (p : Nat) (hp : W p) :
    AllC [(ad, .int .u64 (z : Int))] 23 #[.int .i64 k, .int .u64 (p : Int), .pointer (some ad)] (.int .u64 ((atStep z k p : Nat) : Int)) :=
  atan1_s ad (odd_v k1 (by omega)) (Lib.hid (inv_c (2 * k + 1) (by omega) (by omega))) (Lib.hid (mul_c z p hz hp)) (Lib.hid (sub_c (invV (2 * k + 1)) (mulV z p) W_invV (W_mulV _ _)))
theorem atans_c (z : Nat) (hz : W z) (ad : Addr) :
    AllC [(ad, .int .u64 (z : Int))] 21 #[.int .u64 ((invV 23 : Nat) : Int), .int .i64 10, .int .i64 0, .func (.func 23) #[] #[.pointer (some ad)]] (.int .u64 ((atP z : Nat) : Int)) :=
  sumUp_c _ (enters_of Try.func23 (by kernel_rfl) rfl) _ _ (atStep z) 10 0 (by decide) (by decide) (by decide) 11 (by decide) (invV 23) W_invV _ rfl _ rfl (fun _ _ _ => W_atStep)
    (fun k k1 k2 p hp => atan1_c z hz ad k k1 k2 p hp)
theorem ln1_c (z : Nat) (hz : W z) (ad : Addr) (k : Int) (k1 : 0 ≤ k) (k2 : k ≤ 9) (p : Nat) (hp : W p) :
    AllC [(ad, .int .u64 (z : Int))] 54 #[.int .i64 k, .int .u64 (p : Int), .pointer (some ad)] (.int .u64 ((lnStep z k p : Nat) : Int)) :=
  ln1_s ad (odd_v k1 (by omega)) (Lib.hid (inv_c (2 * k + 1) (by omega) (by omega))) (Lib.hid (mul_c z p hz hp)) (Lib.hid (add_c (invV (2 * k + 1)) (mulV z p) W_invV (W_mulV _ _)))
theorem lns_c (z : Nat) (hz : W z) (ad : Addr) :
    AllC [(ad, .int .u64 (z : Int))] 21 #[.int .u64 ((invV 21 : Nat) : Int), .int .i64 9, .int .i64 0, .func (.func 54) #[] #[.pointer (some ad)]] (.int .u64 ((lnP z : Nat) : Int)) :=
  sumUp_c _ (enters_of Try.func54 (by kernel_rfl) rfl) _ _ (lnStep z) 9 0 (by decide) (by decide) (by decide) 10 (by decide) (invV 21) W_invV _ rfl _ rfl (fun _ _ _ => W_lnStep)
    (fun k k1 k2 p hp => ln1_c z hz ad k k1 k2 p hp)
theorem atan_c (x : Nat) (hx : W x) : All 4 #[.int .u64 ((x : Nat) : Int)] (.int .u64 ((atanV x : Nat) : Int)) := by
  by_cases n1 : nan x = true
  · rw [show atanV x = NaN by simp [atanV, n1]]
    have G0 : Hid (All 11 #[.int .u64 ((x : Nat) : Int)] (.bool true)) := by rw [← n1]; exact Lib.hid (knan_c (x) (by simp (config := {maxDischargeDepth := 12}) only [WQ, hx]))
    exact atan_n G0
  have n1 := Bool.eq_false_iff.2 n1
  by_cases z1 : zer x = true
  · rw [show atanV x = x by simp [atanV, n1, z1]]
    have G0 : Hid (All 11 #[.int .u64 ((x : Nat) : Int)] (.bool false)) := by rw [← n1]; exact Lib.hid (knan_c (x) (by simp (config := {maxDischargeDepth := 12}) only [WQ, hx]))
    have G1 : Hid (All 12 #[.int .u64 ((x : Nat) : Int)] (.bool true)) := by rw [← z1]; exact Lib.hid (kzero_c (x) (by simp (config := {maxDischargeDepth := 12}) only [WQ, hx]))
    exact atan_z G0 G1
  have z1 := Bool.eq_false_iff.2 z1
  by_cases i1 : inf x = true
  · rw [show atanV x = signedV HalfPi x by simp [atanV, n1, z1, i1]]
    have G0 : Hid (All 11 #[.int .u64 ((x : Nat) : Int)] (.bool false)) := by rw [← n1]; exact Lib.hid (knan_c (x) (by simp (config := {maxDischargeDepth := 12}) only [WQ, hx]))
    have G1 : Hid (All 12 #[.int .u64 ((x : Nat) : Int)] (.bool false)) := by rw [← z1]; exact Lib.hid (kzero_c (x) (by simp (config := {maxDischargeDepth := 12}) only [WQ, hx]))
    have G2 : Hid (All 13 #[.int .u64 ((x : Nat) : Int)] (.bool true)) := by rw [← i1]; exact Lib.hid (kinf_c (x) (by simp (config := {maxDischargeDepth := 12}) only [WQ, hx]))
    have G3 : Hid (All 14 #[.int .u64 4609753056924675352, .int .u64 ((x : Nat) : Int)] (.int .u64 ((signedV HalfPi x : Nat) : Int))) := Lib.hid (signed_c 4609753056924675352 (x) (by simp (config := {maxDischargeDepth := 12}) only [WQ, hx]) (by simp (config := {maxDischargeDepth := 12}) only [WQ, hx]))
    exact atan_i G0 G1 G2 G3
  have i1 := Bool.eq_false_iff.2 i1
  by_cases g1 : belowV SF.One (absV x) = true
  · rw [show atanV x = atanG x by simp [atanV, n1, z1, i1, g1]]
    have G0 : Hid (All 11 #[.int .u64 ((x : Nat) : Int)] (.bool false)) := by rw [← n1]; exact Lib.hid (knan_c (x) (by simp (config := {maxDischargeDepth := 12}) only [WQ, hx]))
    have G1 : Hid (All 12 #[.int .u64 ((x : Nat) : Int)] (.bool false)) := by rw [← z1]; exact Lib.hid (kzero_c (x) (by simp (config := {maxDischargeDepth := 12}) only [WQ, hx]))
    have G2 : Hid (All 13 #[.int .u64 ((x : Nat) : Int)] (.bool false)) := by rw [← i1]; exact Lib.hid (kinf_c (x) (by simp (config := {maxDischargeDepth := 12}) only [WQ, hx]))
    have G3 : Hid (All 15 #[.int .u64 ((x : Nat) : Int)] (.int .u64 ((absV x : Nat) : Int))) := Lib.hid (all_of (abs_c (x) (by simp (config := {maxDischargeDepth := 12}) only [WQ, hx])))
    have G4 : Hid (All 16 #[.int .u64 ((absV x : Nat) : Int), .int .u64 4607182418800017408] (.bool true)) := by rw [← g1]; exact Lib.hid (above_c (absV x) 4607182418800017408 (by simp (config := {maxDischargeDepth := 12}) only [WQ, hx]) (by simp (config := {maxDischargeDepth := 12}) only [WQ, hx]))
    have G5 : Hid (All 17 #[.int .u64 4607182418800017408, .int .u64 ((absV x : Nat) : Int)] (.int .u64 ((divV SF.One (absV x) : Nat) : Int))) := Lib.hid (div_c 4607182418800017408 (absV x) (by simp (config := {maxDischargeDepth := 12}) only [WQ, hx]) (by simp (config := {maxDischargeDepth := 12}) only [WQ, hx]))
    have G6 : Hid (All 20 #[.int .u64 ((atB (atB (divV SF.One (absV x))) : Nat) : Int), .int .u64 ((atB (atB (divV SF.One (absV x))) : Nat) : Int)] (.int .u64 ((mulV (atB (atB (divV SF.One (absV x)))) (atB (atB (divV SF.One (absV x)))) : Nat) : Int))) := Lib.hid (mul_c (atB (atB (divV SF.One (absV x)))) (atB (atB (divV SF.One (absV x)))) (by simp (config := {maxDischargeDepth := 12}) only [WQ, hx]) (by simp (config := {maxDischargeDepth := 12}) only [WQ, hx]))
    have G7 : Hid (All 22 #[.int .i64 23] (.int .u64 ((invV 23 : Nat) : Int))) := Lib.hid (inv_c (23) (by omega) (by omega))
    have G8 : Hid (∀ ad : Addr, AllC [(ad, .int .u64 ((mulV (atB (atB (divV SF.One (absV x)))) (atB (atB (divV SF.One (absV x)))) : Nat) : Int))] 21 #[.int .u64 ((invV 23 : Nat) : Int), .int .i64 10, .int .i64 0, .func (.func 23) #[] #[.pointer (some ad)]] (.int .u64 ((atP (mulV (atB (atB (divV SF.One (absV x)))) (atB (atB (divV SF.One (absV x))))) : Nat) : Int))) := Lib.hid (atans_c (mulV (atB (atB (divV SF.One (absV x)))) (atB (atB (divV SF.One (absV x))))) (by simp (config := {maxDischargeDepth := 12}) only [WQ, hx]))
    have G9 : Hid (All 25 #[.int .i64 4] (.int .u64 ((ofV 4 : Nat) : Int))) := Lib.hid (n_c (4) (by decide) (by decide))
    have G10 : Hid (All 20 #[.int .u64 ((atB (atB (divV SF.One (absV x))) : Nat) : Int), .int .u64 ((atP (mulV (atB (atB (divV SF.One (absV x)))) (atB (atB (divV SF.One (absV x))))) : Nat) : Int)] (.int .u64 ((mulV (atB (atB (divV SF.One (absV x)))) (atP (mulV (atB (atB (divV SF.One (absV x)))) (atB (atB (divV SF.One (absV x)))))) : Nat) : Int))) := Lib.hid (mul_c (atB (atB (divV SF.One (absV x)))) (atP (mulV (atB (atB (divV SF.One (absV x)))) (atB (atB (divV SF.One (absV x)))))) (by simp (config := {maxDischargeDepth := 12}) only [WQ, hx]) (by simp (config := {maxDischargeDepth := 12}) only [WQ, hx]))
    have G11 : Hid (All 20 #[.int .u64 ((ofV 4 : Nat) : Int), .int .u64 ((mulV (atB (atB (divV SF.One (absV x)))) (atP (mulV (atB (atB (divV SF.One (absV x)))) (atB (atB (divV SF.One (absV x)))))) : Nat) : Int)] (.int .u64 ((atT (atB (atB (divV SF.One (absV x)))) : Nat) : Int))) := Lib.hid (mul_c (ofV 4) (mulV (atB (atB (divV SF.One (absV x)))) (atP (mulV (atB (atB (divV SF.One (absV x)))) (atB (atB (divV SF.One (absV x))))))) (by simp (config := {maxDischargeDepth := 12}) only [WQ, hx]) (by simp (config := {maxDischargeDepth := 12}) only [WQ, hx]))
    have G12 : Hid (All 24 #[.int .u64 4609753056924675352, .int .u64 ((atT (atB (atB (divV SF.One (absV x)))) : Nat) : Int)] (.int .u64 ((subV HalfPi (atT (atB (atB (divV SF.One (absV x))))) : Nat) : Int))) := Lib.hid (sub_c 4609753056924675352 (atT (atB (atB (divV SF.One (absV x))))) (by simp (config := {maxDischargeDepth := 12}) only [WQ, hx]) (by simp (config := {maxDischargeDepth := 12}) only [WQ, hx]))
    have G13 : Hid (All 14 #[.int .u64 ((subV HalfPi (atT (atB (atB (divV SF.One (absV x))))) : Nat) : Int), .int .u64 ((x : Nat) : Int)] (.int .u64 ((atanG x : Nat) : Int))) := Lib.hid (signed_c (subV HalfPi (atT (atB (atB (divV SF.One (absV x)))))) (x) (by simp (config := {maxDischargeDepth := 12}) only [WQ, hx]) (by simp (config := {maxDischargeDepth := 12}) only [WQ, hx]))
    exact atan_g (B := (fun k : Int => if k = 0 then ((divV SF.One (absV x) : Nat) : Int) else if k = 1 then ((atB (divV SF.One (absV x)) : Nat) : Int) else ((atB (atB (divV SF.One (absV x))) : Nat) : Int))) G0 G1 G2 G3 G4 G5 G6 G7 G8 G9 G10 G11 G12 G13
      (Lib.hid (fun k k1 k2 => by
        have e : k = 0 ∨ k = 1 := by omega
        rcases e with rfl | rfl
        · exact ⟨_, _, _, _, Lib.hid (mul_c (divV SF.One (absV x)) (divV SF.One (absV x)) (by simp (config := {maxDischargeDepth := 12}) only [WQ, hx]) (by simp (config := {maxDischargeDepth := 12}) only [WQ, hx])), Lib.hid (add_c SF.One (mulV (divV SF.One (absV x)) (divV SF.One (absV x))) (by simp (config := {maxDischargeDepth := 12}) only [WQ, hx]) (by simp (config := {maxDischargeDepth := 12}) only [WQ, hx])), Lib.hid (sqrt_c (addV SF.One (mulV (divV SF.One (absV x)) (divV SF.One (absV x)))) (by simp (config := {maxDischargeDepth := 12}) only [WQ, hx])), Lib.hid (add_c SF.One (sqrtV (addV SF.One (mulV (divV SF.One (absV x)) (divV SF.One (absV x))))) (by simp (config := {maxDischargeDepth := 12}) only [WQ, hx]) (by simp (config := {maxDischargeDepth := 12}) only [WQ, hx])), Lib.hid (div_c (divV SF.One (absV x)) (addV SF.One (sqrtV (addV SF.One (mulV (divV SF.One (absV x)) (divV SF.One (absV x)))))) (by simp (config := {maxDischargeDepth := 12}) only [WQ, hx]) (by simp (config := {maxDischargeDepth := 12}) only [WQ, hx]))⟩
        · exact ⟨_, _, _, _, Lib.hid (mul_c (atB (divV SF.One (absV x))) (atB (divV SF.One (absV x))) (by simp (config := {maxDischargeDepth := 12}) only [WQ, hx]) (by simp (config := {maxDischargeDepth := 12}) only [WQ, hx])), Lib.hid (add_c SF.One (mulV (atB (divV SF.One (absV x))) (atB (divV SF.One (absV x)))) (by simp (config := {maxDischargeDepth := 12}) only [WQ, hx]) (by simp (config := {maxDischargeDepth := 12}) only [WQ, hx])), Lib.hid (sqrt_c (addV SF.One (mulV (atB (divV SF.One (absV x))) (atB (divV SF.One (absV x))))) (by simp (config := {maxDischargeDepth := 12}) only [WQ, hx])), Lib.hid (add_c SF.One (sqrtV (addV SF.One (mulV (atB (divV SF.One (absV x))) (atB (divV SF.One (absV x)))))) (by simp (config := {maxDischargeDepth := 12}) only [WQ, hx]) (by simp (config := {maxDischargeDepth := 12}) only [WQ, hx])), Lib.hid (div_c (atB (divV SF.One (absV x))) (addV SF.One (sqrtV (addV SF.One (mulV (atB (divV SF.One (absV x))) (atB (divV SF.One (absV x))))))) (by simp (config := {maxDischargeDepth := 12}) only [WQ, hx]) (by simp (config := {maxDischargeDepth := 12}) only [WQ, hx]))⟩)) rfl rfl
  have g1 := Bool.eq_false_iff.2 g1
  rw [show atanV x = atanS x by simp [atanV, n1, z1, i1, g1]]
  have G0 : Hid (All 11 #[.int .u64 ((x : Nat) : Int)] (.bool false)) := by rw [← n1]; exact Lib.hid (knan_c (x) (by simp (config := {maxDischargeDepth := 12}) only [WQ, hx]))
  have G1 : Hid (All 12 #[.int .u64 ((x : Nat) : Int)] (.bool false)) := by rw [← z1]; exact Lib.hid (kzero_c (x) (by simp (config := {maxDischargeDepth := 12}) only [WQ, hx]))
  have G2 : Hid (All 13 #[.int .u64 ((x : Nat) : Int)] (.bool false)) := by rw [← i1]; exact Lib.hid (kinf_c (x) (by simp (config := {maxDischargeDepth := 12}) only [WQ, hx]))
  have G3 : Hid (All 15 #[.int .u64 ((x : Nat) : Int)] (.int .u64 ((absV x : Nat) : Int))) := Lib.hid (all_of (abs_c (x) (by simp (config := {maxDischargeDepth := 12}) only [WQ, hx])))
  have G4 : Hid (All 16 #[.int .u64 ((absV x : Nat) : Int), .int .u64 4607182418800017408] (.bool false)) := by rw [← g1]; exact Lib.hid (above_c (absV x) 4607182418800017408 (by simp (config := {maxDischargeDepth := 12}) only [WQ, hx]) (by simp (config := {maxDischargeDepth := 12}) only [WQ, hx]))
  have G5 : Hid (All 20 #[.int .u64 ((atB (atB (absV x)) : Nat) : Int), .int .u64 ((atB (atB (absV x)) : Nat) : Int)] (.int .u64 ((mulV (atB (atB (absV x))) (atB (atB (absV x))) : Nat) : Int))) := Lib.hid (mul_c (atB (atB (absV x))) (atB (atB (absV x))) (by simp (config := {maxDischargeDepth := 12}) only [WQ, hx]) (by simp (config := {maxDischargeDepth := 12}) only [WQ, hx]))
  have G6 : Hid (All 22 #[.int .i64 23] (.int .u64 ((invV 23 : Nat) : Int))) := Lib.hid (inv_c (23) (by omega) (by omega))
  have G7 : Hid (∀ ad : Addr, AllC [(ad, .int .u64 ((mulV (atB (atB (absV x))) (atB (atB (absV x))) : Nat) : Int))] 21 #[.int .u64 ((invV 23 : Nat) : Int), .int .i64 10, .int .i64 0, .func (.func 23) #[] #[.pointer (some ad)]] (.int .u64 ((atP (mulV (atB (atB (absV x))) (atB (atB (absV x)))) : Nat) : Int))) := Lib.hid (atans_c (mulV (atB (atB (absV x))) (atB (atB (absV x)))) (by simp (config := {maxDischargeDepth := 12}) only [WQ, hx]))
  have G8 : Hid (All 25 #[.int .i64 4] (.int .u64 ((ofV 4 : Nat) : Int))) := Lib.hid (n_c (4) (by decide) (by decide))
  have G9 : Hid (All 20 #[.int .u64 ((atB (atB (absV x)) : Nat) : Int), .int .u64 ((atP (mulV (atB (atB (absV x))) (atB (atB (absV x)))) : Nat) : Int)] (.int .u64 ((mulV (atB (atB (absV x))) (atP (mulV (atB (atB (absV x))) (atB (atB (absV x))))) : Nat) : Int))) := Lib.hid (mul_c (atB (atB (absV x))) (atP (mulV (atB (atB (absV x))) (atB (atB (absV x))))) (by simp (config := {maxDischargeDepth := 12}) only [WQ, hx]) (by simp (config := {maxDischargeDepth := 12}) only [WQ, hx]))
  have G10 : Hid (All 20 #[.int .u64 ((ofV 4 : Nat) : Int), .int .u64 ((mulV (atB (atB (absV x))) (atP (mulV (atB (atB (absV x))) (atB (atB (absV x))))) : Nat) : Int)] (.int .u64 ((atT (atB (atB (absV x))) : Nat) : Int))) := Lib.hid (mul_c (ofV 4) (mulV (atB (atB (absV x))) (atP (mulV (atB (atB (absV x))) (atB (atB (absV x)))))) (by simp (config := {maxDischargeDepth := 12}) only [WQ, hx]) (by simp (config := {maxDischargeDepth := 12}) only [WQ, hx]))
  have G11 : Hid (All 14 #[.int .u64 ((atT (atB (atB (absV x))) : Nat) : Int), .int .u64 ((x : Nat) : Int)] (.int .u64 ((atanS x : Nat) : Int))) := Lib.hid (signed_c (atT (atB (atB (absV x)))) (x) (by simp (config := {maxDischargeDepth := 12}) only [WQ, hx]) (by simp (config := {maxDischargeDepth := 12}) only [WQ, hx]))
  exact atan_s (B := (fun k : Int => if k = 0 then ((absV x : Nat) : Int) else if k = 1 then ((atB (absV x) : Nat) : Int) else ((atB (atB (absV x)) : Nat) : Int))) G0 G1 G2 G3 G4 G5 G6 G7 G8 G9 G10 G11
    (Lib.hid (fun k k1 k2 => by
      have e : k = 0 ∨ k = 1 := by omega
      rcases e with rfl | rfl
      · exact ⟨_, _, _, _, Lib.hid (mul_c (absV x) (absV x) (by simp (config := {maxDischargeDepth := 12}) only [WQ, hx]) (by simp (config := {maxDischargeDepth := 12}) only [WQ, hx])), Lib.hid (add_c SF.One (mulV (absV x) (absV x)) (by simp (config := {maxDischargeDepth := 12}) only [WQ, hx]) (by simp (config := {maxDischargeDepth := 12}) only [WQ, hx])), Lib.hid (sqrt_c (addV SF.One (mulV (absV x) (absV x))) (by simp (config := {maxDischargeDepth := 12}) only [WQ, hx])), Lib.hid (add_c SF.One (sqrtV (addV SF.One (mulV (absV x) (absV x)))) (by simp (config := {maxDischargeDepth := 12}) only [WQ, hx]) (by simp (config := {maxDischargeDepth := 12}) only [WQ, hx])), Lib.hid (div_c (absV x) (addV SF.One (sqrtV (addV SF.One (mulV (absV x) (absV x))))) (by simp (config := {maxDischargeDepth := 12}) only [WQ, hx]) (by simp (config := {maxDischargeDepth := 12}) only [WQ, hx]))⟩
      · exact ⟨_, _, _, _, Lib.hid (mul_c (atB (absV x)) (atB (absV x)) (by simp (config := {maxDischargeDepth := 12}) only [WQ, hx]) (by simp (config := {maxDischargeDepth := 12}) only [WQ, hx])), Lib.hid (add_c SF.One (mulV (atB (absV x)) (atB (absV x))) (by simp (config := {maxDischargeDepth := 12}) only [WQ, hx]) (by simp (config := {maxDischargeDepth := 12}) only [WQ, hx])), Lib.hid (sqrt_c (addV SF.One (mulV (atB (absV x)) (atB (absV x)))) (by simp (config := {maxDischargeDepth := 12}) only [WQ, hx])), Lib.hid (add_c SF.One (sqrtV (addV SF.One (mulV (atB (absV x)) (atB (absV x))))) (by simp (config := {maxDischargeDepth := 12}) only [WQ, hx]) (by simp (config := {maxDischargeDepth := 12}) only [WQ, hx])), Lib.hid (div_c (atB (absV x)) (addV SF.One (sqrtV (addV SF.One (mulV (atB (absV x)) (atB (absV x)))))) (by simp (config := {maxDischargeDepth := 12}) only [WQ, hx]) (by simp (config := {maxDischargeDepth := 12}) only [WQ, hx]))⟩)) rfl rfl
theorem asin_c (x : Nat) (hx : W x) : All 9 #[.int .u64 ((x : Nat) : Int)] (.int .u64 ((asinV x : Nat) : Int)) := by
  by_cases n1 : nan x = true
  · rw [show asinV x = NaN by simp [asinV, n1]]
    have G0 : Hid (All 15 #[.int .u64 ((x : Nat) : Int)] (.int .u64 ((absV x : Nat) : Int))) := Lib.hid (all_of (abs_c (x) (by simp (config := {maxDischargeDepth := 12}) only [WQ, hx])))
    have G1 : Hid (All 11 #[.int .u64 ((x : Nat) : Int)] (.bool true)) := by rw [← n1]; exact Lib.hid (knan_c (x) (by simp (config := {maxDischargeDepth := 12}) only [WQ, hx]))
    exact asin_n G0 G1
  have n1 := Bool.eq_false_iff.2 n1
  by_cases g1 : belowV SF.One (absV x) = true
  · rw [show asinV x = NaN by simp [asinV, n1, g1]]
    have G0 : Hid (All 15 #[.int .u64 ((x : Nat) : Int)] (.int .u64 ((absV x : Nat) : Int))) := Lib.hid (all_of (abs_c (x) (by simp (config := {maxDischargeDepth := 12}) only [WQ, hx])))
    have G1 : Hid (All 11 #[.int .u64 ((x : Nat) : Int)] (.bool false)) := by rw [← n1]; exact Lib.hid (knan_c (x) (by simp (config := {maxDischargeDepth := 12}) only [WQ, hx]))
    have G2 : Hid (All 16 #[.int .u64 ((absV x : Nat) : Int), .int .u64 4607182418800017408] (.bool true)) := by rw [← g1]; exact Lib.hid (above_c (absV x) 4607182418800017408 (by simp (config := {maxDischargeDepth := 12}) only [WQ, hx]) (by simp (config := {maxDischargeDepth := 12}) only [WQ, hx]))
    exact asin_a G0 G1 G2
  have g1 := Bool.eq_false_iff.2 g1
  by_cases e1 : absV x = SF.One
  · have he : (((absV x : Nat) : Int) == 4607182418800017408) = true := by rw [e1]; rfl
    rw [show asinV x = signedV HalfPi x by unfold asinV; rw [if_neg (by rw [n1]; decide), if_neg (by rw [g1]; decide), if_pos e1]]
    have G0 : Hid (All 15 #[.int .u64 ((x : Nat) : Int)] (.int .u64 ((absV x : Nat) : Int))) := Lib.hid (all_of (abs_c (x) (by simp (config := {maxDischargeDepth := 12}) only [WQ, hx])))
    have G1 : Hid (All 11 #[.int .u64 ((x : Nat) : Int)] (.bool false)) := by rw [← n1]; exact Lib.hid (knan_c (x) (by simp (config := {maxDischargeDepth := 12}) only [WQ, hx]))
    have G2 : Hid (All 16 #[.int .u64 ((absV x : Nat) : Int), .int .u64 4607182418800017408] (.bool false)) := by rw [← g1]; exact Lib.hid (above_c (absV x) 4607182418800017408 (by simp (config := {maxDischargeDepth := 12}) only [WQ, hx]) (by simp (config := {maxDischargeDepth := 12}) only [WQ, hx]))
    have G3 : Hid (All 14 #[.int .u64 4609753056924675352, .int .u64 ((x : Nat) : Int)] (.int .u64 ((signedV HalfPi x : Nat) : Int))) := Lib.hid (signed_c 4609753056924675352 (x) (by simp (config := {maxDischargeDepth := 12}) only [WQ, hx]) (by simp (config := {maxDischargeDepth := 12}) only [WQ, hx]))
    exact asin_1 he G0 G1 G2 G3
  have he : (((absV x : Nat) : Int) == 4607182418800017408) = false := by
    rw [beq_eq_false_iff_ne]; intro h; exact e1 (by unfold SF.One; omega)
  rw [show asinV x = asinF x by simp [asinV, n1, g1, e1]]
  have G0 : Hid (All 15 #[.int .u64 ((x : Nat) : Int)] (.int .u64 ((absV x : Nat) : Int))) := Lib.hid (all_of (abs_c (x) (by simp (config := {maxDischargeDepth := 12}) only [WQ, hx])))
  have G1 : Hid (All 11 #[.int .u64 ((x : Nat) : Int)] (.bool false)) := by rw [← n1]; exact Lib.hid (knan_c (x) (by simp (config := {maxDischargeDepth := 12}) only [WQ, hx]))
  have G2 : Hid (All 16 #[.int .u64 ((absV x : Nat) : Int), .int .u64 4607182418800017408] (.bool false)) := by rw [← g1]; exact Lib.hid (above_c (absV x) 4607182418800017408 (by simp (config := {maxDischargeDepth := 12}) only [WQ, hx]) (by simp (config := {maxDischargeDepth := 12}) only [WQ, hx]))
  have G3 : Hid (All 24 #[.int .u64 4607182418800017408, .int .u64 ((x : Nat) : Int)] (.int .u64 ((subV SF.One x : Nat) : Int))) := Lib.hid (sub_c 4607182418800017408 (x) (by simp (config := {maxDischargeDepth := 12}) only [WQ, hx]) (by simp (config := {maxDischargeDepth := 12}) only [WQ, hx]))
  have G4 : Hid (All 18 #[.int .u64 4607182418800017408, .int .u64 ((x : Nat) : Int)] (.int .u64 ((addV SF.One x : Nat) : Int))) := Lib.hid (add_c 4607182418800017408 (x) (by simp (config := {maxDischargeDepth := 12}) only [WQ, hx]) (by simp (config := {maxDischargeDepth := 12}) only [WQ, hx]))
  have G5 : Hid (All 20 #[.int .u64 ((subV SF.One x : Nat) : Int), .int .u64 ((addV SF.One x : Nat) : Int)] (.int .u64 ((mulV (subV SF.One x) (addV SF.One x) : Nat) : Int))) := Lib.hid (mul_c (subV SF.One x) (addV SF.One x) (by simp (config := {maxDischargeDepth := 12}) only [WQ, hx]) (by simp (config := {maxDischargeDepth := 12}) only [WQ, hx]))
  have G6 : Hid (All 19 #[.int .u64 ((mulV (subV SF.One x) (addV SF.One x) : Nat) : Int)] (.int .u64 ((sqrtV (mulV (subV SF.One x) (addV SF.One x)) : Nat) : Int))) := Lib.hid (sqrt_c (mulV (subV SF.One x) (addV SF.One x)) (by simp (config := {maxDischargeDepth := 12}) only [WQ, hx]))
  have G7 : Hid (All 17 #[.int .u64 ((x : Nat) : Int), .int .u64 ((sqrtV (mulV (subV SF.One x) (addV SF.One x)) : Nat) : Int)] (.int .u64 ((divV x (sqrtV (mulV (subV SF.One x) (addV SF.One x))) : Nat) : Int))) := Lib.hid (div_c (x) (sqrtV (mulV (subV SF.One x) (addV SF.One x))) (by simp (config := {maxDischargeDepth := 12}) only [WQ, hx]) (by simp (config := {maxDischargeDepth := 12}) only [WQ, hx]))
  have G8 : Hid (All 4 #[.int .u64 ((divV x (sqrtV (mulV (subV SF.One x) (addV SF.One x))) : Nat) : Int)] (.int .u64 ((asinF x : Nat) : Int))) := Lib.hid (atan_c (divV x (sqrtV (mulV (subV SF.One x) (addV SF.One x)))) (by simp (config := {maxDischargeDepth := 12}) only [WQ, hx]))
  exact asin_f he G0 G1 G2 G3 G4 G5 G6 G7 G8
theorem psplits_c (x : Nat) (hx : W x) (h1 : nan x = false) (h2 : inf x = false) (h3 : ng x = false) (w : World) :
    Calls Try.prog 52 #[.int .u64 (x : Int)] w fun e' w' => ∃ b n c, e' = .returned (.tuple #[.bool false, .slice b n c, .int .i64 (se x), .bool true]) ∧ Rd w' .u32 (.slice b n c) (ws (sm x)) ∧ Below w.heap.size w w' := by
  have := psplit_c x hx h1 h2 w
  rw [h3] at this
  exact this
theorem ws_last {m : Nat} (h : m ≠ 0) : ∀ k, k + 1 = (ws m).length → 32 * k + bl ((ws m).getD k 0).toNat = bl m := by
  intro k hk
  have := (bl_words h).1
  rw [← hk, Nat.add_sub_cancel] at this
  exact this.symm
theorem bl_half : ∀ u : Int, 0 < u → u < 4294967296 → bl u.toNat = bl (u / 2).toNat + 1 := by
  intro u h1 h2
  obtain ⟨n, rfl⟩ := Int.eq_ofNat_of_zero_le (Int.le_of_lt h1)
  rw [show ((n : Int) / 2).toNat = n / 2 by omega, Int.toNat_natCast]
  have n0 : n ≠ 0 := by omega
  have a1 := bl_lt (n / 2)
  have a2 := bl_le n0
  have a3 := bl_lt n
  have a4 := bl_pos n0
  have b1 : bl n ≤ bl (n / 2) + 1 := bl_le_of_lt (by rw [Nat.pow_succ]; omega)
  have b2 : bl (n / 2) ≤ bl n - 1 := bl_le_of_lt (by
    have : 2 ^ bl n = 2 ^ (bl n - 1) * 2 := by rw [← Nat.pow_succ]; congr 1; omega
    omega)
  omega
theorem bl_32 : ∀ u : Int, 0 ≤ u → u < 4294967296 → bl u.toNat ≤ 32 := fun u h1 h2 => bl_le_of_lt (by omega)
theorem pmakes_c (m : Nat) (hm : m < 9007199254740992) (w : World) (a : Option Addr) (n c : Nat) (hr : Rd w .u32 (.slice a n c) (ws m)) :
    Calls Try.prog 53 #[.bool false, .slice a n c, .int .i64 (1 - (bl m : Int))] w fun e' w' => e' = .returned (.int .u64 ((makeV false m (1 - (bl m : Int)) : Nat) : Int)) ∧ Below w.heap.size w w' := by
  have hb : bl m ≤ 53 := bl_le_of_lt (Nat.lt_of_lt_of_le hm (by decide))
  have hl : (ws m).length ≤ 2 := ws_len_le (by omega)
  have hn := hr.parts.1
  have h := pmake_c false a n c (ws m) (1 - (bl m : Int)) w hr (words_ws m) (by omega)
  rw [wv_ws] at h
  rw [show makeR false m (1 - (bl m : Int)) = makeV false m (1 - (bl m : Int)) from makeR_ok _ _ (by omega)] at h
  exact h
theorem below_ng {x : Nat} (h1 : nan x = false) (h2 : zer x = false) : belowV x 0 = ng x := by
  have hz : mag x ≠ 0 := by unfold zer at h2; exact of_decide_eq_false h2
  unfold belowV okV cmpV cmpI ordV
  rw [h1, show nan 0 = false by decide, show ng 0 = false by decide, show mag 0 = 0 by decide]
  cases hg : ng x
  · simp
    split
    · omega
    · split <;> omega
  · simp
    split
    · decide
    · omega
theorem ln_c (x : Nat) (hx : W x) : All 31 #[.int .u64 ((x : Nat) : Int)] (.int .u64 ((lnV x : Nat) : Int)) := by
  by_cases n1 : nan x = true
  · rw [show lnV x = NaN by simp [lnV, n1]]
    have G0 : Hid (All 11 #[.int .u64 ((x : Nat) : Int)] (.bool true)) := by rw [← n1]; exact Lib.hid (knan_c (x) (by simp (config := {maxDischargeDepth := 12}) only [WQ, hx]))
    exact ln_n G0
  have n1 := Bool.eq_false_iff.2 n1
  by_cases b1 : belowV x 0 = true
  · rw [show lnV x = NaN by simp [lnV, n1, b1]]
    have G0 : Hid (All 11 #[.int .u64 ((x : Nat) : Int)] (.bool false)) := by rw [← n1]; exact Lib.hid (knan_c (x) (by simp (config := {maxDischargeDepth := 12}) only [WQ, hx]))
    have G1 : Hid (All 26 #[.int .u64 ((x : Nat) : Int), .int .u64 0] (.bool true)) := by rw [← b1]; exact Lib.hid (below_c (x) 0 (by simp (config := {maxDischargeDepth := 12}) only [WQ, hx]) (by simp (config := {maxDischargeDepth := 12}) only [WQ, hx]))
    exact ln_m G0 G1
  have b1 := Bool.eq_false_iff.2 b1
  by_cases z1 : zer x = true
  · rw [show lnV x = negV 9218868437227405312 by simp [lnV, n1, b1, z1, Inf]]
    have G0 : Hid (All 11 #[.int .u64 ((x : Nat) : Int)] (.bool false)) := by rw [← n1]; exact Lib.hid (knan_c (x) (by simp (config := {maxDischargeDepth := 12}) only [WQ, hx]))
    have G1 : Hid (All 26 #[.int .u64 ((x : Nat) : Int), .int .u64 0] (.bool false)) := by rw [← b1]; exact Lib.hid (below_c (x) 0 (by simp (config := {maxDischargeDepth := 12}) only [WQ, hx]) (by simp (config := {maxDischargeDepth := 12}) only [WQ, hx]))
    have G2 : Hid (All 12 #[.int .u64 ((x : Nat) : Int)] (.bool true)) := by rw [← z1]; exact Lib.hid (kzero_c (x) (by simp (config := {maxDischargeDepth := 12}) only [WQ, hx]))
    have G3 : Hid (All 8 #[.int .u64 9218868437227405312] (.int .u64 ((negV 9218868437227405312 : Nat) : Int))) := Lib.hid (all_of (neg_c 9218868437227405312 (by simp (config := {maxDischargeDepth := 12}) only [WQ, hx])))
    exact ln_z G0 G1 G2 G3
  have z1 := Bool.eq_false_iff.2 z1
  by_cases i1 : inf x = true
  · rw [show lnV x = x by simp [lnV, n1, b1, z1, i1]]
    have G0 : Hid (All 11 #[.int .u64 ((x : Nat) : Int)] (.bool false)) := by rw [← n1]; exact Lib.hid (knan_c (x) (by simp (config := {maxDischargeDepth := 12}) only [WQ, hx]))
    have G1 : Hid (All 26 #[.int .u64 ((x : Nat) : Int), .int .u64 0] (.bool false)) := by rw [← b1]; exact Lib.hid (below_c (x) 0 (by simp (config := {maxDischargeDepth := 12}) only [WQ, hx]) (by simp (config := {maxDischargeDepth := 12}) only [WQ, hx]))
    have G2 : Hid (All 12 #[.int .u64 ((x : Nat) : Int)] (.bool false)) := by rw [← z1]; exact Lib.hid (kzero_c (x) (by simp (config := {maxDischargeDepth := 12}) only [WQ, hx]))
    have G3 : Hid (All 13 #[.int .u64 ((x : Nat) : Int)] (.bool true)) := by rw [← i1]; exact Lib.hid (kinf_c (x) (by simp (config := {maxDischargeDepth := 12}) only [WQ, hx]))
    exact ln_i G0 G1 G2 G3
  have i1 := Bool.eq_false_iff.2 i1
  rw [show lnV x = lnF x by simp [lnV, n1, b1, z1, i1]]
  have g1 : ng x = false := by rw [← below_ng n1 z1]; exact b1
  have m0 : sm x ≠ 0 := fun h => by rw [sm_zero.1 h] at z1; exact absurd z1 (by decide)
  have hb : bl (sm x) ≤ 64 := by have : bl (sm x) ≤ 53 := bl_le_of_lt (Nat.lt_of_lt_of_le (sm_lt x) (by decide)); omega
  have hl2 : (ws (sm x)).length ≤ 1000 := by rw [ws_length]; omega
  have hl1 := (bl_words m0).2.2
  have se1 : -3000 ≤ se x := by have := se_ge x; omega
  have se2 : se x ≤ 3000 := by have := se_le n1 i1; omega
  by_cases r1 : belowV Root2 (lnM x) = true
  · rw [show lnF x = lnT (divV (lnM x) (ofV 2)) (lnK x + 1) from if_pos r1]
    have G0 : Hid (All 11 #[.int .u64 ((x : Nat) : Int)] (.bool false)) := by rw [← n1]; exact Lib.hid (knan_c (x) (by simp (config := {maxDischargeDepth := 12}) only [WQ, hx]))
    have G1 : Hid (All 26 #[.int .u64 ((x : Nat) : Int), .int .u64 0] (.bool false)) := by rw [← b1]; exact Lib.hid (below_c (x) 0 (by simp (config := {maxDischargeDepth := 12}) only [WQ, hx]) (by simp (config := {maxDischargeDepth := 12}) only [WQ, hx]))
    have G2 : Hid (All 12 #[.int .u64 ((x : Nat) : Int)] (.bool false)) := by rw [← z1]; exact Lib.hid (kzero_c (x) (by simp (config := {maxDischargeDepth := 12}) only [WQ, hx]))
    have G3 : Hid (All 13 #[.int .u64 ((x : Nat) : Int)] (.bool false)) := by rw [← i1]; exact Lib.hid (kinf_c (x) (by simp (config := {maxDischargeDepth := 12}) only [WQ, hx]))
    have G4 : Hid (All 16 #[.int .u64 ((lnM x : Nat) : Int), .int .u64 4609047870845172685] (.bool true)) := by rw [← r1]; exact Lib.hid (above_c (lnM x) 4609047870845172685 (by simp (config := {maxDischargeDepth := 12}) only [WQ, hx]) (by simp (config := {maxDischargeDepth := 12}) only [WQ, hx]))
    have G5 : Hid (All 25 #[.int .i64 2] (.int .u64 ((ofV 2 : Nat) : Int))) := Lib.hid (n_c (2) (by decide) (by decide))
    have G6 : Hid (All 17 #[.int .u64 ((lnM x : Nat) : Int), .int .u64 ((ofV 2 : Nat) : Int)] (.int .u64 ((divV (lnM x) (ofV 2) : Nat) : Int))) := Lib.hid (div_c (lnM x) (ofV 2) (by simp (config := {maxDischargeDepth := 12}) only [WQ, hx]) (by simp (config := {maxDischargeDepth := 12}) only [WQ, hx]))
    have G7 : Hid (All 24 #[.int .u64 ((divV (lnM x) (ofV 2) : Nat) : Int), .int .u64 4607182418800017408] (.int .u64 ((subV (divV (lnM x) (ofV 2)) SF.One : Nat) : Int))) := Lib.hid (sub_c (divV (lnM x) (ofV 2)) 4607182418800017408 (by simp (config := {maxDischargeDepth := 12}) only [WQ, hx]) (by simp (config := {maxDischargeDepth := 12}) only [WQ, hx]))
    have G8 : Hid (All 18 #[.int .u64 ((divV (lnM x) (ofV 2) : Nat) : Int), .int .u64 4607182418800017408] (.int .u64 ((addV (divV (lnM x) (ofV 2)) SF.One : Nat) : Int))) := Lib.hid (add_c (divV (lnM x) (ofV 2)) 4607182418800017408 (by simp (config := {maxDischargeDepth := 12}) only [WQ, hx]) (by simp (config := {maxDischargeDepth := 12}) only [WQ, hx]))
    have G9 : Hid (All 17 #[.int .u64 ((subV (divV (lnM x) (ofV 2)) SF.One : Nat) : Int), .int .u64 ((addV (divV (lnM x) (ofV 2)) SF.One : Nat) : Int)] (.int .u64 ((lnS (divV (lnM x) (ofV 2)) : Nat) : Int))) := Lib.hid (div_c (subV (divV (lnM x) (ofV 2)) SF.One) (addV (divV (lnM x) (ofV 2)) SF.One) (by simp (config := {maxDischargeDepth := 12}) only [WQ, hx]) (by simp (config := {maxDischargeDepth := 12}) only [WQ, hx]))
    have G10 : Hid (All 20 #[.int .u64 ((lnS (divV (lnM x) (ofV 2)) : Nat) : Int), .int .u64 ((lnS (divV (lnM x) (ofV 2)) : Nat) : Int)] (.int .u64 ((mulV (lnS (divV (lnM x) (ofV 2))) (lnS (divV (lnM x) (ofV 2))) : Nat) : Int))) := Lib.hid (mul_c (lnS (divV (lnM x) (ofV 2))) (lnS (divV (lnM x) (ofV 2))) (by simp (config := {maxDischargeDepth := 12}) only [WQ, hx]) (by simp (config := {maxDischargeDepth := 12}) only [WQ, hx]))
    have G11 : Hid (All 22 #[.int .i64 21] (.int .u64 ((invV 21 : Nat) : Int))) := Lib.hid (inv_c (21) (by omega) (by omega))
    have G12 : Hid (∀ ad : Addr, AllC [(ad, .int .u64 ((mulV (lnS (divV (lnM x) (ofV 2))) (lnS (divV (lnM x) (ofV 2))) : Nat) : Int))] 21 #[.int .u64 ((invV 21 : Nat) : Int), .int .i64 9, .int .i64 0, .func (.func 54) #[] #[.pointer (some ad)]] (.int .u64 ((lnP (mulV (lnS (divV (lnM x) (ofV 2))) (lnS (divV (lnM x) (ofV 2)))) : Nat) : Int))) := Lib.hid (lns_c (mulV (lnS (divV (lnM x) (ofV 2))) (lnS (divV (lnM x) (ofV 2)))) (by simp (config := {maxDischargeDepth := 12}) only [WQ, hx]))
    have G13 : Hid (All 20 #[.int .u64 ((ofV (lnK x + 1) : Nat) : Int), .int .u64 4604418534313441775] (.int .u64 ((mulV (ofV (lnK x + 1)) 4604418534313441775 : Nat) : Int))) := Lib.hid (mul_c (ofV (lnK x + 1)) 4604418534313441775 (by simp (config := {maxDischargeDepth := 12}) only [WQ, hx]) (by simp (config := {maxDischargeDepth := 12}) only [WQ, hx]))
    have G14 : Hid (All 18 #[.int .u64 ((mulV (ofV (lnK x + 1)) 4604418534313441775 : Nat) : Int), .int .u64 ((mulV (mulV (ofV 2) (lnS (divV (lnM x) (ofV 2)))) (lnP (mulV (lnS (divV (lnM x) (ofV 2))) (lnS (divV (lnM x) (ofV 2))))) : Nat) : Int)] (.int .u64 ((lnT (divV (lnM x) (ofV 2)) (lnK x + 1) : Nat) : Int))) := Lib.hid (add_c (mulV (ofV (lnK x + 1)) 4604418534313441775) (mulV (mulV (ofV 2) (lnS (divV (lnM x) (ofV 2)))) (lnP (mulV (lnS (divV (lnM x) (ofV 2))) (lnS (divV (lnM x) (ofV 2)))))) (by simp (config := {maxDischargeDepth := 12}) only [WQ, hx]) (by simp (config := {maxDischargeDepth := 12}) only [WQ, hx]))
    have KF : Hid (All 25 #[.int .i64 (se x + (bl (sm x) : Int) - 1 + 1)] (.int .u64 ((ofV (lnK x + 1) : Nat) : Int))) := Lib.hid (n_c (se x + (bl (sm x) : Int) - 1 + 1) (by omega) (by omega))
    have PR := Lib.hid (fun B : Nat => product_s B (Lib.hid (mul_c (ofV 2) (lnS (divV (lnM x) (ofV 2))) (by simp (config := {maxDischargeDepth := 12}) only [WQ, hx]) (by simp (config := {maxDischargeDepth := 12}) only [WQ, hx]))) (Lib.hid (mul_c (mulV (ofV 2) (lnS (divV (lnM x) (ofV 2)))) (lnP (mulV (lnS (divV (lnM x) (ofV 2))) (lnS (divV (lnM x) (ofV 2))))) (by simp (config := {maxDischargeDepth := 12}) only [WQ, hx]) (by simp (config := {maxDischargeDepth := 12}) only [WQ, hx]))))
    exact ln_g (M := 0) (BL := bl (sm x)) (l := ws (sm x)) (LN := (ws (sm x)).length) G0 G1 G2 G3 G4 G5 G6 G7 G8 G9 G10 G11 G12 G13 G14 (Lib.hid (psplits_c x hx n1 i1 g1)) rfl hl1 hl2 hb se1 se2 (Lib.hid (fun k => getD_word (words_ws (sm x)) k)) (Lib.hid (ws_last m0)) (Lib.hid bl_half) rfl (Lib.hid bl_32) (Lib.hid (fun w a n c hr => pmakes_c (sm x) (sm_lt x) w a n c hr)) KF PR
  have r1 := Bool.eq_false_iff.2 r1
  rw [show lnF x = lnT (lnM x) (lnK x) from if_neg (by rw [r1]; decide)]
  have G0 : Hid (All 11 #[.int .u64 ((x : Nat) : Int)] (.bool false)) := by rw [← n1]; exact Lib.hid (knan_c (x) (by simp (config := {maxDischargeDepth := 12}) only [WQ, hx]))
  have G1 : Hid (All 26 #[.int .u64 ((x : Nat) : Int), .int .u64 0] (.bool false)) := by rw [← b1]; exact Lib.hid (below_c (x) 0 (by simp (config := {maxDischargeDepth := 12}) only [WQ, hx]) (by simp (config := {maxDischargeDepth := 12}) only [WQ, hx]))
  have G2 : Hid (All 12 #[.int .u64 ((x : Nat) : Int)] (.bool false)) := by rw [← z1]; exact Lib.hid (kzero_c (x) (by simp (config := {maxDischargeDepth := 12}) only [WQ, hx]))
  have G3 : Hid (All 13 #[.int .u64 ((x : Nat) : Int)] (.bool false)) := by rw [← i1]; exact Lib.hid (kinf_c (x) (by simp (config := {maxDischargeDepth := 12}) only [WQ, hx]))
  have G4 : Hid (All 16 #[.int .u64 ((lnM x : Nat) : Int), .int .u64 4609047870845172685] (.bool false)) := by rw [← r1]; exact Lib.hid (above_c (lnM x) 4609047870845172685 (by simp (config := {maxDischargeDepth := 12}) only [WQ, hx]) (by simp (config := {maxDischargeDepth := 12}) only [WQ, hx]))
  have G5 : Hid (All 24 #[.int .u64 ((lnM x : Nat) : Int), .int .u64 4607182418800017408] (.int .u64 ((subV (lnM x) SF.One : Nat) : Int))) := Lib.hid (sub_c (lnM x) 4607182418800017408 (by simp (config := {maxDischargeDepth := 12}) only [WQ, hx]) (by simp (config := {maxDischargeDepth := 12}) only [WQ, hx]))
  have G6 : Hid (All 18 #[.int .u64 ((lnM x : Nat) : Int), .int .u64 4607182418800017408] (.int .u64 ((addV (lnM x) SF.One : Nat) : Int))) := Lib.hid (add_c (lnM x) 4607182418800017408 (by simp (config := {maxDischargeDepth := 12}) only [WQ, hx]) (by simp (config := {maxDischargeDepth := 12}) only [WQ, hx]))
  have G7 : Hid (All 17 #[.int .u64 ((subV (lnM x) SF.One : Nat) : Int), .int .u64 ((addV (lnM x) SF.One : Nat) : Int)] (.int .u64 ((lnS (lnM x) : Nat) : Int))) := Lib.hid (div_c (subV (lnM x) SF.One) (addV (lnM x) SF.One) (by simp (config := {maxDischargeDepth := 12}) only [WQ, hx]) (by simp (config := {maxDischargeDepth := 12}) only [WQ, hx]))
  have G8 : Hid (All 20 #[.int .u64 ((lnS (lnM x) : Nat) : Int), .int .u64 ((lnS (lnM x) : Nat) : Int)] (.int .u64 ((mulV (lnS (lnM x)) (lnS (lnM x)) : Nat) : Int))) := Lib.hid (mul_c (lnS (lnM x)) (lnS (lnM x)) (by simp (config := {maxDischargeDepth := 12}) only [WQ, hx]) (by simp (config := {maxDischargeDepth := 12}) only [WQ, hx]))
  have G9 : Hid (All 22 #[.int .i64 21] (.int .u64 ((invV 21 : Nat) : Int))) := Lib.hid (inv_c (21) (by omega) (by omega))
  have G10 : Hid (∀ ad : Addr, AllC [(ad, .int .u64 ((mulV (lnS (lnM x)) (lnS (lnM x)) : Nat) : Int))] 21 #[.int .u64 ((invV 21 : Nat) : Int), .int .i64 9, .int .i64 0, .func (.func 54) #[] #[.pointer (some ad)]] (.int .u64 ((lnP (mulV (lnS (lnM x)) (lnS (lnM x))) : Nat) : Int))) := Lib.hid (lns_c (mulV (lnS (lnM x)) (lnS (lnM x))) (by simp (config := {maxDischargeDepth := 12}) only [WQ, hx]))
  have G11 : Hid (All 25 #[.int .i64 2] (.int .u64 ((ofV 2 : Nat) : Int))) := Lib.hid (n_c (2) (by decide) (by decide))
  have G12 : Hid (All 20 #[.int .u64 ((ofV (lnK x) : Nat) : Int), .int .u64 4604418534313441775] (.int .u64 ((mulV (ofV (lnK x)) 4604418534313441775 : Nat) : Int))) := Lib.hid (mul_c (ofV (lnK x)) 4604418534313441775 (by simp (config := {maxDischargeDepth := 12}) only [WQ, hx]) (by simp (config := {maxDischargeDepth := 12}) only [WQ, hx]))
  have G13 : Hid (All 18 #[.int .u64 ((mulV (ofV (lnK x)) 4604418534313441775 : Nat) : Int), .int .u64 ((mulV (mulV (ofV 2) (lnS (lnM x))) (lnP (mulV (lnS (lnM x)) (lnS (lnM x)))) : Nat) : Int)] (.int .u64 ((lnT (lnM x) (lnK x) : Nat) : Int))) := Lib.hid (add_c (mulV (ofV (lnK x)) 4604418534313441775) (mulV (mulV (ofV 2) (lnS (lnM x))) (lnP (mulV (lnS (lnM x)) (lnS (lnM x))))) (by simp (config := {maxDischargeDepth := 12}) only [WQ, hx]) (by simp (config := {maxDischargeDepth := 12}) only [WQ, hx]))
  have KF : Hid (All 25 #[.int .i64 (se x + (bl (sm x) : Int) - 1)] (.int .u64 ((ofV (lnK x) : Nat) : Int))) := Lib.hid (n_c (se x + (bl (sm x) : Int) - 1) (by omega) (by omega))
  have PR := Lib.hid (fun B : Nat => product_s B (Lib.hid (mul_c (ofV 2) (lnS (lnM x)) (by simp (config := {maxDischargeDepth := 12}) only [WQ, hx]) (by simp (config := {maxDischargeDepth := 12}) only [WQ, hx]))) (Lib.hid (mul_c (mulV (ofV 2) (lnS (lnM x))) (lnP (mulV (lnS (lnM x)) (lnS (lnM x)))) (by simp (config := {maxDischargeDepth := 12}) only [WQ, hx]) (by simp (config := {maxDischargeDepth := 12}) only [WQ, hx]))))
  exact ln_s (M := 0) (BL := bl (sm x)) (l := ws (sm x)) (LN := (ws (sm x)).length) G0 G1 G2 G3 G4 G5 G6 G7 G8 G9 G10 G11 G12 G13 (Lib.hid (psplits_c x hx n1 i1 g1)) rfl hl1 hl2 hb se1 se2 (Lib.hid (fun k => getD_word (words_ws (sm x)) k)) (Lib.hid (ws_last m0)) (Lib.hid bl_half) rfl (Lib.hid bl_32) (Lib.hid (fun w a n c hr => pmakes_c (sm x) (sm_lt x) w a n c hr)) KF PR
theorem cosh_c (x : Nat) (hx : W x) : All 6 #[.int .u64 ((x : Nat) : Int)] (.int .u64 ((coshV x : Nat) : Int)) := by
  have G0 : Hid (All 5 #[.int .u64 ((x : Nat) : Int)] (.int .u64 ((expV x : Nat) : Int))) := Lib.hid (exp_c (x) (by simp (config := {maxDischargeDepth := 12}) only [WQ, hx]))
  have G1 : Hid (All 8 #[.int .u64 ((x : Nat) : Int)] (.int .u64 ((negV x : Nat) : Int))) := Lib.hid (all_of (neg_c (x) (by simp (config := {maxDischargeDepth := 12}) only [WQ, hx])))
  have G2 : Hid (All 5 #[.int .u64 ((negV x : Nat) : Int)] (.int .u64 ((expV (negV x) : Nat) : Int))) := Lib.hid (exp_c (negV x) (by simp (config := {maxDischargeDepth := 12}) only [WQ, hx]))
  have G3 : Hid (All 18 #[.int .u64 ((expV x : Nat) : Int), .int .u64 ((expV (negV x) : Nat) : Int)] (.int .u64 ((addV (expV x) (expV (negV x)) : Nat) : Int))) := Lib.hid (add_c (expV x) (expV (negV x)) (by simp (config := {maxDischargeDepth := 12}) only [WQ, hx]) (by simp (config := {maxDischargeDepth := 12}) only [WQ, hx]))
  have G4 : Hid (All 25 #[.int .i64 2] (.int .u64 ((ofV 2 : Nat) : Int))) := Lib.hid (n_c (2) (by decide) (by decide))
  have G5 : Hid (All 17 #[.int .u64 ((addV (expV x) (expV (negV x)) : Nat) : Int), .int .u64 ((ofV 2 : Nat) : Int)] (.int .u64 ((coshV x : Nat) : Int))) := Lib.hid (div_c (addV (expV x) (expV (negV x))) (ofV 2) (by simp (config := {maxDischargeDepth := 12}) only [WQ, hx]) (by simp (config := {maxDischargeDepth := 12}) only [WQ, hx]))
  exact cosh_s G0 G1 G2 G3 G4 G5
theorem asinh_c (x : Nat) (hx : W x) : All 10 #[.int .u64 ((x : Nat) : Int)] (.int .u64 ((asinhV x : Nat) : Int)) := by
  by_cases z1 : zer x = true
  · rw [show asinhV x = negV (negV x) by simp [asinhV, z1]]
    have G0 : Hid (All 12 #[.int .u64 ((x : Nat) : Int)] (.bool true)) := by rw [← z1]; exact Lib.hid (kzero_c (x) (by simp (config := {maxDischargeDepth := 12}) only [WQ, hx]))
    have G1 : Hid (All 8 #[.int .u64 ((x : Nat) : Int)] (.int .u64 ((negV x : Nat) : Int))) := Lib.hid (all_of (neg_c (x) (by simp (config := {maxDischargeDepth := 12}) only [WQ, hx])))
    have G2 : Hid (All 8 #[.int .u64 ((negV x : Nat) : Int)] (.int .u64 ((negV (negV x) : Nat) : Int))) := Lib.hid (all_of (neg_c (negV x) (by simp (config := {maxDischargeDepth := 12}) only [WQ, hx])))
    exact asinh_z G0 G1 G2
  have z1 := Bool.eq_false_iff.2 z1
  by_cases n1 : nan x = true
  · rw [show asinhV x = negV (negV x) by simp [asinhV, z1, n1]]
    have G0 : Hid (All 12 #[.int .u64 ((x : Nat) : Int)] (.bool false)) := by rw [← z1]; exact Lib.hid (kzero_c (x) (by simp (config := {maxDischargeDepth := 12}) only [WQ, hx]))
    have G1 : Hid (All 11 #[.int .u64 ((x : Nat) : Int)] (.bool true)) := by rw [← n1]; exact Lib.hid (knan_c (x) (by simp (config := {maxDischargeDepth := 12}) only [WQ, hx]))
    have G2 : Hid (All 8 #[.int .u64 ((x : Nat) : Int)] (.int .u64 ((negV x : Nat) : Int))) := Lib.hid (all_of (neg_c (x) (by simp (config := {maxDischargeDepth := 12}) only [WQ, hx])))
    have G3 : Hid (All 8 #[.int .u64 ((negV x : Nat) : Int)] (.int .u64 ((negV (negV x) : Nat) : Int))) := Lib.hid (all_of (neg_c (negV x) (by simp (config := {maxDischargeDepth := 12}) only [WQ, hx])))
    exact asinh_n G0 G1 G2 G3
  have n1 := Bool.eq_false_iff.2 n1
  rw [show asinhV x = asinhF x by simp [asinhV, z1, n1]]
  have G0 : Hid (All 12 #[.int .u64 ((x : Nat) : Int)] (.bool false)) := by rw [← z1]; exact Lib.hid (kzero_c (x) (by simp (config := {maxDischargeDepth := 12}) only [WQ, hx]))
  have G1 : Hid (All 11 #[.int .u64 ((x : Nat) : Int)] (.bool false)) := by rw [← n1]; exact Lib.hid (knan_c (x) (by simp (config := {maxDischargeDepth := 12}) only [WQ, hx]))
  have G2 : Hid (All 15 #[.int .u64 ((x : Nat) : Int)] (.int .u64 ((absV x : Nat) : Int))) := Lib.hid (all_of (abs_c (x) (by simp (config := {maxDischargeDepth := 12}) only [WQ, hx])))
  have G3 : Hid (All 20 #[.int .u64 ((absV x : Nat) : Int), .int .u64 ((absV x : Nat) : Int)] (.int .u64 ((mulV (absV x) (absV x) : Nat) : Int))) := Lib.hid (mul_c (absV x) (absV x) (by simp (config := {maxDischargeDepth := 12}) only [WQ, hx]) (by simp (config := {maxDischargeDepth := 12}) only [WQ, hx]))
  have G4 : Hid (All 18 #[.int .u64 ((mulV (absV x) (absV x) : Nat) : Int), .int .u64 4607182418800017408] (.int .u64 ((addV (mulV (absV x) (absV x)) SF.One : Nat) : Int))) := Lib.hid (add_c (mulV (absV x) (absV x)) 4607182418800017408 (by simp (config := {maxDischargeDepth := 12}) only [WQ, hx]) (by simp (config := {maxDischargeDepth := 12}) only [WQ, hx]))
  have G5 : Hid (All 19 #[.int .u64 ((addV (mulV (absV x) (absV x)) SF.One : Nat) : Int)] (.int .u64 ((sqrtV (addV (mulV (absV x) (absV x)) SF.One) : Nat) : Int))) := Lib.hid (sqrt_c (addV (mulV (absV x) (absV x)) SF.One) (by simp (config := {maxDischargeDepth := 12}) only [WQ, hx]))
  have G6 : Hid (All 18 #[.int .u64 ((absV x : Nat) : Int), .int .u64 ((sqrtV (addV (mulV (absV x) (absV x)) SF.One) : Nat) : Int)] (.int .u64 ((addV (absV x) (sqrtV (addV (mulV (absV x) (absV x)) SF.One)) : Nat) : Int))) := Lib.hid (add_c (absV x) (sqrtV (addV (mulV (absV x) (absV x)) SF.One)) (by simp (config := {maxDischargeDepth := 12}) only [WQ, hx]) (by simp (config := {maxDischargeDepth := 12}) only [WQ, hx]))
  have G7 : Hid (All 31 #[.int .u64 ((addV (absV x) (sqrtV (addV (mulV (absV x) (absV x)) SF.One)) : Nat) : Int)] (.int .u64 ((lnV (addV (absV x) (sqrtV (addV (mulV (absV x) (absV x)) SF.One))) : Nat) : Int))) := Lib.hid (ln_c (addV (absV x) (sqrtV (addV (mulV (absV x) (absV x)) SF.One))) (by simp (config := {maxDischargeDepth := 12}) only [WQ, hx]))
  have G8 : Hid (All 14 #[.int .u64 ((lnV (addV (absV x) (sqrtV (addV (mulV (absV x) (absV x)) SF.One))) : Nat) : Int), .int .u64 ((x : Nat) : Int)] (.int .u64 ((asinhF x : Nat) : Int))) := Lib.hid (signed_c (lnV (addV (absV x) (sqrtV (addV (mulV (absV x) (absV x)) SF.One)))) (x) (by simp (config := {maxDischargeDepth := 12}) only [WQ, hx]) (by simp (config := {maxDischargeDepth := 12}) only [WQ, hx]))
  exact asinh_f G0 G1 G2 G3 G4 G5 G6 G7 G8
/-- What is left of a power. -/
def PInv (R : Nat) (n r b : Int) : Prop := ∃ (f rr bb : Nat), r = (rr : Int) ∧ b = (bb : Int) ∧ 0 ≤ n ∧ n < 2 ^ f ∧ W rr ∧ W bb ∧ powF f n rr bb = R
theorem pinv_end {R : Nat} {n r b : Int} (I : PInv R n r b) (h : ¬ 0 < n) : r = (R : Int) := by
  obtain ⟨f, rr, bb, rfl, rfl, n0, n1, wr, wb, e⟩ := I
  cases f with
  | zero => rw [← e]; rfl
  | succ f => rw [← e]; unfold powF; rw [if_neg h]
theorem pinv_next {R : Nat} {n : Int} {rr bb f : Nat} (h : 0 < n) (n1 : n < 2 ^ f) (wr : W rr) (wb : W bb) (e : powF f n rr bb = R) :
    PInv R (n / 2) ((if n % 2 = 1 then mulV rr bb else rr : Nat) : Int) ((if 0 < n / 2 then mulV bb bb else bb : Nat) : Int) := by
  cases f with
  | zero => exact absurd n1 (by omega)
  | succ f =>
    refine ⟨f, _, _, rfl, rfl, by omega, ?_, ?_, ?_, ?_⟩
    · have : (2 : Int) ^ (f + 1) = 2 ^ f * 2 := Int.pow_succ 2 f
      omega
    · split; exact W_mulV _ _; exact wr
    · split; exact W_mulV _ _; exact wb
    · rw [← e, powF, if_pos h]
theorem power_c (x : Nat) (hx : W x) (k : Int) (k1 : 0 ≤ k) (k2 : k ≤ 100000) : All 57 #[.int .u64 (x : Int), .int .i64 k] (.int .u64 ((powN x k : Nat) : Int)) := by
  refine power_s (PInv (powN x k)) (Lib.hid (fun n r b I h => ?_)) (Lib.hid (fun n r b I h => pinv_end I h)) ⟨20, SF.One, x, rfl, rfl, k1, by omega, W_One, hx, rfl⟩ k1 k2
  obtain ⟨f, rr, bb, rfl, rfl, n0, n1, wr, wb, e⟩ := I
  refine ⟨_, _, fun ho => ?_, fun ho => ?_, fun hn => ?_, fun hn => ?_, pinv_next h n1 wr wb e⟩
  · rw [if_pos ho]; exact Lib.hid (mul_c rr bb wr wb)
  · rw [if_neg (by omega)]
  · rw [if_pos hn]; exact Lib.hid (mul_c bb bb wb wb)
  · rw [if_neg hn]
theorem pow_t (x y : Nat) (hx : W x) (hy : W y) (o1 : okV (wholeV 0 y) y = true) : All 32 #[.int .u64 ((x : Nat) : Int), .int .u64 ((y : Nat) : Int)] (.int .u64 ((powV x y : Nat) : Int)) := by
  by_cases zy : zer y = true
  · rw [show powV x y = SF.One by simp [powV, powR, zy]]
    have G0 : Hid (All 56 #[.int .u64 ((y : Nat) : Int)] (.int .u64 ((wholeV 0 y : Nat) : Int))) := Lib.hid (trunc_c (y) (by simp (config := {maxDischargeDepth := 12}) only [WQ, hx, hy]))
    have G1 : Hid (All 48 #[.int .u64 ((wholeV 0 y : Nat) : Int), .int .u64 ((y : Nat) : Int)] (.tuple #[.int .i64 ((cmpV (wholeV 0 y) y)), .bool true])) := by rw [← o1]; exact Lib.hid (all_of (cmp_c (wholeV 0 y) (y) (by simp (config := {maxDischargeDepth := 12}) only [WQ, hx, hy]) (by simp (config := {maxDischargeDepth := 12}) only [WQ, hx, hy])))
    have G2 : Hid (All 12 #[.int .u64 ((y : Nat) : Int)] (.bool true)) := by rw [← zy]; exact Lib.hid (kzero_c (y) (by simp (config := {maxDischargeDepth := 12}) only [WQ, hx, hy]))
    exact pow_zt G0 G1 G2
  have zy := Bool.eq_false_iff.2 zy
  by_cases n1 : nan x = true
  · rw [show powV x y = NaN by simp [powV, powR, zy, n1]]
    have G0 : Hid (All 56 #[.int .u64 ((y : Nat) : Int)] (.int .u64 ((wholeV 0 y : Nat) : Int))) := Lib.hid (trunc_c (y) (by simp (config := {maxDischargeDepth := 12}) only [WQ, hx, hy]))
    have G1 : Hid (All 48 #[.int .u64 ((wholeV 0 y : Nat) : Int), .int .u64 ((y : Nat) : Int)] (.tuple #[.int .i64 ((cmpV (wholeV 0 y) y)), .bool true])) := by rw [← o1]; exact Lib.hid (all_of (cmp_c (wholeV 0 y) (y) (by simp (config := {maxDischargeDepth := 12}) only [WQ, hx, hy]) (by simp (config := {maxDischargeDepth := 12}) only [WQ, hx, hy])))
    have G2 : Hid (All 12 #[.int .u64 ((y : Nat) : Int)] (.bool false)) := by rw [← zy]; exact Lib.hid (kzero_c (y) (by simp (config := {maxDischargeDepth := 12}) only [WQ, hx, hy]))
    have G3 : Hid (All 11 #[.int .u64 ((x : Nat) : Int)] (.bool true)) := by rw [← n1]; exact Lib.hid (knan_c (x) (by simp (config := {maxDischargeDepth := 12}) only [WQ, hx, hy]))
    exact pow_n1t G0 G1 G2 G3
  have n1 := Bool.eq_false_iff.2 n1
  by_cases n2 : nan y = true
  · rw [show powV x y = NaN by simp [powV, powR, zy, n1, n2]]
    have G0 : Hid (All 56 #[.int .u64 ((y : Nat) : Int)] (.int .u64 ((wholeV 0 y : Nat) : Int))) := Lib.hid (trunc_c (y) (by simp (config := {maxDischargeDepth := 12}) only [WQ, hx, hy]))
    have G1 : Hid (All 48 #[.int .u64 ((wholeV 0 y : Nat) : Int), .int .u64 ((y : Nat) : Int)] (.tuple #[.int .i64 ((cmpV (wholeV 0 y) y)), .bool true])) := by rw [← o1]; exact Lib.hid (all_of (cmp_c (wholeV 0 y) (y) (by simp (config := {maxDischargeDepth := 12}) only [WQ, hx, hy]) (by simp (config := {maxDischargeDepth := 12}) only [WQ, hx, hy])))
    have G2 : Hid (All 12 #[.int .u64 ((y : Nat) : Int)] (.bool false)) := by rw [← zy]; exact Lib.hid (kzero_c (y) (by simp (config := {maxDischargeDepth := 12}) only [WQ, hx, hy]))
    have G3 : Hid (All 11 #[.int .u64 ((x : Nat) : Int)] (.bool false)) := by rw [← n1]; exact Lib.hid (knan_c (x) (by simp (config := {maxDischargeDepth := 12}) only [WQ, hx, hy]))
    have G4 : Hid (All 11 #[.int .u64 ((y : Nat) : Int)] (.bool true)) := by rw [← n2]; exact Lib.hid (knan_c (y) (by simp (config := {maxDischargeDepth := 12}) only [WQ, hx, hy]))
    exact pow_n2t G0 G1 G2 G3 G4
  have n2 := Bool.eq_false_iff.2 n2
  by_cases c0 : cmpV (wholeV 0 y) y = 0
  · have he : (cmpV (wholeV 0 y) y == 0) = true := by rw [c0]; rfl
    have k1 : powOk y = true := by simp [powOk, o1, c0]
    by_cases g1 : belowV (ofV 1024) (absV y) = true
    · by_cases p1 : belowV 0 x = true
      · rw [show powV x y = expV (mulV y (lnV x)) by simp [powV, powR, o1, zy, n1, n2, g1, k1, p1]]
        have G0 : Hid (All 56 #[.int .u64 ((y : Nat) : Int)] (.int .u64 ((wholeV 0 y : Nat) : Int))) := Lib.hid (trunc_c (y) (by simp (config := {maxDischargeDepth := 12}) only [WQ, hx, hy]))
        have G1 : Hid (All 48 #[.int .u64 ((wholeV 0 y : Nat) : Int), .int .u64 ((y : Nat) : Int)] (.tuple #[.int .i64 ((cmpV (wholeV 0 y) y)), .bool true])) := by rw [← o1]; exact Lib.hid (all_of (cmp_c (wholeV 0 y) (y) (by simp (config := {maxDischargeDepth := 12}) only [WQ, hx, hy]) (by simp (config := {maxDischargeDepth := 12}) only [WQ, hx, hy])))
        have G2 : Hid (All 12 #[.int .u64 ((y : Nat) : Int)] (.bool false)) := by rw [← zy]; exact Lib.hid (kzero_c (y) (by simp (config := {maxDischargeDepth := 12}) only [WQ, hx, hy]))
        have G3 : Hid (All 11 #[.int .u64 ((x : Nat) : Int)] (.bool false)) := by rw [← n1]; exact Lib.hid (knan_c (x) (by simp (config := {maxDischargeDepth := 12}) only [WQ, hx, hy]))
        have G4 : Hid (All 11 #[.int .u64 ((y : Nat) : Int)] (.bool false)) := by rw [← n2]; exact Lib.hid (knan_c (y) (by simp (config := {maxDischargeDepth := 12}) only [WQ, hx, hy]))
        have G5 : Hid (All 15 #[.int .u64 ((y : Nat) : Int)] (.int .u64 ((absV y : Nat) : Int))) := Lib.hid (all_of (abs_c (y) (by simp (config := {maxDischargeDepth := 12}) only [WQ, hx, hy])))
        have G6 : Hid (All 25 #[.int .i64 1024] (.int .u64 ((ofV 1024 : Nat) : Int))) := Lib.hid (n_c (1024) (by decide) (by decide))
        have G7 : Hid (All 16 #[.int .u64 ((absV y : Nat) : Int), .int .u64 ((ofV 1024 : Nat) : Int)] (.bool true)) := by rw [← g1]; exact Lib.hid (above_c (absV y) (ofV 1024) (by simp (config := {maxDischargeDepth := 12}) only [WQ, hx, hy]) (by simp (config := {maxDischargeDepth := 12}) only [WQ, hx, hy]))
        have G8 : Hid (All 16 #[.int .u64 ((x : Nat) : Int), .int .u64 0] (.bool true)) := by rw [← p1]; exact Lib.hid (above_c (x) 0 (by simp (config := {maxDischargeDepth := 12}) only [WQ, hx, hy]) (by simp (config := {maxDischargeDepth := 12}) only [WQ, hx, hy]))
        have G9 : Hid (All 31 #[.int .u64 ((x : Nat) : Int)] (.int .u64 ((lnV x : Nat) : Int))) := Lib.hid (ln_c (x) (by simp (config := {maxDischargeDepth := 12}) only [WQ, hx, hy]))
        have G10 : Hid (All 20 #[.int .u64 ((y : Nat) : Int), .int .u64 ((lnV x : Nat) : Int)] (.int .u64 ((mulV y (lnV x) : Nat) : Int))) := Lib.hid (mul_c (y) (lnV x) (by simp (config := {maxDischargeDepth := 12}) only [WQ, hx, hy]) (by simp (config := {maxDischargeDepth := 12}) only [WQ, hx, hy]))
        have G11 : Hid (All 5 #[.int .u64 ((mulV y (lnV x) : Nat) : Int)] (.int .u64 ((expV (mulV y (lnV x)) : Nat) : Int))) := Lib.hid (exp_c (mulV y (lnV x)) (by simp (config := {maxDischargeDepth := 12}) only [WQ, hx, hy]))
        exact pow_ae he G0 G1 G2 G3 G4 G5 G6 G7 G8 G9 G10 G11
      have p1 := Bool.eq_false_iff.2 p1
      by_cases zx : zer x = true
      · by_cases p2 : belowV 0 y = true
        · rw [show powV x y = 0 by simp [powV, powR, o1, zy, n1, n2, g1, k1, p1, zx, p2]]
          have G0 : Hid (All 56 #[.int .u64 ((y : Nat) : Int)] (.int .u64 ((wholeV 0 y : Nat) : Int))) := Lib.hid (trunc_c (y) (by simp (config := {maxDischargeDepth := 12}) only [WQ, hx, hy]))
          have G1 : Hid (All 48 #[.int .u64 ((wholeV 0 y : Nat) : Int), .int .u64 ((y : Nat) : Int)] (.tuple #[.int .i64 ((cmpV (wholeV 0 y) y)), .bool true])) := by rw [← o1]; exact Lib.hid (all_of (cmp_c (wholeV 0 y) (y) (by simp (config := {maxDischargeDepth := 12}) only [WQ, hx, hy]) (by simp (config := {maxDischargeDepth := 12}) only [WQ, hx, hy])))
          have G2 : Hid (All 12 #[.int .u64 ((y : Nat) : Int)] (.bool false)) := by rw [← zy]; exact Lib.hid (kzero_c (y) (by simp (config := {maxDischargeDepth := 12}) only [WQ, hx, hy]))
          have G3 : Hid (All 11 #[.int .u64 ((x : Nat) : Int)] (.bool false)) := by rw [← n1]; exact Lib.hid (knan_c (x) (by simp (config := {maxDischargeDepth := 12}) only [WQ, hx, hy]))
          have G4 : Hid (All 11 #[.int .u64 ((y : Nat) : Int)] (.bool false)) := by rw [← n2]; exact Lib.hid (knan_c (y) (by simp (config := {maxDischargeDepth := 12}) only [WQ, hx, hy]))
          have G5 : Hid (All 15 #[.int .u64 ((y : Nat) : Int)] (.int .u64 ((absV y : Nat) : Int))) := Lib.hid (all_of (abs_c (y) (by simp (config := {maxDischargeDepth := 12}) only [WQ, hx, hy])))
          have G6 : Hid (All 25 #[.int .i64 1024] (.int .u64 ((ofV 1024 : Nat) : Int))) := Lib.hid (n_c (1024) (by decide) (by decide))
          have G7 : Hid (All 16 #[.int .u64 ((absV y : Nat) : Int), .int .u64 ((ofV 1024 : Nat) : Int)] (.bool true)) := by rw [← g1]; exact Lib.hid (above_c (absV y) (ofV 1024) (by simp (config := {maxDischargeDepth := 12}) only [WQ, hx, hy]) (by simp (config := {maxDischargeDepth := 12}) only [WQ, hx, hy]))
          have G8 : Hid (All 16 #[.int .u64 ((x : Nat) : Int), .int .u64 0] (.bool false)) := by rw [← p1]; exact Lib.hid (above_c (x) 0 (by simp (config := {maxDischargeDepth := 12}) only [WQ, hx, hy]) (by simp (config := {maxDischargeDepth := 12}) only [WQ, hx, hy]))
          have G9 : Hid (All 12 #[.int .u64 ((x : Nat) : Int)] (.bool true)) := by rw [← zx]; exact Lib.hid (kzero_c (x) (by simp (config := {maxDischargeDepth := 12}) only [WQ, hx, hy]))
          have G10 : Hid (All 16 #[.int .u64 ((y : Nat) : Int), .int .u64 0] (.bool true)) := by rw [← p2]; exact Lib.hid (above_c (y) 0 (by simp (config := {maxDischargeDepth := 12}) only [WQ, hx, hy]) (by simp (config := {maxDischargeDepth := 12}) only [WQ, hx, hy]))
          exact pow_ap he G0 G1 G2 G3 G4 G5 G6 G7 G8 G9 G10
        have p2 := Bool.eq_false_iff.2 p2
        rw [show powV x y = Inf by simp [powV, powR, o1, zy, n1, n2, g1, k1, p1, zx, p2]]
        have G0 : Hid (All 56 #[.int .u64 ((y : Nat) : Int)] (.int .u64 ((wholeV 0 y : Nat) : Int))) := Lib.hid (trunc_c (y) (by simp (config := {maxDischargeDepth := 12}) only [WQ, hx, hy]))
        have G1 : Hid (All 48 #[.int .u64 ((wholeV 0 y : Nat) : Int), .int .u64 ((y : Nat) : Int)] (.tuple #[.int .i64 ((cmpV (wholeV 0 y) y)), .bool true])) := by rw [← o1]; exact Lib.hid (all_of (cmp_c (wholeV 0 y) (y) (by simp (config := {maxDischargeDepth := 12}) only [WQ, hx, hy]) (by simp (config := {maxDischargeDepth := 12}) only [WQ, hx, hy])))
        have G2 : Hid (All 12 #[.int .u64 ((y : Nat) : Int)] (.bool false)) := by rw [← zy]; exact Lib.hid (kzero_c (y) (by simp (config := {maxDischargeDepth := 12}) only [WQ, hx, hy]))
        have G3 : Hid (All 11 #[.int .u64 ((x : Nat) : Int)] (.bool false)) := by rw [← n1]; exact Lib.hid (knan_c (x) (by simp (config := {maxDischargeDepth := 12}) only [WQ, hx, hy]))
        have G4 : Hid (All 11 #[.int .u64 ((y : Nat) : Int)] (.bool false)) := by rw [← n2]; exact Lib.hid (knan_c (y) (by simp (config := {maxDischargeDepth := 12}) only [WQ, hx, hy]))
        have G5 : Hid (All 15 #[.int .u64 ((y : Nat) : Int)] (.int .u64 ((absV y : Nat) : Int))) := Lib.hid (all_of (abs_c (y) (by simp (config := {maxDischargeDepth := 12}) only [WQ, hx, hy])))
        have G6 : Hid (All 25 #[.int .i64 1024] (.int .u64 ((ofV 1024 : Nat) : Int))) := Lib.hid (n_c (1024) (by decide) (by decide))
        have G7 : Hid (All 16 #[.int .u64 ((absV y : Nat) : Int), .int .u64 ((ofV 1024 : Nat) : Int)] (.bool true)) := by rw [← g1]; exact Lib.hid (above_c (absV y) (ofV 1024) (by simp (config := {maxDischargeDepth := 12}) only [WQ, hx, hy]) (by simp (config := {maxDischargeDepth := 12}) only [WQ, hx, hy]))
        have G8 : Hid (All 16 #[.int .u64 ((x : Nat) : Int), .int .u64 0] (.bool false)) := by rw [← p1]; exact Lib.hid (above_c (x) 0 (by simp (config := {maxDischargeDepth := 12}) only [WQ, hx, hy]) (by simp (config := {maxDischargeDepth := 12}) only [WQ, hx, hy]))
        have G9 : Hid (All 12 #[.int .u64 ((x : Nat) : Int)] (.bool true)) := by rw [← zx]; exact Lib.hid (kzero_c (x) (by simp (config := {maxDischargeDepth := 12}) only [WQ, hx, hy]))
        have G10 : Hid (All 16 #[.int .u64 ((y : Nat) : Int), .int .u64 0] (.bool false)) := by rw [← p2]; exact Lib.hid (above_c (y) 0 (by simp (config := {maxDischargeDepth := 12}) only [WQ, hx, hy]) (by simp (config := {maxDischargeDepth := 12}) only [WQ, hx, hy]))
        exact pow_ai he G0 G1 G2 G3 G4 G5 G6 G7 G8 G9 G10
      have zx := Bool.eq_false_iff.2 zx
      rw [show powV x y = NaN by simp [powV, powR, o1, zy, n1, n2, g1, k1, p1, zx]]
      have G0 : Hid (All 56 #[.int .u64 ((y : Nat) : Int)] (.int .u64 ((wholeV 0 y : Nat) : Int))) := Lib.hid (trunc_c (y) (by simp (config := {maxDischargeDepth := 12}) only [WQ, hx, hy]))
      have G1 : Hid (All 48 #[.int .u64 ((wholeV 0 y : Nat) : Int), .int .u64 ((y : Nat) : Int)] (.tuple #[.int .i64 ((cmpV (wholeV 0 y) y)), .bool true])) := by rw [← o1]; exact Lib.hid (all_of (cmp_c (wholeV 0 y) (y) (by simp (config := {maxDischargeDepth := 12}) only [WQ, hx, hy]) (by simp (config := {maxDischargeDepth := 12}) only [WQ, hx, hy])))
      have G2 : Hid (All 12 #[.int .u64 ((y : Nat) : Int)] (.bool false)) := by rw [← zy]; exact Lib.hid (kzero_c (y) (by simp (config := {maxDischargeDepth := 12}) only [WQ, hx, hy]))
      have G3 : Hid (All 11 #[.int .u64 ((x : Nat) : Int)] (.bool false)) := by rw [← n1]; exact Lib.hid (knan_c (x) (by simp (config := {maxDischargeDepth := 12}) only [WQ, hx, hy]))
      have G4 : Hid (All 11 #[.int .u64 ((y : Nat) : Int)] (.bool false)) := by rw [← n2]; exact Lib.hid (knan_c (y) (by simp (config := {maxDischargeDepth := 12}) only [WQ, hx, hy]))
      have G5 : Hid (All 15 #[.int .u64 ((y : Nat) : Int)] (.int .u64 ((absV y : Nat) : Int))) := Lib.hid (all_of (abs_c (y) (by simp (config := {maxDischargeDepth := 12}) only [WQ, hx, hy])))
      have G6 : Hid (All 25 #[.int .i64 1024] (.int .u64 ((ofV 1024 : Nat) : Int))) := Lib.hid (n_c (1024) (by decide) (by decide))
      have G7 : Hid (All 16 #[.int .u64 ((absV y : Nat) : Int), .int .u64 ((ofV 1024 : Nat) : Int)] (.bool true)) := by rw [← g1]; exact Lib.hid (above_c (absV y) (ofV 1024) (by simp (config := {maxDischargeDepth := 12}) only [WQ, hx, hy]) (by simp (config := {maxDischargeDepth := 12}) only [WQ, hx, hy]))
      have G8 : Hid (All 16 #[.int .u64 ((x : Nat) : Int), .int .u64 0] (.bool false)) := by rw [← p1]; exact Lib.hid (above_c (x) 0 (by simp (config := {maxDischargeDepth := 12}) only [WQ, hx, hy]) (by simp (config := {maxDischargeDepth := 12}) only [WQ, hx, hy]))
      have G9 : Hid (All 12 #[.int .u64 ((x : Nat) : Int)] (.bool false)) := by rw [← zx]; exact Lib.hid (kzero_c (x) (by simp (config := {maxDischargeDepth := 12}) only [WQ, hx, hy]))
      exact pow_am he G0 G1 G2 G3 G4 G5 G6 G7 G8 G9
    have g1 := Bool.eq_false_iff.2 g1
    have r1 := cell_range n2 g1
    by_cases b1 : belowV y 0 = true
    · rw [show powV x y = divV SF.One (powN x (toLo (absV y))) by simp [powV, powR, zy, n1, n2, k1, g1, b1]]
      have G0 : Hid (All 56 #[.int .u64 ((y : Nat) : Int)] (.int .u64 ((wholeV 0 y : Nat) : Int))) := Lib.hid (trunc_c (y) (by simp (config := {maxDischargeDepth := 12}) only [WQ, hx, hy]))
      have G1 : Hid (All 48 #[.int .u64 ((wholeV 0 y : Nat) : Int), .int .u64 ((y : Nat) : Int)] (.tuple #[.int .i64 ((cmpV (wholeV 0 y) y)), .bool true])) := by rw [← o1]; exact Lib.hid (all_of (cmp_c (wholeV 0 y) (y) (by simp (config := {maxDischargeDepth := 12}) only [WQ, hx, hy]) (by simp (config := {maxDischargeDepth := 12}) only [WQ, hx, hy])))
      have G2 : Hid (All 12 #[.int .u64 ((y : Nat) : Int)] (.bool false)) := by rw [← zy]; exact Lib.hid (kzero_c (y) (by simp (config := {maxDischargeDepth := 12}) only [WQ, hx, hy]))
      have G3 : Hid (All 11 #[.int .u64 ((x : Nat) : Int)] (.bool false)) := by rw [← n1]; exact Lib.hid (knan_c (x) (by simp (config := {maxDischargeDepth := 12}) only [WQ, hx, hy]))
      have G4 : Hid (All 11 #[.int .u64 ((y : Nat) : Int)] (.bool false)) := by rw [← n2]; exact Lib.hid (knan_c (y) (by simp (config := {maxDischargeDepth := 12}) only [WQ, hx, hy]))
      have G5 : Hid (All 15 #[.int .u64 ((y : Nat) : Int)] (.int .u64 ((absV y : Nat) : Int))) := Lib.hid (all_of (abs_c (y) (by simp (config := {maxDischargeDepth := 12}) only [WQ, hx, hy])))
      have G6 : Hid (All 25 #[.int .i64 1024] (.int .u64 ((ofV 1024 : Nat) : Int))) := Lib.hid (n_c (1024) (by decide) (by decide))
      have G7 : Hid (All 16 #[.int .u64 ((absV y : Nat) : Int), .int .u64 ((ofV 1024 : Nat) : Int)] (.bool false)) := by rw [← g1]; exact Lib.hid (above_c (absV y) (ofV 1024) (by simp (config := {maxDischargeDepth := 12}) only [WQ, hx, hy]) (by simp (config := {maxDischargeDepth := 12}) only [WQ, hx, hy]))
      have G8 : Hid (All 30 #[.int .u64 ((absV y : Nat) : Int)] (.int .i64 ((toLo (absV y))))) := Lib.hid (cell_c (absV y) (by simp (config := {maxDischargeDepth := 12}) only [WQ, hx, hy]))
      have G9 : Hid (All 57 #[.int .u64 ((x : Nat) : Int), .int .i64 ((toLo (absV y)))] (.int .u64 ((powN x (toLo (absV y)) : Nat) : Int))) := Lib.hid (power_c (x) (by simp (config := {maxDischargeDepth := 12}) only [WQ, hx, hy]) (((toLo (absV y)))) r1.1 r1.2)
      have G10 : Hid (All 26 #[.int .u64 ((y : Nat) : Int), .int .u64 0] (.bool true)) := by rw [← b1]; exact Lib.hid (below_c (y) 0 (by simp (config := {maxDischargeDepth := 12}) only [WQ, hx, hy]) (by simp (config := {maxDischargeDepth := 12}) only [WQ, hx, hy]))
      have G11 : Hid (All 17 #[.int .u64 4607182418800017408, .int .u64 ((powN x (toLo (absV y)) : Nat) : Int)] (.int .u64 ((divV SF.One (powN x (toLo (absV y))) : Nat) : Int))) := Lib.hid (div_c 4607182418800017408 (powN x (toLo (absV y))) (by simp (config := {maxDischargeDepth := 12}) only [WQ, hx, hy]) (by simp (config := {maxDischargeDepth := 12}) only [WQ, hx, hy]))
      exact pow_wm he G0 G1 G2 G3 G4 G5 G6 G7 G8 G9 G10 G11
    have b1 := Bool.eq_false_iff.2 b1
    rw [show powV x y = powN x (toLo (absV y)) by simp [powV, powR, zy, n1, n2, k1, g1, b1]]
    have G0 : Hid (All 56 #[.int .u64 ((y : Nat) : Int)] (.int .u64 ((wholeV 0 y : Nat) : Int))) := Lib.hid (trunc_c (y) (by simp (config := {maxDischargeDepth := 12}) only [WQ, hx, hy]))
    have G1 : Hid (All 48 #[.int .u64 ((wholeV 0 y : Nat) : Int), .int .u64 ((y : Nat) : Int)] (.tuple #[.int .i64 ((cmpV (wholeV 0 y) y)), .bool true])) := by rw [← o1]; exact Lib.hid (all_of (cmp_c (wholeV 0 y) (y) (by simp (config := {maxDischargeDepth := 12}) only [WQ, hx, hy]) (by simp (config := {maxDischargeDepth := 12}) only [WQ, hx, hy])))
    have G2 : Hid (All 12 #[.int .u64 ((y : Nat) : Int)] (.bool false)) := by rw [← zy]; exact Lib.hid (kzero_c (y) (by simp (config := {maxDischargeDepth := 12}) only [WQ, hx, hy]))
    have G3 : Hid (All 11 #[.int .u64 ((x : Nat) : Int)] (.bool false)) := by rw [← n1]; exact Lib.hid (knan_c (x) (by simp (config := {maxDischargeDepth := 12}) only [WQ, hx, hy]))
    have G4 : Hid (All 11 #[.int .u64 ((y : Nat) : Int)] (.bool false)) := by rw [← n2]; exact Lib.hid (knan_c (y) (by simp (config := {maxDischargeDepth := 12}) only [WQ, hx, hy]))
    have G5 : Hid (All 15 #[.int .u64 ((y : Nat) : Int)] (.int .u64 ((absV y : Nat) : Int))) := Lib.hid (all_of (abs_c (y) (by simp (config := {maxDischargeDepth := 12}) only [WQ, hx, hy])))
    have G6 : Hid (All 25 #[.int .i64 1024] (.int .u64 ((ofV 1024 : Nat) : Int))) := Lib.hid (n_c (1024) (by decide) (by decide))
    have G7 : Hid (All 16 #[.int .u64 ((absV y : Nat) : Int), .int .u64 ((ofV 1024 : Nat) : Int)] (.bool false)) := by rw [← g1]; exact Lib.hid (above_c (absV y) (ofV 1024) (by simp (config := {maxDischargeDepth := 12}) only [WQ, hx, hy]) (by simp (config := {maxDischargeDepth := 12}) only [WQ, hx, hy]))
    have G8 : Hid (All 30 #[.int .u64 ((absV y : Nat) : Int)] (.int .i64 ((toLo (absV y))))) := Lib.hid (cell_c (absV y) (by simp (config := {maxDischargeDepth := 12}) only [WQ, hx, hy]))
    have G9 : Hid (All 57 #[.int .u64 ((x : Nat) : Int), .int .i64 ((toLo (absV y)))] (.int .u64 ((powN x (toLo (absV y)) : Nat) : Int))) := Lib.hid (power_c (x) (by simp (config := {maxDischargeDepth := 12}) only [WQ, hx, hy]) (((toLo (absV y)))) r1.1 r1.2)
    have G10 : Hid (All 26 #[.int .u64 ((y : Nat) : Int), .int .u64 0] (.bool false)) := by rw [← b1]; exact Lib.hid (below_c (y) 0 (by simp (config := {maxDischargeDepth := 12}) only [WQ, hx, hy]) (by simp (config := {maxDischargeDepth := 12}) only [WQ, hx, hy]))
    exact pow_wp he G0 G1 G2 G3 G4 G5 G6 G7 G8 G9 G10
  have he : (cmpV (wholeV 0 y) y == 0) = false := by rw [beq_eq_false_iff_ne]; exact c0
  have k1 : powOk y = false := by simp [powOk, o1, c0]
  by_cases p1 : belowV 0 x = true
  · rw [show powV x y = expV (mulV y (lnV x)) by simp [powV, powR, o1, zy, n1, n2, k1, p1]]
    have G0 : Hid (All 56 #[.int .u64 ((y : Nat) : Int)] (.int .u64 ((wholeV 0 y : Nat) : Int))) := Lib.hid (trunc_c (y) (by simp (config := {maxDischargeDepth := 12}) only [WQ, hx, hy]))
    have G1 : Hid (All 48 #[.int .u64 ((wholeV 0 y : Nat) : Int), .int .u64 ((y : Nat) : Int)] (.tuple #[.int .i64 ((cmpV (wholeV 0 y) y)), .bool true])) := by rw [← o1]; exact Lib.hid (all_of (cmp_c (wholeV 0 y) (y) (by simp (config := {maxDischargeDepth := 12}) only [WQ, hx, hy]) (by simp (config := {maxDischargeDepth := 12}) only [WQ, hx, hy])))
    have G2 : Hid (All 12 #[.int .u64 ((y : Nat) : Int)] (.bool false)) := by rw [← zy]; exact Lib.hid (kzero_c (y) (by simp (config := {maxDischargeDepth := 12}) only [WQ, hx, hy]))
    have G3 : Hid (All 11 #[.int .u64 ((x : Nat) : Int)] (.bool false)) := by rw [← n1]; exact Lib.hid (knan_c (x) (by simp (config := {maxDischargeDepth := 12}) only [WQ, hx, hy]))
    have G4 : Hid (All 11 #[.int .u64 ((y : Nat) : Int)] (.bool false)) := by rw [← n2]; exact Lib.hid (knan_c (y) (by simp (config := {maxDischargeDepth := 12}) only [WQ, hx, hy]))
    have G5 : Hid (All 16 #[.int .u64 ((x : Nat) : Int), .int .u64 0] (.bool true)) := by rw [← p1]; exact Lib.hid (above_c (x) 0 (by simp (config := {maxDischargeDepth := 12}) only [WQ, hx, hy]) (by simp (config := {maxDischargeDepth := 12}) only [WQ, hx, hy]))
    have G6 : Hid (All 31 #[.int .u64 ((x : Nat) : Int)] (.int .u64 ((lnV x : Nat) : Int))) := Lib.hid (ln_c (x) (by simp (config := {maxDischargeDepth := 12}) only [WQ, hx, hy]))
    have G7 : Hid (All 20 #[.int .u64 ((y : Nat) : Int), .int .u64 ((lnV x : Nat) : Int)] (.int .u64 ((mulV y (lnV x) : Nat) : Int))) := Lib.hid (mul_c (y) (lnV x) (by simp (config := {maxDischargeDepth := 12}) only [WQ, hx, hy]) (by simp (config := {maxDischargeDepth := 12}) only [WQ, hx, hy]))
    have G8 : Hid (All 5 #[.int .u64 ((mulV y (lnV x) : Nat) : Int)] (.int .u64 ((expV (mulV y (lnV x)) : Nat) : Int))) := Lib.hid (exp_c (mulV y (lnV x)) (by simp (config := {maxDischargeDepth := 12}) only [WQ, hx, hy]))
    exact pow_fe he G0 G1 G2 G3 G4 G5 G6 G7 G8
  have p1 := Bool.eq_false_iff.2 p1
  by_cases zx : zer x = true
  · by_cases p2 : belowV 0 y = true
    · rw [show powV x y = 0 by simp [powV, powR, o1, zy, n1, n2, k1, p1, zx, p2]]
      have G0 : Hid (All 56 #[.int .u64 ((y : Nat) : Int)] (.int .u64 ((wholeV 0 y : Nat) : Int))) := Lib.hid (trunc_c (y) (by simp (config := {maxDischargeDepth := 12}) only [WQ, hx, hy]))
      have G1 : Hid (All 48 #[.int .u64 ((wholeV 0 y : Nat) : Int), .int .u64 ((y : Nat) : Int)] (.tuple #[.int .i64 ((cmpV (wholeV 0 y) y)), .bool true])) := by rw [← o1]; exact Lib.hid (all_of (cmp_c (wholeV 0 y) (y) (by simp (config := {maxDischargeDepth := 12}) only [WQ, hx, hy]) (by simp (config := {maxDischargeDepth := 12}) only [WQ, hx, hy])))
      have G2 : Hid (All 12 #[.int .u64 ((y : Nat) : Int)] (.bool false)) := by rw [← zy]; exact Lib.hid (kzero_c (y) (by simp (config := {maxDischargeDepth := 12}) only [WQ, hx, hy]))
      have G3 : Hid (All 11 #[.int .u64 ((x : Nat) : Int)] (.bool false)) := by rw [← n1]; exact Lib.hid (knan_c (x) (by simp (config := {maxDischargeDepth := 12}) only [WQ, hx, hy]))
      have G4 : Hid (All 11 #[.int .u64 ((y : Nat) : Int)] (.bool false)) := by rw [← n2]; exact Lib.hid (knan_c (y) (by simp (config := {maxDischargeDepth := 12}) only [WQ, hx, hy]))
      have G5 : Hid (All 16 #[.int .u64 ((x : Nat) : Int), .int .u64 0] (.bool false)) := by rw [← p1]; exact Lib.hid (above_c (x) 0 (by simp (config := {maxDischargeDepth := 12}) only [WQ, hx, hy]) (by simp (config := {maxDischargeDepth := 12}) only [WQ, hx, hy]))
      have G6 : Hid (All 12 #[.int .u64 ((x : Nat) : Int)] (.bool true)) := by rw [← zx]; exact Lib.hid (kzero_c (x) (by simp (config := {maxDischargeDepth := 12}) only [WQ, hx, hy]))
      have G7 : Hid (All 16 #[.int .u64 ((y : Nat) : Int), .int .u64 0] (.bool true)) := by rw [← p2]; exact Lib.hid (above_c (y) 0 (by simp (config := {maxDischargeDepth := 12}) only [WQ, hx, hy]) (by simp (config := {maxDischargeDepth := 12}) only [WQ, hx, hy]))
      exact pow_fp he G0 G1 G2 G3 G4 G5 G6 G7
    have p2 := Bool.eq_false_iff.2 p2
    rw [show powV x y = Inf by simp [powV, powR, o1, zy, n1, n2, k1, p1, zx, p2]]
    have G0 : Hid (All 56 #[.int .u64 ((y : Nat) : Int)] (.int .u64 ((wholeV 0 y : Nat) : Int))) := Lib.hid (trunc_c (y) (by simp (config := {maxDischargeDepth := 12}) only [WQ, hx, hy]))
    have G1 : Hid (All 48 #[.int .u64 ((wholeV 0 y : Nat) : Int), .int .u64 ((y : Nat) : Int)] (.tuple #[.int .i64 ((cmpV (wholeV 0 y) y)), .bool true])) := by rw [← o1]; exact Lib.hid (all_of (cmp_c (wholeV 0 y) (y) (by simp (config := {maxDischargeDepth := 12}) only [WQ, hx, hy]) (by simp (config := {maxDischargeDepth := 12}) only [WQ, hx, hy])))
    have G2 : Hid (All 12 #[.int .u64 ((y : Nat) : Int)] (.bool false)) := by rw [← zy]; exact Lib.hid (kzero_c (y) (by simp (config := {maxDischargeDepth := 12}) only [WQ, hx, hy]))
    have G3 : Hid (All 11 #[.int .u64 ((x : Nat) : Int)] (.bool false)) := by rw [← n1]; exact Lib.hid (knan_c (x) (by simp (config := {maxDischargeDepth := 12}) only [WQ, hx, hy]))
    have G4 : Hid (All 11 #[.int .u64 ((y : Nat) : Int)] (.bool false)) := by rw [← n2]; exact Lib.hid (knan_c (y) (by simp (config := {maxDischargeDepth := 12}) only [WQ, hx, hy]))
    have G5 : Hid (All 16 #[.int .u64 ((x : Nat) : Int), .int .u64 0] (.bool false)) := by rw [← p1]; exact Lib.hid (above_c (x) 0 (by simp (config := {maxDischargeDepth := 12}) only [WQ, hx, hy]) (by simp (config := {maxDischargeDepth := 12}) only [WQ, hx, hy]))
    have G6 : Hid (All 12 #[.int .u64 ((x : Nat) : Int)] (.bool true)) := by rw [← zx]; exact Lib.hid (kzero_c (x) (by simp (config := {maxDischargeDepth := 12}) only [WQ, hx, hy]))
    have G7 : Hid (All 16 #[.int .u64 ((y : Nat) : Int), .int .u64 0] (.bool false)) := by rw [← p2]; exact Lib.hid (above_c (y) 0 (by simp (config := {maxDischargeDepth := 12}) only [WQ, hx, hy]) (by simp (config := {maxDischargeDepth := 12}) only [WQ, hx, hy]))
    exact pow_fi he G0 G1 G2 G3 G4 G5 G6 G7
  have zx := Bool.eq_false_iff.2 zx
  rw [show powV x y = NaN by simp [powV, powR, o1, zy, n1, n2, k1, p1, zx]]
  have G0 : Hid (All 56 #[.int .u64 ((y : Nat) : Int)] (.int .u64 ((wholeV 0 y : Nat) : Int))) := Lib.hid (trunc_c (y) (by simp (config := {maxDischargeDepth := 12}) only [WQ, hx, hy]))
  have G1 : Hid (All 48 #[.int .u64 ((wholeV 0 y : Nat) : Int), .int .u64 ((y : Nat) : Int)] (.tuple #[.int .i64 ((cmpV (wholeV 0 y) y)), .bool true])) := by rw [← o1]; exact Lib.hid (all_of (cmp_c (wholeV 0 y) (y) (by simp (config := {maxDischargeDepth := 12}) only [WQ, hx, hy]) (by simp (config := {maxDischargeDepth := 12}) only [WQ, hx, hy])))
  have G2 : Hid (All 12 #[.int .u64 ((y : Nat) : Int)] (.bool false)) := by rw [← zy]; exact Lib.hid (kzero_c (y) (by simp (config := {maxDischargeDepth := 12}) only [WQ, hx, hy]))
  have G3 : Hid (All 11 #[.int .u64 ((x : Nat) : Int)] (.bool false)) := by rw [← n1]; exact Lib.hid (knan_c (x) (by simp (config := {maxDischargeDepth := 12}) only [WQ, hx, hy]))
  have G4 : Hid (All 11 #[.int .u64 ((y : Nat) : Int)] (.bool false)) := by rw [← n2]; exact Lib.hid (knan_c (y) (by simp (config := {maxDischargeDepth := 12}) only [WQ, hx, hy]))
  have G5 : Hid (All 16 #[.int .u64 ((x : Nat) : Int), .int .u64 0] (.bool false)) := by rw [← p1]; exact Lib.hid (above_c (x) 0 (by simp (config := {maxDischargeDepth := 12}) only [WQ, hx, hy]) (by simp (config := {maxDischargeDepth := 12}) only [WQ, hx, hy]))
  have G6 : Hid (All 12 #[.int .u64 ((x : Nat) : Int)] (.bool false)) := by rw [← zx]; exact Lib.hid (kzero_c (x) (by simp (config := {maxDischargeDepth := 12}) only [WQ, hx, hy]))
  exact pow_fm he G0 G1 G2 G3 G4 G5 G6
theorem pow_f (x y : Nat) (hx : W x) (hy : W y) (o1 : okV (wholeV 0 y) y = false) : All 32 #[.int .u64 ((x : Nat) : Int), .int .u64 ((y : Nat) : Int)] (.int .u64 ((powV x y : Nat) : Int)) := by
  by_cases zy : zer y = true
  · rw [show powV x y = SF.One by simp [powV, powR, zy]]
    have G0 : Hid (All 56 #[.int .u64 ((y : Nat) : Int)] (.int .u64 ((wholeV 0 y : Nat) : Int))) := Lib.hid (trunc_c (y) (by simp (config := {maxDischargeDepth := 12}) only [WQ, hx, hy]))
    have G1 : Hid (All 48 #[.int .u64 ((wholeV 0 y : Nat) : Int), .int .u64 ((y : Nat) : Int)] (.tuple #[.int .i64 ((cmpV (wholeV 0 y) y)), .bool false])) := by rw [← o1]; exact Lib.hid (all_of (cmp_c (wholeV 0 y) (y) (by simp (config := {maxDischargeDepth := 12}) only [WQ, hx, hy]) (by simp (config := {maxDischargeDepth := 12}) only [WQ, hx, hy])))
    have G2 : Hid (All 12 #[.int .u64 ((y : Nat) : Int)] (.bool true)) := by rw [← zy]; exact Lib.hid (kzero_c (y) (by simp (config := {maxDischargeDepth := 12}) only [WQ, hx, hy]))
    exact pow_zf G0 G1 G2
  have zy := Bool.eq_false_iff.2 zy
  by_cases n1 : nan x = true
  · rw [show powV x y = NaN by simp [powV, powR, zy, n1]]
    have G0 : Hid (All 56 #[.int .u64 ((y : Nat) : Int)] (.int .u64 ((wholeV 0 y : Nat) : Int))) := Lib.hid (trunc_c (y) (by simp (config := {maxDischargeDepth := 12}) only [WQ, hx, hy]))
    have G1 : Hid (All 48 #[.int .u64 ((wholeV 0 y : Nat) : Int), .int .u64 ((y : Nat) : Int)] (.tuple #[.int .i64 ((cmpV (wholeV 0 y) y)), .bool false])) := by rw [← o1]; exact Lib.hid (all_of (cmp_c (wholeV 0 y) (y) (by simp (config := {maxDischargeDepth := 12}) only [WQ, hx, hy]) (by simp (config := {maxDischargeDepth := 12}) only [WQ, hx, hy])))
    have G2 : Hid (All 12 #[.int .u64 ((y : Nat) : Int)] (.bool false)) := by rw [← zy]; exact Lib.hid (kzero_c (y) (by simp (config := {maxDischargeDepth := 12}) only [WQ, hx, hy]))
    have G3 : Hid (All 11 #[.int .u64 ((x : Nat) : Int)] (.bool true)) := by rw [← n1]; exact Lib.hid (knan_c (x) (by simp (config := {maxDischargeDepth := 12}) only [WQ, hx, hy]))
    exact pow_n1f G0 G1 G2 G3
  have n1 := Bool.eq_false_iff.2 n1
  by_cases n2 : nan y = true
  · rw [show powV x y = NaN by simp [powV, powR, zy, n1, n2]]
    have G0 : Hid (All 56 #[.int .u64 ((y : Nat) : Int)] (.int .u64 ((wholeV 0 y : Nat) : Int))) := Lib.hid (trunc_c (y) (by simp (config := {maxDischargeDepth := 12}) only [WQ, hx, hy]))
    have G1 : Hid (All 48 #[.int .u64 ((wholeV 0 y : Nat) : Int), .int .u64 ((y : Nat) : Int)] (.tuple #[.int .i64 ((cmpV (wholeV 0 y) y)), .bool false])) := by rw [← o1]; exact Lib.hid (all_of (cmp_c (wholeV 0 y) (y) (by simp (config := {maxDischargeDepth := 12}) only [WQ, hx, hy]) (by simp (config := {maxDischargeDepth := 12}) only [WQ, hx, hy])))
    have G2 : Hid (All 12 #[.int .u64 ((y : Nat) : Int)] (.bool false)) := by rw [← zy]; exact Lib.hid (kzero_c (y) (by simp (config := {maxDischargeDepth := 12}) only [WQ, hx, hy]))
    have G3 : Hid (All 11 #[.int .u64 ((x : Nat) : Int)] (.bool false)) := by rw [← n1]; exact Lib.hid (knan_c (x) (by simp (config := {maxDischargeDepth := 12}) only [WQ, hx, hy]))
    have G4 : Hid (All 11 #[.int .u64 ((y : Nat) : Int)] (.bool true)) := by rw [← n2]; exact Lib.hid (knan_c (y) (by simp (config := {maxDischargeDepth := 12}) only [WQ, hx, hy]))
    exact pow_n2f G0 G1 G2 G3 G4
  have n2 := Bool.eq_false_iff.2 n2
  have k1 : powOk y = false := by simp [powOk, o1]
  by_cases p1 : belowV 0 x = true
  · rw [show powV x y = expV (mulV y (lnV x)) by simp [powV, powR, o1, zy, n1, n2, k1, p1]]
    have G0 : Hid (All 56 #[.int .u64 ((y : Nat) : Int)] (.int .u64 ((wholeV 0 y : Nat) : Int))) := Lib.hid (trunc_c (y) (by simp (config := {maxDischargeDepth := 12}) only [WQ, hx, hy]))
    have G1 : Hid (All 48 #[.int .u64 ((wholeV 0 y : Nat) : Int), .int .u64 ((y : Nat) : Int)] (.tuple #[.int .i64 ((cmpV (wholeV 0 y) y)), .bool false])) := by rw [← o1]; exact Lib.hid (all_of (cmp_c (wholeV 0 y) (y) (by simp (config := {maxDischargeDepth := 12}) only [WQ, hx, hy]) (by simp (config := {maxDischargeDepth := 12}) only [WQ, hx, hy])))
    have G2 : Hid (All 12 #[.int .u64 ((y : Nat) : Int)] (.bool false)) := by rw [← zy]; exact Lib.hid (kzero_c (y) (by simp (config := {maxDischargeDepth := 12}) only [WQ, hx, hy]))
    have G3 : Hid (All 11 #[.int .u64 ((x : Nat) : Int)] (.bool false)) := by rw [← n1]; exact Lib.hid (knan_c (x) (by simp (config := {maxDischargeDepth := 12}) only [WQ, hx, hy]))
    have G4 : Hid (All 11 #[.int .u64 ((y : Nat) : Int)] (.bool false)) := by rw [← n2]; exact Lib.hid (knan_c (y) (by simp (config := {maxDischargeDepth := 12}) only [WQ, hx, hy]))
    have G5 : Hid (All 16 #[.int .u64 ((x : Nat) : Int), .int .u64 0] (.bool true)) := by rw [← p1]; exact Lib.hid (above_c (x) 0 (by simp (config := {maxDischargeDepth := 12}) only [WQ, hx, hy]) (by simp (config := {maxDischargeDepth := 12}) only [WQ, hx, hy]))
    have G6 : Hid (All 31 #[.int .u64 ((x : Nat) : Int)] (.int .u64 ((lnV x : Nat) : Int))) := Lib.hid (ln_c (x) (by simp (config := {maxDischargeDepth := 12}) only [WQ, hx, hy]))
    have G7 : Hid (All 20 #[.int .u64 ((y : Nat) : Int), .int .u64 ((lnV x : Nat) : Int)] (.int .u64 ((mulV y (lnV x) : Nat) : Int))) := Lib.hid (mul_c (y) (lnV x) (by simp (config := {maxDischargeDepth := 12}) only [WQ, hx, hy]) (by simp (config := {maxDischargeDepth := 12}) only [WQ, hx, hy]))
    have G8 : Hid (All 5 #[.int .u64 ((mulV y (lnV x) : Nat) : Int)] (.int .u64 ((expV (mulV y (lnV x)) : Nat) : Int))) := Lib.hid (exp_c (mulV y (lnV x)) (by simp (config := {maxDischargeDepth := 12}) only [WQ, hx, hy]))
    exact pow_ge G0 G1 G2 G3 G4 G5 G6 G7 G8
  have p1 := Bool.eq_false_iff.2 p1
  by_cases zx : zer x = true
  · by_cases p2 : belowV 0 y = true
    · rw [show powV x y = 0 by simp [powV, powR, o1, zy, n1, n2, k1, p1, zx, p2]]
      have G0 : Hid (All 56 #[.int .u64 ((y : Nat) : Int)] (.int .u64 ((wholeV 0 y : Nat) : Int))) := Lib.hid (trunc_c (y) (by simp (config := {maxDischargeDepth := 12}) only [WQ, hx, hy]))
      have G1 : Hid (All 48 #[.int .u64 ((wholeV 0 y : Nat) : Int), .int .u64 ((y : Nat) : Int)] (.tuple #[.int .i64 ((cmpV (wholeV 0 y) y)), .bool false])) := by rw [← o1]; exact Lib.hid (all_of (cmp_c (wholeV 0 y) (y) (by simp (config := {maxDischargeDepth := 12}) only [WQ, hx, hy]) (by simp (config := {maxDischargeDepth := 12}) only [WQ, hx, hy])))
      have G2 : Hid (All 12 #[.int .u64 ((y : Nat) : Int)] (.bool false)) := by rw [← zy]; exact Lib.hid (kzero_c (y) (by simp (config := {maxDischargeDepth := 12}) only [WQ, hx, hy]))
      have G3 : Hid (All 11 #[.int .u64 ((x : Nat) : Int)] (.bool false)) := by rw [← n1]; exact Lib.hid (knan_c (x) (by simp (config := {maxDischargeDepth := 12}) only [WQ, hx, hy]))
      have G4 : Hid (All 11 #[.int .u64 ((y : Nat) : Int)] (.bool false)) := by rw [← n2]; exact Lib.hid (knan_c (y) (by simp (config := {maxDischargeDepth := 12}) only [WQ, hx, hy]))
      have G5 : Hid (All 16 #[.int .u64 ((x : Nat) : Int), .int .u64 0] (.bool false)) := by rw [← p1]; exact Lib.hid (above_c (x) 0 (by simp (config := {maxDischargeDepth := 12}) only [WQ, hx, hy]) (by simp (config := {maxDischargeDepth := 12}) only [WQ, hx, hy]))
      have G6 : Hid (All 12 #[.int .u64 ((x : Nat) : Int)] (.bool true)) := by rw [← zx]; exact Lib.hid (kzero_c (x) (by simp (config := {maxDischargeDepth := 12}) only [WQ, hx, hy]))
      have G7 : Hid (All 16 #[.int .u64 ((y : Nat) : Int), .int .u64 0] (.bool true)) := by rw [← p2]; exact Lib.hid (above_c (y) 0 (by simp (config := {maxDischargeDepth := 12}) only [WQ, hx, hy]) (by simp (config := {maxDischargeDepth := 12}) only [WQ, hx, hy]))
      exact pow_gp G0 G1 G2 G3 G4 G5 G6 G7
    have p2 := Bool.eq_false_iff.2 p2
    rw [show powV x y = Inf by simp [powV, powR, o1, zy, n1, n2, k1, p1, zx, p2]]
    have G0 : Hid (All 56 #[.int .u64 ((y : Nat) : Int)] (.int .u64 ((wholeV 0 y : Nat) : Int))) := Lib.hid (trunc_c (y) (by simp (config := {maxDischargeDepth := 12}) only [WQ, hx, hy]))
    have G1 : Hid (All 48 #[.int .u64 ((wholeV 0 y : Nat) : Int), .int .u64 ((y : Nat) : Int)] (.tuple #[.int .i64 ((cmpV (wholeV 0 y) y)), .bool false])) := by rw [← o1]; exact Lib.hid (all_of (cmp_c (wholeV 0 y) (y) (by simp (config := {maxDischargeDepth := 12}) only [WQ, hx, hy]) (by simp (config := {maxDischargeDepth := 12}) only [WQ, hx, hy])))
    have G2 : Hid (All 12 #[.int .u64 ((y : Nat) : Int)] (.bool false)) := by rw [← zy]; exact Lib.hid (kzero_c (y) (by simp (config := {maxDischargeDepth := 12}) only [WQ, hx, hy]))
    have G3 : Hid (All 11 #[.int .u64 ((x : Nat) : Int)] (.bool false)) := by rw [← n1]; exact Lib.hid (knan_c (x) (by simp (config := {maxDischargeDepth := 12}) only [WQ, hx, hy]))
    have G4 : Hid (All 11 #[.int .u64 ((y : Nat) : Int)] (.bool false)) := by rw [← n2]; exact Lib.hid (knan_c (y) (by simp (config := {maxDischargeDepth := 12}) only [WQ, hx, hy]))
    have G5 : Hid (All 16 #[.int .u64 ((x : Nat) : Int), .int .u64 0] (.bool false)) := by rw [← p1]; exact Lib.hid (above_c (x) 0 (by simp (config := {maxDischargeDepth := 12}) only [WQ, hx, hy]) (by simp (config := {maxDischargeDepth := 12}) only [WQ, hx, hy]))
    have G6 : Hid (All 12 #[.int .u64 ((x : Nat) : Int)] (.bool true)) := by rw [← zx]; exact Lib.hid (kzero_c (x) (by simp (config := {maxDischargeDepth := 12}) only [WQ, hx, hy]))
    have G7 : Hid (All 16 #[.int .u64 ((y : Nat) : Int), .int .u64 0] (.bool false)) := by rw [← p2]; exact Lib.hid (above_c (y) 0 (by simp (config := {maxDischargeDepth := 12}) only [WQ, hx, hy]) (by simp (config := {maxDischargeDepth := 12}) only [WQ, hx, hy]))
    exact pow_gi G0 G1 G2 G3 G4 G5 G6 G7
  have zx := Bool.eq_false_iff.2 zx
  rw [show powV x y = NaN by simp [powV, powR, o1, zy, n1, n2, k1, p1, zx]]
  have G0 : Hid (All 56 #[.int .u64 ((y : Nat) : Int)] (.int .u64 ((wholeV 0 y : Nat) : Int))) := Lib.hid (trunc_c (y) (by simp (config := {maxDischargeDepth := 12}) only [WQ, hx, hy]))
  have G1 : Hid (All 48 #[.int .u64 ((wholeV 0 y : Nat) : Int), .int .u64 ((y : Nat) : Int)] (.tuple #[.int .i64 ((cmpV (wholeV 0 y) y)), .bool false])) := by rw [← o1]; exact Lib.hid (all_of (cmp_c (wholeV 0 y) (y) (by simp (config := {maxDischargeDepth := 12}) only [WQ, hx, hy]) (by simp (config := {maxDischargeDepth := 12}) only [WQ, hx, hy])))
  have G2 : Hid (All 12 #[.int .u64 ((y : Nat) : Int)] (.bool false)) := by rw [← zy]; exact Lib.hid (kzero_c (y) (by simp (config := {maxDischargeDepth := 12}) only [WQ, hx, hy]))
  have G3 : Hid (All 11 #[.int .u64 ((x : Nat) : Int)] (.bool false)) := by rw [← n1]; exact Lib.hid (knan_c (x) (by simp (config := {maxDischargeDepth := 12}) only [WQ, hx, hy]))
  have G4 : Hid (All 11 #[.int .u64 ((y : Nat) : Int)] (.bool false)) := by rw [← n2]; exact Lib.hid (knan_c (y) (by simp (config := {maxDischargeDepth := 12}) only [WQ, hx, hy]))
  have G5 : Hid (All 16 #[.int .u64 ((x : Nat) : Int), .int .u64 0] (.bool false)) := by rw [← p1]; exact Lib.hid (above_c (x) 0 (by simp (config := {maxDischargeDepth := 12}) only [WQ, hx, hy]) (by simp (config := {maxDischargeDepth := 12}) only [WQ, hx, hy]))
  have G6 : Hid (All 12 #[.int .u64 ((x : Nat) : Int)] (.bool false)) := by rw [← zx]; exact Lib.hid (kzero_c (x) (by simp (config := {maxDischargeDepth := 12}) only [WQ, hx, hy]))
  exact pow_gm G0 G1 G2 G3 G4 G5 G6
theorem pow_c (x y : Nat) (hx : W x) (hy : W y) : All 32 #[.int .u64 ((x : Nat) : Int), .int .u64 ((y : Nat) : Int)] (.int .u64 ((powV x y : Nat) : Int)) := by
  by_cases o1 : okV (wholeV 0 y) y = true
  · exact pow_t x y hx hy o1
  · exact pow_f x y hx hy (Bool.eq_false_iff.2 o1)
