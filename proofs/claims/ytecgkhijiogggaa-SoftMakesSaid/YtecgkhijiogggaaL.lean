/- Compare and what stands on it, and Scale. -/
import Derived.Test.YtecgkhijiogggaaJ
namespace Go.Proofs.Ytecgkhijiogggaa
set_option linter.unusedVariables false
set_option linter.unusedSimpArgs false
open Go.RowKit Go.Shelf SF
theorem order_c (a : Nat) (ha : W a) (w : World) : Calls Try.prog 95 #[.int .u64 a] w fun e w' => e = .returned (.int .i64 (ordV a)) ∧ w = w' := by
  have G := Lib.hid (isneg_c a ha)
  have X := bandnot_sign ha
  have ml := mag_lt a
  have e0 : ng a = false → (a : Int) = ((mag a : Nat) : Int) := fun h => by
    unfold W at ha; unfold ng at h; unfold mag
    rw [decide_eq_false_iff_not] at h; omega
  unfold ordV
  obtain ⟨n, hn⟩ : ∃ n, ng a = n := ⟨_, rfl⟩
  obtain ⟨m, hm⟩ : ∃ m : Int, ((mag a : Nat) : Int) = m := ⟨_, rfl⟩
  have m0 : 0 ≤ m ∧ m < 9223372036854775808 := by omega
  rw [hn] at G e0 ⊢
  rw [hm] at X e0 ⊢
  clear hn hm ml ha
  cases n
  · have e1 := e0 rfl
    clear e0
    rw [e1] at X G ⊢
    go_enter Try.func95, Try.ntmps95
    go_wp2_with (first
    | (go_at_call 61; (with_reducible refine (G.out _).mono ?_); rintro e1 w1 ⟨rfl, rfl⟩))
    go_ret
    exact ⟨rfl, rfl⟩
  · clear e0
    go_enter Try.func95, Try.ntmps95
    go_wp2_with (first
    | (go_at_call 61; (with_reducible refine (G.out _).mono ?_); rintro e1 w1 ⟨rfl, rfl⟩))
    go_ret
    exact ⟨rfl, rfl⟩
theorem cmp_n1 (a b : Nat) (N1 : Hid (PB 62 a true)) (w : World) : Calls Try.prog 42 #[.int .u64 a, .int .u64 b] w fun e w' => e = .returned (.tuple #[.int .i64 (0), .bool false]) ∧ w = w' := by
  go_enter Try.func42, Try.ntmps42
  go_wp2_with (first
    | (go_at_call 62; (with_reducible refine (N1.out _).mono ?_); rintro e1 w1 ⟨rfl, rfl⟩))
  go_ret2
  exact ⟨rfl, rfl⟩
theorem cmp_n2 (a b : Nat) (N1 : Hid (PB 62 a false)) (N2 : Hid (PB 62 b true)) (w : World) : Calls Try.prog 42 #[.int .u64 a, .int .u64 b] w fun e w' => e = .returned (.tuple #[.int .i64 (0), .bool false]) ∧ w = w' := by
  go_enter Try.func42, Try.ntmps42
  go_wp2_with (first
    | (go_at_call 62; (with_reducible refine (N1.out _).mono ?_); rintro e1 w1 ⟨rfl, rfl⟩)
    | (go_at_call 62; (with_reducible refine (N2.out _).mono ?_); rintro e1 w1 ⟨rfl, rfl⟩))
  go_ret2
  exact ⟨rfl, rfl⟩
theorem cmp_lt (a b : Nat) (x y : Int) (HX : Hid (∀ w, Calls Try.prog 95 #[.int .u64 a] w fun e w' => e = .returned (.int .i64 x) ∧ w = w')) (HY : Hid (∀ w, Calls Try.prog 95 #[.int .u64 b] w fun e w' => e = .returned (.int .i64 y) ∧ w = w')) (ho : x < y) (N1 : Hid (PB 62 a false)) (N2 : Hid (PB 62 b false)) (w : World) : Calls Try.prog 42 #[.int .u64 a, .int .u64 b] w fun e w' => e = .returned (.tuple #[.int .i64 (-1), .bool true]) ∧ w = w' := by
  go_enter Try.func42, Try.ntmps42
  go_wp2_with (first
    | (go_at_call 62; (with_reducible refine (N1.out _).mono ?_); rintro e1 w1 ⟨rfl, rfl⟩)
    | (go_at_call 62; (with_reducible refine (N2.out _).mono ?_); rintro e1 w1 ⟨rfl, rfl⟩)
    | (go_at_call 95; (with_reducible refine (HX.out _).mono ?_); rintro e1 w1 ⟨rfl, rfl⟩)
    | (go_at_call 95; (with_reducible refine (HY.out _).mono ?_); rintro e1 w1 ⟨rfl, rfl⟩))
  go_ret2
  exact ⟨rfl, rfl⟩
theorem cmp_gt (a b : Nat) (x y : Int) (HX : Hid (∀ w, Calls Try.prog 95 #[.int .u64 a] w fun e w' => e = .returned (.int .i64 x) ∧ w = w')) (HY : Hid (∀ w, Calls Try.prog 95 #[.int .u64 b] w fun e w' => e = .returned (.int .i64 y) ∧ w = w')) (ho : y < x) (N1 : Hid (PB 62 a false)) (N2 : Hid (PB 62 b false)) (w : World) : Calls Try.prog 42 #[.int .u64 a, .int .u64 b] w fun e w' => e = .returned (.tuple #[.int .i64 (1), .bool true]) ∧ w = w' := by
  go_enter Try.func42, Try.ntmps42
  go_wp2_with (first
    | (go_at_call 62; (with_reducible refine (N1.out _).mono ?_); rintro e1 w1 ⟨rfl, rfl⟩)
    | (go_at_call 62; (with_reducible refine (N2.out _).mono ?_); rintro e1 w1 ⟨rfl, rfl⟩)
    | (go_at_call 95; (with_reducible refine (HX.out _).mono ?_); rintro e1 w1 ⟨rfl, rfl⟩)
    | (go_at_call 95; (with_reducible refine (HY.out _).mono ?_); rintro e1 w1 ⟨rfl, rfl⟩))
  go_ret2
  exact ⟨rfl, rfl⟩
theorem cmp_eq (a b : Nat) (x y : Int) (HX : Hid (∀ w, Calls Try.prog 95 #[.int .u64 a] w fun e w' => e = .returned (.int .i64 x) ∧ w = w')) (HY : Hid (∀ w, Calls Try.prog 95 #[.int .u64 b] w fun e w' => e = .returned (.int .i64 y) ∧ w = w')) (ho : ¬ x < y) (hp : ¬ y < x) (N1 : Hid (PB 62 a false)) (N2 : Hid (PB 62 b false)) (w : World) : Calls Try.prog 42 #[.int .u64 a, .int .u64 b] w fun e w' => e = .returned (.tuple #[.int .i64 (0), .bool true]) ∧ w = w' := by
  go_enter Try.func42, Try.ntmps42
  go_wp2_with (first
    | (go_at_call 62; (with_reducible refine (N1.out _).mono ?_); rintro e1 w1 ⟨rfl, rfl⟩)
    | (go_at_call 62; (with_reducible refine (N2.out _).mono ?_); rintro e1 w1 ⟨rfl, rfl⟩)
    | (go_at_call 95; (with_reducible refine (HX.out _).mono ?_); rintro e1 w1 ⟨rfl, rfl⟩)
    | (go_at_call 95; (with_reducible refine (HY.out _).mono ?_); rintro e1 w1 ⟨rfl, rfl⟩))
  go_ret2
  exact ⟨rfl, rfl⟩
theorem cmp_c (a b : Nat) (ha : W a) (hb : W b) (w : World) : Calls Try.prog 42 #[.int .u64 a, .int .u64 b] w fun e w' => e = .returned (.tuple #[.int .i64 (cmpV a b), .bool (okV a b)]) ∧ w = w' := by
  have N1 := Lib.hid (isnan_c a ha)
  have N2 := Lib.hid (isnan_c b hb)
  have HX := Lib.hid (order_c a ha)
  have HY := Lib.hid (order_c b hb)
  by_cases n1 : nan a = true
  · rw [show cmpV a b = 0 by simp [cmpV, n1], show okV a b = false by simp [okV, n1]]; rw [n1] at N1; exact cmp_n1 a b N1 w
  have n1 := Bool.eq_false_iff.2 n1; rw [n1] at N1
  by_cases n2 : nan b = true
  · rw [show cmpV a b = 0 by simp [cmpV, n2], show okV a b = false by simp [okV, n2]]; rw [n2] at N2; exact cmp_n2 a b N1 N2 w
  have n2 := Bool.eq_false_iff.2 n2; rw [n2] at N2
  rw [show okV a b = true by simp [okV, n1, n2], show cmpV a b = cmpI (ordV a) (ordV b) by simp [cmpV, n1, n2]]
  unfold cmpI
  by_cases o : ordV a < ordV b
  · rw [if_pos o]; exact cmp_lt a b _ _ HX HY o N1 N2 w
  rw [if_neg o]
  by_cases o2 : ordV b < ordV a
  · rw [if_pos o2]; exact cmp_gt a b _ _ HX HY o2 N1 N2 w
  rw [if_neg o2]; exact cmp_eq a b _ _ HX HY o o2 N1 N2 w
theorem rorder_c (a : Nat) (ha : W a) (w : World) : Calls Try.prog 99 #[.int .u64 a] w fun e w' => e = .returned (.int .i64 (ordV a)) ∧ w = w' := by
  have G := Lib.hid (rminus_c a ha)
  have X := bandnot_sign ha
  have ml := mag_lt a
  have e0 : ng a = false → (a : Int) = ((mag a : Nat) : Int) := fun h => by
    unfold W at ha; unfold ng at h; unfold mag
    rw [decide_eq_false_iff_not] at h; omega
  unfold ordV
  obtain ⟨n, hn⟩ : ∃ n, ng a = n := ⟨_, rfl⟩
  obtain ⟨m, hm⟩ : ∃ m : Int, ((mag a : Nat) : Int) = m := ⟨_, rfl⟩
  have m0 : 0 ≤ m ∧ m < 9223372036854775808 := by omega
  rw [hn] at G e0 ⊢
  rw [hm] at X e0 ⊢
  clear hn hm ml ha
  cases n
  · have e1 := e0 rfl
    clear e0
    rw [e1] at X G ⊢
    go_enter Try.func99, Try.ntmps99
    go_wp2_with (first
    | (go_at_call 70; (with_reducible refine (G.out _).mono ?_); rintro e1 w1 ⟨rfl, rfl⟩))
    go_ret
    exact ⟨rfl, rfl⟩
  · clear e0
    go_enter Try.func99, Try.ntmps99
    go_wp2_with (first
    | (go_at_call 70; (with_reducible refine (G.out _).mono ?_); rintro e1 w1 ⟨rfl, rfl⟩))
    go_ret
    exact ⟨rfl, rfl⟩
theorem rcmp_n1 (a b : Nat) (N1 : Hid (PB 71 a true)) (w : World) : Calls Try.prog 48 #[.int .u64 a, .int .u64 b] w fun e w' => e = .returned (.tuple #[.int .i64 (0), .bool false]) ∧ w = w' := by
  go_enter Try.func48, Try.ntmps48
  go_wp2_with (first
    | (go_at_call 71; (with_reducible refine (N1.out _).mono ?_); rintro e1 w1 ⟨rfl, rfl⟩))
  go_ret2
  exact ⟨rfl, rfl⟩
theorem rcmp_n2 (a b : Nat) (N1 : Hid (PB 71 a false)) (N2 : Hid (PB 71 b true)) (w : World) : Calls Try.prog 48 #[.int .u64 a, .int .u64 b] w fun e w' => e = .returned (.tuple #[.int .i64 (0), .bool false]) ∧ w = w' := by
  go_enter Try.func48, Try.ntmps48
  go_wp2_with (first
    | (go_at_call 71; (with_reducible refine (N1.out _).mono ?_); rintro e1 w1 ⟨rfl, rfl⟩)
    | (go_at_call 71; (with_reducible refine (N2.out _).mono ?_); rintro e1 w1 ⟨rfl, rfl⟩))
  go_ret2
  exact ⟨rfl, rfl⟩
theorem rcmp_lt (a b : Nat) (x y : Int) (HX : Hid (∀ w, Calls Try.prog 99 #[.int .u64 a] w fun e w' => e = .returned (.int .i64 x) ∧ w = w')) (HY : Hid (∀ w, Calls Try.prog 99 #[.int .u64 b] w fun e w' => e = .returned (.int .i64 y) ∧ w = w')) (ho : x < y) (N1 : Hid (PB 71 a false)) (N2 : Hid (PB 71 b false)) (w : World) : Calls Try.prog 48 #[.int .u64 a, .int .u64 b] w fun e w' => e = .returned (.tuple #[.int .i64 (-1), .bool true]) ∧ w = w' := by
  go_enter Try.func48, Try.ntmps48
  go_wp2_with (first
    | (go_at_call 71; (with_reducible refine (N1.out _).mono ?_); rintro e1 w1 ⟨rfl, rfl⟩)
    | (go_at_call 71; (with_reducible refine (N2.out _).mono ?_); rintro e1 w1 ⟨rfl, rfl⟩)
    | (go_at_call 99; (with_reducible refine (HX.out _).mono ?_); rintro e1 w1 ⟨rfl, rfl⟩)
    | (go_at_call 99; (with_reducible refine (HY.out _).mono ?_); rintro e1 w1 ⟨rfl, rfl⟩))
  go_ret2
  exact ⟨rfl, rfl⟩
theorem rcmp_gt (a b : Nat) (x y : Int) (HX : Hid (∀ w, Calls Try.prog 99 #[.int .u64 a] w fun e w' => e = .returned (.int .i64 x) ∧ w = w')) (HY : Hid (∀ w, Calls Try.prog 99 #[.int .u64 b] w fun e w' => e = .returned (.int .i64 y) ∧ w = w')) (ho : y < x) (N1 : Hid (PB 71 a false)) (N2 : Hid (PB 71 b false)) (w : World) : Calls Try.prog 48 #[.int .u64 a, .int .u64 b] w fun e w' => e = .returned (.tuple #[.int .i64 (1), .bool true]) ∧ w = w' := by
  go_enter Try.func48, Try.ntmps48
  go_wp2_with (first
    | (go_at_call 71; (with_reducible refine (N1.out _).mono ?_); rintro e1 w1 ⟨rfl, rfl⟩)
    | (go_at_call 71; (with_reducible refine (N2.out _).mono ?_); rintro e1 w1 ⟨rfl, rfl⟩)
    | (go_at_call 99; (with_reducible refine (HX.out _).mono ?_); rintro e1 w1 ⟨rfl, rfl⟩)
    | (go_at_call 99; (with_reducible refine (HY.out _).mono ?_); rintro e1 w1 ⟨rfl, rfl⟩))
  go_ret2
  exact ⟨rfl, rfl⟩
theorem rcmp_eq (a b : Nat) (x y : Int) (HX : Hid (∀ w, Calls Try.prog 99 #[.int .u64 a] w fun e w' => e = .returned (.int .i64 x) ∧ w = w')) (HY : Hid (∀ w, Calls Try.prog 99 #[.int .u64 b] w fun e w' => e = .returned (.int .i64 y) ∧ w = w')) (ho : ¬ x < y) (hp : ¬ y < x) (N1 : Hid (PB 71 a false)) (N2 : Hid (PB 71 b false)) (w : World) : Calls Try.prog 48 #[.int .u64 a, .int .u64 b] w fun e w' => e = .returned (.tuple #[.int .i64 (0), .bool true]) ∧ w = w' := by
  go_enter Try.func48, Try.ntmps48
  go_wp2_with (first
    | (go_at_call 71; (with_reducible refine (N1.out _).mono ?_); rintro e1 w1 ⟨rfl, rfl⟩)
    | (go_at_call 71; (with_reducible refine (N2.out _).mono ?_); rintro e1 w1 ⟨rfl, rfl⟩)
    | (go_at_call 99; (with_reducible refine (HX.out _).mono ?_); rintro e1 w1 ⟨rfl, rfl⟩)
    | (go_at_call 99; (with_reducible refine (HY.out _).mono ?_); rintro e1 w1 ⟨rfl, rfl⟩))
  go_ret2
  exact ⟨rfl, rfl⟩
theorem rcmp_c (a b : Nat) (ha : W a) (hb : W b) (w : World) : Calls Try.prog 48 #[.int .u64 a, .int .u64 b] w fun e w' => e = .returned (.tuple #[.int .i64 (cmpV a b), .bool (okV a b)]) ∧ w = w' := by
  have N1 := Lib.hid (risnan_c a ha)
  have N2 := Lib.hid (risnan_c b hb)
  have HX := Lib.hid (rorder_c a ha)
  have HY := Lib.hid (rorder_c b hb)
  by_cases n1 : nan a = true
  · rw [show cmpV a b = 0 by simp [cmpV, n1], show okV a b = false by simp [okV, n1]]; rw [n1] at N1; exact rcmp_n1 a b N1 w
  have n1 := Bool.eq_false_iff.2 n1; rw [n1] at N1
  by_cases n2 : nan b = true
  · rw [show cmpV a b = 0 by simp [cmpV, n2], show okV a b = false by simp [okV, n2]]; rw [n2] at N2; exact rcmp_n2 a b N1 N2 w
  have n2 := Bool.eq_false_iff.2 n2; rw [n2] at N2
  rw [show okV a b = true by simp [okV, n1, n2], show cmpV a b = cmpI (ordV a) (ordV b) by simp [cmpV, n1, n2]]
  unfold cmpI
  by_cases o : ordV a < ordV b
  · rw [if_pos o]; exact rcmp_lt a b _ _ HX HY o N1 N2 w
  rw [if_neg o]
  by_cases o2 : ordV b < ordV a
  · rw [if_pos o2]; exact rcmp_gt a b _ _ HX HY o2 N1 N2 w
  rw [if_neg o2]; exact rcmp_eq a b _ _ HX HY o o2 N1 N2 w
theorem one_no (a b : Nat) (n : Int) (c : Int) (HC : Hid (∀ w, Calls Try.prog 42 #[.int .u64 a, .int .u64 b] w fun e w' => e = .returned (.tuple #[.int .i64 c, .bool false]) ∧ w = w')) (w : World) : Calls Try.prog 100 #[.int .u64 a, .int .u64 b, .int .i64 n] w fun e w' => e = .returned (.int .u64 (9221120237041090560)) ∧ w = w' := by
  go_enter Try.func100, Try.ntmps100
  go_wp2_with (first
    | (go_at_call 42; (with_reducible refine (HC.out _).mono ?_); rintro e1 w1 ⟨rfl, rfl⟩))
  go_ret
  exact ⟨rfl, rfl⟩
theorem one_a (a b : Nat) (n : Int) (c : Int) (HC : Hid (∀ w, Calls Try.prog 42 #[.int .u64 a, .int .u64 b] w fun e w' => e = .returned (.tuple #[.int .i64 c, .bool true]) ∧ w = w')) (h : ¬ c = n) (w : World) : Calls Try.prog 100 #[.int .u64 a, .int .u64 b, .int .i64 n] w fun e w' => e = .returned (.int .u64 ((a : Int))) ∧ w = w' := by
  go_enter Try.func100, Try.ntmps100
  go_wp2_with (first
    | (go_at_call 42; (with_reducible refine (HC.out _).mono ?_); rintro e1 w1 ⟨rfl, rfl⟩))
  go_ret
  exact ⟨rfl, rfl⟩
theorem one_b (a b : Nat) (n : Int) (c : Int) (HC : Hid (∀ w, Calls Try.prog 42 #[.int .u64 a, .int .u64 b] w fun e w' => e = .returned (.tuple #[.int .i64 c, .bool true]) ∧ w = w')) (h : c = n) (w : World) : Calls Try.prog 100 #[.int .u64 a, .int .u64 b, .int .i64 n] w fun e w' => e = .returned (.int .u64 ((b : Int))) ∧ w = w' := by
  subst h
  go_enter Try.func100, Try.ntmps100
  go_wp2_with (first
    | (go_at_call 42; (with_reducible refine (HC.out _).mono ?_); rintro e1 w1 ⟨rfl, rfl⟩))
  go_ret
  exact ⟨rfl, rfl⟩
theorem ok_nan {a b : Nat} (h : okV a b = false) : (nan a || nan b) = true := by unfold okV at h; revert h; cases nan a <;> cases nan b <;> decide
theorem ok_not {a b : Nat} (h : okV a b = true) : (nan a || nan b) = false := by unfold okV at h; revert h; cases nan a <;> cases nan b <;> decide
theorem cmpI_lt {x y : Int} : cmpI x y = -1 ↔ x < y := by unfold cmpI; split; simp [*]; split <;> simp <;> omega
theorem cmpI_gt {x y : Int} : cmpI x y = 1 ↔ y < x := by unfold cmpI; split; simp; omega; split <;> simp <;> omega
theorem cmpI_cases (x y : Int) : cmpI x y = -1 ∨ cmpI x y = 0 ∨ cmpI x y = 1 := by unfold cmpI; split; simp; split <;> simp
theorem max_c (a b : Nat) (ha : W a) (hb : W b) (w : World) : Calls Try.prog 49 #[.int .u64 a, .int .u64 b] w fun e w' => e = .returned (.int .u64 ((maxV a b : Nat) : Int)) ∧ w = w' := by
  have HO : ∀ w, Calls Try.prog 100 #[.int .u64 a, .int .u64 b, .int .i64 (-1)] w fun e w' => e = .returned (.int .u64 ((maxV a b : Nat) : Int)) ∧ w = w' := by
    intro w
    have HC := Lib.hid (cmp_c a b ha hb)
    obtain ⟨k, hk⟩ : ∃ k, okV a b = k := ⟨_, rfl⟩
    cases k
    · have := ok_nan hk
      rw [hk] at HC
      rw [show maxV a b = NaN by simp only [maxV]; rw [if_pos this]]
      exact one_no a b _ _ HC w
    · have := ok_not hk
      rw [hk] at HC
      have hc : cmpV a b = cmpI (ordV a) (ordV b) := by simp only [cmpV]; rw [this]; rfl
      have hv : maxV a b = if ordV a < ordV b then b else a := by simp only [maxV]; rw [this]; rfl
      rw [hc] at HC
      rw [hv]
      by_cases o : ordV a < ordV b
      · rw [if_pos o]; exact one_b a b _ _ HC (cmpI_lt.2 o) w
      · rw [if_neg o]; exact one_a a b _ _ HC (fun h => o (cmpI_lt.1 h)) w
  have HO := Lib.hid HO
  go_enter Try.func49, Try.ntmps49
  go_wp2_with (first
    | (go_at_call 100; (with_reducible refine (HO.out _).mono ?_); rintro e1 w1 ⟨rfl, rfl⟩))
  go_ret
  exact ⟨rfl, rfl⟩
theorem rmax_no (a b : Nat) (c : Int) (HC : Hid (∀ w, Calls Try.prog 48 #[.int .u64 a, .int .u64 b] w fun e w' => e = .returned (.tuple #[.int .i64 c, .bool false]) ∧ w = w')) (w : World) : Calls Try.prog 50 #[.int .u64 a, .int .u64 b] w fun e w' => e = .returned (.int .u64 (9221120237041090560)) ∧ w = w' := by
  go_enter Try.func50, Try.ntmps50
  go_wp2_with (first
    | (go_at_call 48; (with_reducible refine (HC.out _).mono ?_); rintro e1 w1 ⟨rfl, rfl⟩))
  go_ret
  exact ⟨rfl, rfl⟩
theorem rmax_a (a b : Nat) (c : Int) (HC : Hid (∀ w, Calls Try.prog 48 #[.int .u64 a, .int .u64 b] w fun e w' => e = .returned (.tuple #[.int .i64 c, .bool true]) ∧ w = w')) (h : ¬ c < 0) (w : World) : Calls Try.prog 50 #[.int .u64 a, .int .u64 b] w fun e w' => e = .returned (.int .u64 ((a : Int))) ∧ w = w' := by
  go_enter Try.func50, Try.ntmps50
  go_wp2_with (first
    | (go_at_call 48; (with_reducible refine (HC.out _).mono ?_); rintro e1 w1 ⟨rfl, rfl⟩))
  go_ret
  exact ⟨rfl, rfl⟩
theorem rmax_b (a b : Nat) (c : Int) (HC : Hid (∀ w, Calls Try.prog 48 #[.int .u64 a, .int .u64 b] w fun e w' => e = .returned (.tuple #[.int .i64 c, .bool true]) ∧ w = w')) (h : c < 0) (w : World) : Calls Try.prog 50 #[.int .u64 a, .int .u64 b] w fun e w' => e = .returned (.int .u64 ((b : Int))) ∧ w = w' := by
  go_enter Try.func50, Try.ntmps50
  go_wp2_with (first
    | (go_at_call 48; (with_reducible refine (HC.out _).mono ?_); rintro e1 w1 ⟨rfl, rfl⟩))
  go_ret
  exact ⟨rfl, rfl⟩
theorem rmax_c (a b : Nat) (ha : W a) (hb : W b) (w : World) : Calls Try.prog 50 #[.int .u64 a, .int .u64 b] w fun e w' => e = .returned (.int .u64 ((maxV a b : Nat) : Int)) ∧ w = w' := by
  have HC := Lib.hid (rcmp_c a b ha hb)
  obtain ⟨k, hk⟩ : ∃ k, okV a b = k := ⟨_, rfl⟩
  cases k
  · have := ok_nan hk
    rw [hk] at HC
    rw [show maxV a b = NaN by simp only [maxV]; rw [if_pos this]]
    exact rmax_no a b _ HC w
  · have := ok_not hk
    rw [hk] at HC
    have hc : cmpV a b = cmpI (ordV a) (ordV b) := by simp only [cmpV]; rw [this]; rfl
    have hv : maxV a b = if ordV a < ordV b then b else a := by simp only [maxV]; rw [this]; rfl
    rw [hc] at HC
    rw [hv]
    have cc := cmpI_cases (ordV a) (ordV b)
    by_cases o : ordV a < ordV b
    · have := cmpI_lt.2 o
      rw [if_pos o]; exact rmax_b a b _ HC (by omega) w
    · have : ¬ _ := fun h => o (cmpI_lt.1 h)
      rw [if_neg o]; exact rmax_a a b _ HC (by omega) w
theorem min_c (a b : Nat) (ha : W a) (hb : W b) (w : World) : Calls Try.prog 51 #[.int .u64 a, .int .u64 b] w fun e w' => e = .returned (.int .u64 ((minV a b : Nat) : Int)) ∧ w = w' := by
  have HO : ∀ w, Calls Try.prog 100 #[.int .u64 a, .int .u64 b, .int .i64 (1)] w fun e w' => e = .returned (.int .u64 ((minV a b : Nat) : Int)) ∧ w = w' := by
    intro w
    have HC := Lib.hid (cmp_c a b ha hb)
    obtain ⟨k, hk⟩ : ∃ k, okV a b = k := ⟨_, rfl⟩
    cases k
    · have := ok_nan hk
      rw [hk] at HC
      rw [show minV a b = NaN by simp only [minV]; rw [if_pos this]]
      exact one_no a b _ _ HC w
    · have := ok_not hk
      rw [hk] at HC
      have hc : cmpV a b = cmpI (ordV a) (ordV b) := by simp only [cmpV]; rw [this]; rfl
      have hv : minV a b = if ordV b < ordV a then b else a := by simp only [minV]; rw [this]; rfl
      rw [hc] at HC
      rw [hv]
      by_cases o : ordV b < ordV a
      · rw [if_pos o]; exact one_b a b _ _ HC (cmpI_gt.2 o) w
      · rw [if_neg o]; exact one_a a b _ _ HC (fun h => o (cmpI_gt.1 h)) w
  have HO := Lib.hid HO
  go_enter Try.func51, Try.ntmps51
  go_wp2_with (first
    | (go_at_call 100; (with_reducible refine (HO.out _).mono ?_); rintro e1 w1 ⟨rfl, rfl⟩))
  go_ret
  exact ⟨rfl, rfl⟩
theorem rmin_no (a b : Nat) (c : Int) (HC : Hid (∀ w, Calls Try.prog 48 #[.int .u64 a, .int .u64 b] w fun e w' => e = .returned (.tuple #[.int .i64 c, .bool false]) ∧ w = w')) (w : World) : Calls Try.prog 52 #[.int .u64 a, .int .u64 b] w fun e w' => e = .returned (.int .u64 (9221120237041090560)) ∧ w = w' := by
  go_enter Try.func52, Try.ntmps52
  go_wp2_with (first
    | (go_at_call 48; (with_reducible refine (HC.out _).mono ?_); rintro e1 w1 ⟨rfl, rfl⟩))
  go_ret
  exact ⟨rfl, rfl⟩
theorem rmin_a (a b : Nat) (c : Int) (HC : Hid (∀ w, Calls Try.prog 48 #[.int .u64 a, .int .u64 b] w fun e w' => e = .returned (.tuple #[.int .i64 c, .bool true]) ∧ w = w')) (h : ¬ 0 < c) (w : World) : Calls Try.prog 52 #[.int .u64 a, .int .u64 b] w fun e w' => e = .returned (.int .u64 ((a : Int))) ∧ w = w' := by
  go_enter Try.func52, Try.ntmps52
  go_wp2_with (first
    | (go_at_call 48; (with_reducible refine (HC.out _).mono ?_); rintro e1 w1 ⟨rfl, rfl⟩))
  go_ret
  exact ⟨rfl, rfl⟩
theorem rmin_b (a b : Nat) (c : Int) (HC : Hid (∀ w, Calls Try.prog 48 #[.int .u64 a, .int .u64 b] w fun e w' => e = .returned (.tuple #[.int .i64 c, .bool true]) ∧ w = w')) (h : 0 < c) (w : World) : Calls Try.prog 52 #[.int .u64 a, .int .u64 b] w fun e w' => e = .returned (.int .u64 ((b : Int))) ∧ w = w' := by
  go_enter Try.func52, Try.ntmps52
  go_wp2_with (first
    | (go_at_call 48; (with_reducible refine (HC.out _).mono ?_); rintro e1 w1 ⟨rfl, rfl⟩))
  go_ret
  exact ⟨rfl, rfl⟩
theorem rmin_c (a b : Nat) (ha : W a) (hb : W b) (w : World) : Calls Try.prog 52 #[.int .u64 a, .int .u64 b] w fun e w' => e = .returned (.int .u64 ((minV a b : Nat) : Int)) ∧ w = w' := by
  have HC := Lib.hid (rcmp_c a b ha hb)
  obtain ⟨k, hk⟩ : ∃ k, okV a b = k := ⟨_, rfl⟩
  cases k
  · have := ok_nan hk
    rw [hk] at HC
    rw [show minV a b = NaN by simp only [minV]; rw [if_pos this]]
    exact rmin_no a b _ HC w
  · have := ok_not hk
    rw [hk] at HC
    have hc : cmpV a b = cmpI (ordV a) (ordV b) := by simp only [cmpV]; rw [this]; rfl
    have hv : minV a b = if ordV b < ordV a then b else a := by simp only [minV]; rw [this]; rfl
    rw [hc] at HC
    rw [hv]
    have cc := cmpI_cases (ordV a) (ordV b)
    by_cases o : ordV b < ordV a
    · have := cmpI_gt.2 o
      rw [if_pos o]; exact rmin_b a b _ HC (by omega) w
    · have : ¬ _ := fun h => o (cmpI_gt.1 h)
      rw [if_neg o]; exact rmin_a a b _ HC (by omega) w
theorem rneg_c (a : Nat) (ha : W a) (w : World) : Calls Try.prog 53 #[.int .u64 a] w fun e w' => e = .returned (.int .u64 ((negV a : Nat) : Int)) ∧ w = w' := by
  have N1 := Lib.hid (risnan_c a ha)
  have X := bxor_sign ha
  unfold negV
  obtain ⟨n, hn⟩ : ∃ n, nan a = n := ⟨_, rfl⟩
  rw [hn] at N1 ⊢
  clear hn
  cases n
  · go_enter Try.func53, Try.ntmps53
    go_wp2_with (first
      | (go_at_call 71; (with_reducible refine (N1.out _).mono ?_); rintro e1 w1 ⟨rfl, rfl⟩))
    go_ret
    exact ⟨rfl, rfl⟩
  · go_enter Try.func53, Try.ntmps53
    go_wp2_with (first
      | (go_at_call 71; (with_reducible refine (N1.out _).mono ?_); rintro e1 w1 ⟨rfl, rfl⟩))
    go_ret
    exact ⟨rfl, rfl⟩
theorem rabs_c (a : Nat) (ha : W a) (w : World) : Calls Try.prog 54 #[.int .u64 a] w fun e w' => e = .returned (.int .u64 ((absV a : Nat) : Int)) ∧ w = w' := by
  have N1 := Lib.hid (risnan_c a ha)
  have X := bandnot_sign ha
  unfold absV
  obtain ⟨n, hn⟩ : ∃ n, nan a = n := ⟨_, rfl⟩
  rw [hn] at N1 ⊢
  clear hn
  cases n
  · go_enter Try.func54, Try.ntmps54
    go_wp2_with (first
      | (go_at_call 71; (with_reducible refine (N1.out _).mono ?_); rintro e1 w1 ⟨rfl, rfl⟩))
    go_ret
    exact ⟨rfl, rfl⟩
  · go_enter Try.func54, Try.ntmps54
    go_wp2_with (first
      | (go_at_call 71; (with_reducible refine (N1.out _).mono ?_); rintro e1 w1 ⟨rfl, rfl⟩))
    go_ret
    exact ⟨rfl, rfl⟩
theorem lneg_c (a : Nat) (ha : W a) (w : World) : Calls Try.prog 35 #[.int .u64 a] w fun e w' => e = .returned (.int .u64 ((nnan a : Nat) : Int)) ∧ w = w' := by
  have N1 := Lib.hid (lnan_c a ha)
  unfold nnan
  obtain ⟨n, hn⟩ : ∃ n, nan a = n := ⟨_, rfl⟩
  rw [hn] at N1 ⊢
  clear hn
  cases n
  · go_enter Try.func35, Try.ntmps35
    go_wp2_with (first
      | (go_at_call 33; (with_reducible refine (N1.out _).mono ?_); rintro e1 w1 ⟨rfl, rfl⟩))
    go_ret
    exact ⟨rfl, rfl⟩
  · go_enter Try.func35, Try.ntmps35
    go_wp2_with (first
      | (go_at_call 33; (with_reducible refine (N1.out _).mono ?_); rintro e1 w1 ⟨rfl, rfl⟩))
    go_ret
    exact ⟨rfl, rfl⟩
set_option maxHeartbeats 1000000 in
theorem scale_n1 (a : Nat) (n : Int) (N1 : Hid (PB 62 a true)) (w : World) : Calls Try.prog 27 #[.int .u64 a, .int .i64 n] w fun e w' => e = .returned (.int .u64 (9221120237041090560)) ∧ Below w.heap.size w w' := by
  go_enter Try.func27, Try.ntmps27
  go_wp2_with (first
    | (go_at_call 62; (with_reducible refine (N1.out _).mono ?_); rintro e1 w1 ⟨rfl, rfl⟩))
  go_ret
  exact ⟨rfl, Below.refl _ _⟩
set_option maxHeartbeats 1000000 in
theorem scale_i1 (a : Nat) (n : Int) (N1 : Hid (PB 62 a false)) (I1 : Hid (PB 63 a true)) (w : World) : Calls Try.prog 27 #[.int .u64 a, .int .i64 n] w fun e w' => e = .returned (.int .u64 ((a : Int))) ∧ Below w.heap.size w w' := by
  go_enter Try.func27, Try.ntmps27
  go_wp2_with (first
    | (go_at_call 62; (with_reducible refine (N1.out _).mono ?_); rintro e1 w1 ⟨rfl, rfl⟩)
    | (go_at_call 63; (with_reducible refine (I1.out _).mono ?_); rintro e1 w1 ⟨rfl, rfl⟩))
  go_ret
  exact ⟨rfl, Below.refl _ _⟩
set_option maxHeartbeats 1000000 in
theorem scale_z1 (a : Nat) (n : Int) (N1 : Hid (PB 62 a false)) (I1 : Hid (PB 63 a false)) (Z1 : Hid (PB 64 a true)) (w : World) : Calls Try.prog 27 #[.int .u64 a, .int .i64 n] w fun e w' => e = .returned (.int .u64 ((a : Int))) ∧ Below w.heap.size w w' := by
  go_enter Try.func27, Try.ntmps27
  go_wp2_with (first
    | (go_at_call 62; (with_reducible refine (N1.out _).mono ?_); rintro e1 w1 ⟨rfl, rfl⟩)
    | (go_at_call 63; (with_reducible refine (I1.out _).mono ?_); rintro e1 w1 ⟨rfl, rfl⟩)
    | (go_at_call 64; (with_reducible refine (Z1.out _).mono ?_); rintro e1 w1 ⟨rfl, rfl⟩))
  go_ret
  exact ⟨rfl, Below.refl _ _⟩
theorem scale_fine {w w1 w4 : World} {o1 : Obj} (h1 : Below w.heap.size w w1) (h5 : Below (w1.alloc o1).heap.size (w1.alloc o1) w4) : Below w.heap.size w w4 := by
  have b := h1.alloc h1.size o1
  exact below_then b b.size h5
set_option maxHeartbeats 1000000 in
theorem scale_f (a : Nat) (n : Int) (p : Bool) (ma ea k R : Int) (HSA : Hid (PSplit a p ma ea)) (ba : -1074 ≤ ea ∧ ea ≤ 971) (hk : min (max n (-100000)) 100000 = k) (bk : -100000 ≤ k ∧ k ≤ 100000) (HPK : Hid (PPack p 0 ma (ea + k) false R)) (N1 : Hid (PB 62 a false)) (I1 : Hid (PB 63 a false)) (Z1 : Hid (PB 64 a false)) (w : World) : Calls Try.prog 27 #[.int .u64 a, .int .i64 n] w fun e w' => e = .returned (.int .u64 (R)) ∧ Below w.heap.size w w' := by
  go_enter Try.func27, Try.ntmps27
  go_wp2_with (first
    | (go_at_call 62; (with_reducible refine (N1.out _).mono ?_); rintro e1 w1 ⟨rfl, rfl⟩)
    | (go_at_call 63; (with_reducible refine (I1.out _).mono ?_); rintro e1 w1 ⟨rfl, rfl⟩)
    | (go_at_call 64; (with_reducible refine (Z1.out _).mono ?_); rintro e1 w1 ⟨rfl, rfl⟩)
    | (go_at_call 67; (with_reducible refine (HSA.out _).mono ?_); rintro e1 w1 ⟨rfl, hb1⟩)
    | (go_at_call 69; (with_reducible refine (HPK.out _).mono ?_); rintro e4 w4 ⟨rfl, hb4⟩))
  go_ret
  exact ⟨rfl, scale_fine hb1 hb4⟩
theorem scale_c (a : Nat) (n : Int) (ha : W a) (w : World) : Calls Try.prog 27 #[.int .u64 a, .int .i64 n] w fun e w' => e = .returned (.int .u64 ((scaleV a n : Nat) : Int)) ∧ Below w.heap.size w w' := by
  have N1 := Lib.hid (isnan_c a ha)
  have I1 := Lib.hid (isinf_c a ha)
  have Z1 := Lib.hid (iszero_c a ha)
  by_cases n1 : nan a = true
  · rw [show scaleV a n = NaN by simp [scaleV, n1]]; rw [n1] at N1; exact scale_n1 a n N1 w
  have n1 := Bool.eq_false_iff.2 n1; rw [n1] at N1
  by_cases i1 : inf a = true
  · rw [show scaleV a n = a by simp [scaleV, n1, i1]]; rw [i1] at I1; exact scale_i1 a n N1 I1 w
  have i1 := Bool.eq_false_iff.2 i1; rw [i1] at I1
  by_cases z1 : zer a = true
  · rw [show scaleV a n = a by simp [scaleV, n1, i1, z1]]; rw [z1] at Z1; exact scale_z1 a n N1 I1 Z1 w
  have z1 := Bool.eq_false_iff.2 z1; rw [z1] at Z1
  have ba : -1074 ≤ se a ∧ se a ≤ 971 := ⟨se_ge a, se_le n1 i1⟩
  rw [show scaleV a n = sg (ng a) (pat (sm a) (se a + min (max n (-100000)) 100000) false) by unfold scaleV; rw [if_neg (by rw [n1]; decide), if_neg (by rw [i1, z1]; decide)]]
  have HPK := Lib.hid (pack_c (ng a) 0 (sm a) (se a + min (max n (-100000)) 100000) false (W_of (by decide)) (W_of (by have := sm_lt a; omega)))
  rw [two_lo] at HPK
  exact scale_f a n _ _ _ _ _ (Lib.hid (split_c a ha)) ba rfl (by omega) HPK N1 I1 Z1 w
theorem add_ones : addV 4607182418800017408 4607182418800017408 = 4611686018427387904 := by decide +kernel
theorem sqrt_two : sqrtV 4611686018427387904 = 4609047870845172685 := by decide +kernel
theorem div_zero : divV 4607182418800017408 0 = 9218868437227405312 := by decide +kernel
theorem awake_c (w : World) : Calls Try.prog 20 #[] w fun e w' => e = .returned (.bool true) ∧ Below w.heap.size w w' := by
  have A := add_c 4607182418800017408 4607182418800017408 (W_of (by decide)) (W_of (by decide))
  rw [add_ones] at A
  have Q := sqrt_c 4611686018427387904 (W_of (by decide))
  rw [sqrt_two] at Q
  have D := div_c 4607182418800017408 0 (W_of (by decide)) (W_of (by decide))
  rw [div_zero] at D
  have A : Hid (∀ w, Calls Try.prog 23 #[.int .u64 4607182418800017408, .int .u64 4607182418800017408] w fun e w' => e = .returned (.int .u64 4611686018427387904) ∧ Below w.heap.size w w') := Lib.hid A
  have Q : Hid (∀ w, Calls Try.prog 21 #[.int .u64 4611686018427387904] w fun e w' => e = .returned (.int .u64 4609047870845172685) ∧ Below w.heap.size w w') := Lib.hid Q
  have D : Hid (∀ w, Calls Try.prog 18 #[.int .u64 4607182418800017408, .int .u64 0] w fun e w' => e = .returned (.int .u64 9218868437227405312) ∧ Below w.heap.size w w') := Lib.hid D
  go_enter Try.func20, Try.ntmps20
  go_wp2_with (first
    | (go_at_call 23; (with_reducible refine (A.out _).mono ?_); rintro e1 w1 ⟨rfl, hb1⟩)
    | (go_at_call 21; (with_reducible refine (Q.out _).mono ?_); rintro e2 w2 ⟨rfl, hb2⟩)
    | (go_at_call 18; (with_reducible refine (D.out _).mono ?_); rintro e3 w3 ⟨rfl, hb3⟩))
  go_ret
  exact ⟨rfl, below_then (below_then hb1 hb1.size hb2) (below_then hb1 hb1.size hb2).size hb3⟩
end Go.Proofs.Ytecgkhijiogggaa
