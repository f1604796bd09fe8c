/- Texts Y0 Y1 Y2 Y3, for this seat. -/
import Derived.Test.YtkifdppppihjcaaGreatV
namespace Go.Proofs.YtkifdppppihjcaaGreat
set_option linter.unusedVariables false
set_option linter.unusedSimpArgs false
open Go.RowKit Go.Shelf SF

/-- What rounding gives. -/
def RndV (p : Nat) (low high : Int) (M : Nat) (e : Int) : Value := .tuple #[.int .u64 ((rv p low M e false : Nat) : Int), .int .i64 (rx p low M e false), .bool (decide (high < rx p low M e false))]
theorem band1 {a : Int} (h0 : 0 ≤ a) (h1 : a < 18446744073709551616) : bits .and .u64 a 1 = a % 2 := by
  obtain ⟨A, rfl⟩ := Int.eq_ofNat_of_zero_le h0
  rw [show (1 : Int) = ((1 : Nat) : Int) from rfl, u64_and_nat A _ (by omega) (by decide), nat_mask1]; omega
theorem ret_rnd {a b a' b' : Int} {c c' : Bool} (h1 : a = a') (h2 : b = b') (h3 : c = c') : Ending.returned (.tuple #[.int .u64 a, .int .i64 b, .bool c]) = .returned (.tuple #[.int .u64 a', .int .i64 b', .bool c']) := by rw [h1, h2, h3]
set_option maxRecDepth 100000 in
set_option maxHeartbeats 2000000 in
theorem rround53_Alo (a : Option Addr) (n0 c0 : Nat) (w : World) (n e : Int) (s V : Nat) (hn : 0 ≤ n ∧ n ≤ 32000) (he : -100000 ≤ e ∧ e ≤ 2100) (hcut : e + (n - 53) < (-1074)) (c : Int) (ec : (-1074) - e = c) (hcs : c = -(s : Int)) (hV : (V : Int) < 9007199254740992)
    (HB : Hid (Calls Tryz.prog 121 #[.slice a n0 c0] w fun e w' => e = .returned (.int .i64 n) ∧ w = w'))
    (HS : Hid (Calls Tryz.prog 120 #[.slice a n0 c0, .int .i64 (s : Int)] w (OneOk w V))) (bV : bl V ≤ 64000) :
    Calls Tryz.prog 159 #[.slice a n0 c0, .int .i64 e, .int .i64 53, .int .i64 (-1074), .int .i64 971] w fun x w' => x = .returned (.tuple #[.int .u64 (V : Int), .int .i64 (e - (s : Int)), .bool (decide (971 < e - (s : Int)))]) ∧ Below w.heap.size w w' := by
  have s0 : (0 : Int) ≤ s := Int.natCast_nonneg s
  have s1 : (s : Int) ≤ 300000 := by omega
  have HV := Lib.hid (show ((V % 18446744073709551616 : Nat) : Int) = V by omega)
  have HEC := Lib.hid (show (-1074) - e = -(s : Int) by omega)
  have cpos : c ≤ 0 := by omega
  have cneg : -300000 ≤ c := by omega
  have HCS := Lib.hid (show -c = (s : Int) by omega)
  clear hcs hV s0 s1
  go_enter Tryz.func159, Tryz.ntmps159
  go_wp2_with (first
    | (go_at_call 121; (with_reducible refine (HB.out).mono ?_); rintro e1 w1 ⟨rfl, rfl⟩)
    | (go_at_call 120; rw [HCS.out]; (with_reducible refine (HS.out).mono ?_); rintro e1 w1 ⟨a1, n1, c1, rfl, hv1, hb1⟩)
    | (go_at_call 124; refine (rlow_n hv1 bV).mono ?_; rintro e1 w2 ⟨rfl, rfl⟩))
  go_ret3
  refine ⟨ret_rnd HV.out ?_ ?_, hb1⟩
  · have := HEC.out; have := HCS.out; omega
  · have := HEC.out; have := HCS.out; exact decide_eq_decide.2 (by omega)
set_option maxRecDepth 100000 in
set_option maxHeartbeats 2000000 in
theorem rround53_Ahi (a : Option Addr) (n0 c0 : Nat) (w : World) (n e : Int) (s V : Nat) (hn : 0 ≤ n ∧ n ≤ 32000) (he : -100000 ≤ e ∧ e ≤ 2100) (hcut : (-1074) ≤ e + (n - 53)) (c : Int) (ec : n - 53 = c) (hcs : c = -(s : Int)) (hV : (V : Int) < 9007199254740992)
    (HB : Hid (Calls Tryz.prog 121 #[.slice a n0 c0] w fun e w' => e = .returned (.int .i64 n) ∧ w = w'))
    (HS : Hid (Calls Tryz.prog 120 #[.slice a n0 c0, .int .i64 (s : Int)] w (OneOk w V))) (bV : bl V ≤ 64000) :
    Calls Tryz.prog 159 #[.slice a n0 c0, .int .i64 e, .int .i64 53, .int .i64 (-1074), .int .i64 971] w fun x w' => x = .returned (.tuple #[.int .u64 (V : Int), .int .i64 (e - (s : Int)), .bool (decide (971 < e - (s : Int)))]) ∧ Below w.heap.size w w' := by
  have s0 : (0 : Int) ≤ s := Int.natCast_nonneg s
  have s1 : (s : Int) ≤ 300000 := by omega
  have HV := Lib.hid (show ((V % 18446744073709551616 : Nat) : Int) = V by omega)
  have HEC := Lib.hid (show n - 53 = -(s : Int) by omega)
  have cpos : c ≤ 0 := by omega
  have cneg : -300000 ≤ c := by omega
  have HCS := Lib.hid (show -c = (s : Int) by omega)
  clear hcs hV s0 s1
  go_enter Tryz.func159, Tryz.ntmps159
  go_wp2_with (first
    | (go_at_call 121; (with_reducible refine (HB.out).mono ?_); rintro e1 w1 ⟨rfl, rfl⟩)
    | (go_at_call 120; rw [HCS.out]; (with_reducible refine (HS.out).mono ?_); rintro e1 w1 ⟨a1, n1, c1, rfl, hv1, hb1⟩)
    | (go_at_call 124; refine (rlow_n hv1 bV).mono ?_; rintro e1 w2 ⟨rfl, rfl⟩))
  go_ret3
  refine ⟨ret_rnd HV.out ?_ ?_, hb1⟩
  · have := HEC.out; have := HCS.out; omega
  · have := HEC.out; have := HCS.out; exact decide_eq_decide.2 (by omega)
set_option maxRecDepth 100000 in
set_option maxHeartbeats 2000000 in
theorem rround53_Blo_gt0 (a : Option Addr) (n0 c0 : Nat) (w : World) (n e C t Kz : Int) (K Bk Rt Hf : Nat) (hn : 0 ≤ n ∧ n ≤ 32000) (he : -100000 ≤ e ∧ e ≤ 2100) (hcut : e + (n - 53) < (-1074)) (ec : (-1074) - e = C) (hC : 0 < C ∧ C ≤ 40000) (hK : 0 ≤ Kz ∧ Kz ≤ 9007199254740992) (ht : 0 < t) (hz : (Kz + 1 == 9007199254740992) = false)
    (HB : Hid (Calls Tryz.prog 121 #[.slice a n0 c0] w fun e w' => e = .returned (.int .i64 n) ∧ w = w'))
    (HS1 : Hid (Calls Tryz.prog 120 #[.slice a n0 c0, .int .i64 (-C)] w (OneOk w K)))
    (HS2 : Hid (∀ (w1 : World) (a1 : Option Addr) (n1 c1 : Nat), Nw w1 (.slice a1 n1 c1) K → Calls Tryz.prog 120 #[.slice a1 n1 c1, .int .i64 C] w1 (OneOk w1 Bk)))
    (HSub : Hid (∀ (w1 : World) (a1 : Option Addr) (n1 c1 : Nat), Below w.heap.size w w1 → Nw w1 (.slice a1 n1 c1) Bk → Calls Tryz.prog 151 #[.slice a n0 c0, .slice a1 n1 c1] w1 (OneOk w1 Rt)))
    (HOf : Hid (∀ w1, Calls Tryz.prog 122 #[.int .u64 1] w1 (One w1 1)))
    (HS3 : Hid (∀ (w1 : World) (a1 : Option Addr) (n1 c1 : Nat), Nw w1 (.slice a1 n1 c1) 1 → Calls Tryz.prog 120 #[.slice a1 n1 c1, .int .i64 (C - 1)] w1 (OneOk w1 Hf)))
    (HC : Hid (∀ (w1 : World) (a1 : Option Addr) (n1 c1 : Nat) (a2 : Option Addr) (n2 c2 : Nat), Nw w1 (.slice a1 n1 c1) Rt → Nw w1 (.slice a2 n2 c2) Hf → Calls Tryz.prog 123 #[.slice a1 n1 c1, .slice a2 n2 c2] w1 fun e w' => e = .returned (.int .i64 t) ∧ Below w1.heap.size w1 w'))
    (HL : Hid (∀ (w1 : World) (a1 : Option Addr) (n1 c1 : Nat), Nw w1 (.slice a1 n1 c1) K → Calls Tryz.prog 124 #[.slice a1 n1 c1] w1 fun e w' => e = .returned (.int .u64 Kz) ∧ w1 = w')) :
    Calls Tryz.prog 159 #[.slice a n0 c0, .int .i64 e, .int .i64 53, .int .i64 (-1074), .int .i64 971] w fun x w' => x = .returned (.tuple #[.int .u64 (Kz + 1), .int .i64 (e + C), .bool (decide (971 < e + C))]) ∧ Below w.heap.size w w' := by
  have HEC := Lib.hid ec
  go_enter Tryz.func159, Tryz.ntmps159
  go_wp2_with (first
    | (go_at_call 121; (with_reducible refine (HB.out).mono ?_); rintro e1 w1 ⟨rfl, rfl⟩)
    | (go_at_call 120; (with_reducible refine (HS1.out).mono ?_); rintro e1 w1 ⟨a1, n1, c1, rfl, hv1, hb1⟩)
    | (go_at_call 120; (with_reducible refine (HS2.out _ _ _ _ hv1).mono ?_); rintro e1 w2 ⟨a2, n2, c2, rfl, hv2, hb2⟩)
    | (go_at_call 151; (with_reducible refine (HSub.out _ _ _ _ (btn hb1 hb2) hv2).mono ?_); rintro e1 w3 ⟨a3, n3, c3, rfl, hv3, hb3⟩)
    | (go_at_call 122; (with_reducible refine (HOf.out _).mono ?_); rintro e1 w4 ⟨a4, n4, c4, rfl, hv4, hb4⟩)
    | (go_at_call 120; (with_reducible refine (HS3.out _ _ _ _ hv4).mono ?_); rintro e1 w5 ⟨a5, n5, c5, rfl, hv5, hb5⟩)
    | (go_at_call 123; (with_reducible refine (HC.out _ _ _ _ _ _ _ (hv3.below (btn hb4 hb5)) hv5).mono ?_); rintro e1 w6 ⟨rfl, hb6⟩)
    | (go_at_call 124; (with_reducible refine (HL.out _ _ _ _ (hv1.below (btn hb2 (btn hb3 (btn hb4 (btn hb5 hb6)))))).mono ?_); rintro e1 w7 ⟨rfl, rfl⟩))
  go_ret3
  refine ⟨ret_rnd ?_ ?_ ?_, btn hb1 (btn hb2 (btn hb3 (btn hb4 (btn hb5 hb6))))⟩
  · first | rfl | omega
  · have := HEC.out; omega
  · have := HEC.out; exact decide_eq_decide.2 (by omega)
set_option maxRecDepth 100000 in
set_option maxHeartbeats 2000000 in
theorem rround53_Blo_gt1 (a : Option Addr) (n0 c0 : Nat) (w : World) (n e C t Kz : Int) (K Bk Rt Hf : Nat) (hn : 0 ≤ n ∧ n ≤ 32000) (he : -100000 ≤ e ∧ e ≤ 2100) (hcut : e + (n - 53) < (-1074)) (ec : (-1074) - e = C) (hC : 0 < C ∧ C ≤ 40000) (hK : 0 ≤ Kz ∧ Kz ≤ 9007199254740992) (ht : 0 < t) (hz : (Kz + 1 == 9007199254740992) = true)
    (HB : Hid (Calls Tryz.prog 121 #[.slice a n0 c0] w fun e w' => e = .returned (.int .i64 n) ∧ w = w'))
    (HS1 : Hid (Calls Tryz.prog 120 #[.slice a n0 c0, .int .i64 (-C)] w (OneOk w K)))
    (HS2 : Hid (∀ (w1 : World) (a1 : Option Addr) (n1 c1 : Nat), Nw w1 (.slice a1 n1 c1) K → Calls Tryz.prog 120 #[.slice a1 n1 c1, .int .i64 C] w1 (OneOk w1 Bk)))
    (HSub : Hid (∀ (w1 : World) (a1 : Option Addr) (n1 c1 : Nat), Below w.heap.size w w1 → Nw w1 (.slice a1 n1 c1) Bk → Calls Tryz.prog 151 #[.slice a n0 c0, .slice a1 n1 c1] w1 (OneOk w1 Rt)))
    (HOf : Hid (∀ w1, Calls Tryz.prog 122 #[.int .u64 1] w1 (One w1 1)))
    (HS3 : Hid (∀ (w1 : World) (a1 : Option Addr) (n1 c1 : Nat), Nw w1 (.slice a1 n1 c1) 1 → Calls Tryz.prog 120 #[.slice a1 n1 c1, .int .i64 (C - 1)] w1 (OneOk w1 Hf)))
    (HC : Hid (∀ (w1 : World) (a1 : Option Addr) (n1 c1 : Nat) (a2 : Option Addr) (n2 c2 : Nat), Nw w1 (.slice a1 n1 c1) Rt → Nw w1 (.slice a2 n2 c2) Hf → Calls Tryz.prog 123 #[.slice a1 n1 c1, .slice a2 n2 c2] w1 fun e w' => e = .returned (.int .i64 t) ∧ Below w1.heap.size w1 w'))
    (HL : Hid (∀ (w1 : World) (a1 : Option Addr) (n1 c1 : Nat), Nw w1 (.slice a1 n1 c1) K → Calls Tryz.prog 124 #[.slice a1 n1 c1] w1 fun e w' => e = .returned (.int .u64 Kz) ∧ w1 = w')) :
    Calls Tryz.prog 159 #[.slice a n0 c0, .int .i64 e, .int .i64 53, .int .i64 (-1074), .int .i64 971] w fun x w' => x = .returned (.tuple #[.int .u64 ((Kz + 1) / 2), .int .i64 (e + C + 1), .bool (decide (971 < e + C + 1))]) ∧ Below w.heap.size w w' := by
  have HEC := Lib.hid ec
  go_enter Tryz.func159, Tryz.ntmps159
  go_wp2_with (first
    | (go_at_call 121; (with_reducible refine (HB.out).mono ?_); rintro e1 w1 ⟨rfl, rfl⟩)
    | (go_at_call 120; (with_reducible refine (HS1.out).mono ?_); rintro e1 w1 ⟨a1, n1, c1, rfl, hv1, hb1⟩)
    | (go_at_call 120; (with_reducible refine (HS2.out _ _ _ _ hv1).mono ?_); rintro e1 w2 ⟨a2, n2, c2, rfl, hv2, hb2⟩)
    | (go_at_call 151; (with_reducible refine (HSub.out _ _ _ _ (btn hb1 hb2) hv2).mono ?_); rintro e1 w3 ⟨a3, n3, c3, rfl, hv3, hb3⟩)
    | (go_at_call 122; (with_reducible refine (HOf.out _).mono ?_); rintro e1 w4 ⟨a4, n4, c4, rfl, hv4, hb4⟩)
    | (go_at_call 120; (with_reducible refine (HS3.out _ _ _ _ hv4).mono ?_); rintro e1 w5 ⟨a5, n5, c5, rfl, hv5, hb5⟩)
    | (go_at_call 123; (with_reducible refine (HC.out _ _ _ _ _ _ _ (hv3.below (btn hb4 hb5)) hv5).mono ?_); rintro e1 w6 ⟨rfl, hb6⟩)
    | (go_at_call 124; (with_reducible refine (HL.out _ _ _ _ (hv1.below (btn hb2 (btn hb3 (btn hb4 (btn hb5 hb6)))))).mono ?_); rintro e1 w7 ⟨rfl, rfl⟩))
  go_ret3
  refine ⟨ret_rnd ?_ ?_ ?_, btn hb1 (btn hb2 (btn hb3 (btn hb4 (btn hb5 hb6))))⟩
  · first | rfl | omega
  · have := HEC.out; omega
  · have := HEC.out; exact decide_eq_decide.2 (by omega)
set_option maxRecDepth 100000 in
set_option maxHeartbeats 2000000 in
theorem rround53_Blo_odd0 (a : Option Addr) (n0 c0 : Nat) (w : World) (n e C t Kz : Int) (K Bk Rt Hf : Nat) (hn : 0 ≤ n ∧ n ≤ 32000) (he : -100000 ≤ e ∧ e ≤ 2100) (hcut : e + (n - 53) < (-1074)) (ec : (-1074) - e = C) (hC : 0 < C ∧ C ≤ 40000) (hK : 0 ≤ Kz ∧ Kz ≤ 9007199254740992) (ht : t = 0) (ho : (bits .and .u64 Kz 1 == 1) = true) (hz : (Kz + 1 == 9007199254740992) = false)
    (HB : Hid (Calls Tryz.prog 121 #[.slice a n0 c0] w fun e w' => e = .returned (.int .i64 n) ∧ w = w'))
    (HS1 : Hid (Calls Tryz.prog 120 #[.slice a n0 c0, .int .i64 (-C)] w (OneOk w K)))
    (HS2 : Hid (∀ (w1 : World) (a1 : Option Addr) (n1 c1 : Nat), Nw w1 (.slice a1 n1 c1) K → Calls Tryz.prog 120 #[.slice a1 n1 c1, .int .i64 C] w1 (OneOk w1 Bk)))
    (HSub : Hid (∀ (w1 : World) (a1 : Option Addr) (n1 c1 : Nat), Below w.heap.size w w1 → Nw w1 (.slice a1 n1 c1) Bk → Calls Tryz.prog 151 #[.slice a n0 c0, .slice a1 n1 c1] w1 (OneOk w1 Rt)))
    (HOf : Hid (∀ w1, Calls Tryz.prog 122 #[.int .u64 1] w1 (One w1 1)))
    (HS3 : Hid (∀ (w1 : World) (a1 : Option Addr) (n1 c1 : Nat), Nw w1 (.slice a1 n1 c1) 1 → Calls Tryz.prog 120 #[.slice a1 n1 c1, .int .i64 (C - 1)] w1 (OneOk w1 Hf)))
    (HC : Hid (∀ (w1 : World) (a1 : Option Addr) (n1 c1 : Nat) (a2 : Option Addr) (n2 c2 : Nat), Nw w1 (.slice a1 n1 c1) Rt → Nw w1 (.slice a2 n2 c2) Hf → Calls Tryz.prog 123 #[.slice a1 n1 c1, .slice a2 n2 c2] w1 fun e w' => e = .returned (.int .i64 t) ∧ Below w1.heap.size w1 w'))
    (HL : Hid (∀ (w1 : World) (a1 : Option Addr) (n1 c1 : Nat), Nw w1 (.slice a1 n1 c1) K → Calls Tryz.prog 124 #[.slice a1 n1 c1] w1 fun e w' => e = .returned (.int .u64 Kz) ∧ w1 = w')) :
    Calls Tryz.prog 159 #[.slice a n0 c0, .int .i64 e, .int .i64 53, .int .i64 (-1074), .int .i64 971] w fun x w' => x = .returned (.tuple #[.int .u64 (Kz + 1), .int .i64 (e + C), .bool (decide (971 < e + C))]) ∧ Below w.heap.size w w' := by
  have HEC := Lib.hid ec
  go_enter Tryz.func159, Tryz.ntmps159
  go_wp2_with (first
    | (go_at_call 121; (with_reducible refine (HB.out).mono ?_); rintro e1 w1 ⟨rfl, rfl⟩)
    | (go_at_call 120; (with_reducible refine (HS1.out).mono ?_); rintro e1 w1 ⟨a1, n1, c1, rfl, hv1, hb1⟩)
    | (go_at_call 120; (with_reducible refine (HS2.out _ _ _ _ hv1).mono ?_); rintro e1 w2 ⟨a2, n2, c2, rfl, hv2, hb2⟩)
    | (go_at_call 151; (with_reducible refine (HSub.out _ _ _ _ (btn hb1 hb2) hv2).mono ?_); rintro e1 w3 ⟨a3, n3, c3, rfl, hv3, hb3⟩)
    | (go_at_call 122; (with_reducible refine (HOf.out _).mono ?_); rintro e1 w4 ⟨a4, n4, c4, rfl, hv4, hb4⟩)
    | (go_at_call 120; (with_reducible refine (HS3.out _ _ _ _ hv4).mono ?_); rintro e1 w5 ⟨a5, n5, c5, rfl, hv5, hb5⟩)
    | (go_at_call 123; (with_reducible refine (HC.out _ _ _ _ _ _ _ (hv3.below (btn hb4 hb5)) hv5).mono ?_); rintro e1 w6 ⟨rfl, hb6⟩)
    | (go_at_call 124; (with_reducible refine (HL.out _ _ _ _ (hv1.below (btn hb2 (btn hb3 (btn hb4 (btn hb5 hb6)))))).mono ?_); rintro e1 w7 ⟨rfl, rfl⟩))
  go_ret3
  refine ⟨ret_rnd ?_ ?_ ?_, btn hb1 (btn hb2 (btn hb3 (btn hb4 (btn hb5 hb6))))⟩
  · first | rfl | omega
  · have := HEC.out; omega
  · have := HEC.out; exact decide_eq_decide.2 (by omega)
set_option maxRecDepth 100000 in
set_option maxHeartbeats 2000000 in
theorem rround53_Blo_odd1 (a : Option Addr) (n0 c0 : Nat) (w : World) (n e C t Kz : Int) (K Bk Rt Hf : Nat) (hn : 0 ≤ n ∧ n ≤ 32000) (he : -100000 ≤ e ∧ e ≤ 2100) (hcut : e + (n - 53) < (-1074)) (ec : (-1074) - e = C) (hC : 0 < C ∧ C ≤ 40000) (hK : 0 ≤ Kz ∧ Kz ≤ 9007199254740992) (ht : t = 0) (ho : (bits .and .u64 Kz 1 == 1) = true) (hz : (Kz + 1 == 9007199254740992) = true)
    (HB : Hid (Calls Tryz.prog 121 #[.slice a n0 c0] w fun e w' => e = .returned (.int .i64 n) ∧ w = w'))
    (HS1 : Hid (Calls Tryz.prog 120 #[.slice a n0 c0, .int .i64 (-C)] w (OneOk w K)))
    (HS2 : Hid (∀ (w1 : World) (a1 : Option Addr) (n1 c1 : Nat), Nw w1 (.slice a1 n1 c1) K → Calls Tryz.prog 120 #[.slice a1 n1 c1, .int .i64 C] w1 (OneOk w1 Bk)))
    (HSub : Hid (∀ (w1 : World) (a1 : Option Addr) (n1 c1 : Nat), Below w.heap.size w w1 → Nw w1 (.slice a1 n1 c1) Bk → Calls Tryz.prog 151 #[.slice a n0 c0, .slice a1 n1 c1] w1 (OneOk w1 Rt)))
    (HOf : Hid (∀ w1, Calls Tryz.prog 122 #[.int .u64 1] w1 (One w1 1)))
    (HS3 : Hid (∀ (w1 : World) (a1 : Option Addr) (n1 c1 : Nat), Nw w1 (.slice a1 n1 c1) 1 → Calls Tryz.prog 120 #[.slice a1 n1 c1, .int .i64 (C - 1)] w1 (OneOk w1 Hf)))
    (HC : Hid (∀ (w1 : World) (a1 : Option Addr) (n1 c1 : Nat) (a2 : Option Addr) (n2 c2 : Nat), Nw w1 (.slice a1 n1 c1) Rt → Nw w1 (.slice a2 n2 c2) Hf → Calls Tryz.prog 123 #[.slice a1 n1 c1, .slice a2 n2 c2] w1 fun e w' => e = .returned (.int .i64 t) ∧ Below w1.heap.size w1 w'))
    (HL : Hid (∀ (w1 : World) (a1 : Option Addr) (n1 c1 : Nat), Nw w1 (.slice a1 n1 c1) K → Calls Tryz.prog 124 #[.slice a1 n1 c1] w1 fun e w' => e = .returned (.int .u64 Kz) ∧ w1 = w')) :
    Calls Tryz.prog 159 #[.slice a n0 c0, .int .i64 e, .int .i64 53, .int .i64 (-1074), .int .i64 971] w fun x w' => x = .returned (.tuple #[.int .u64 ((Kz + 1) / 2), .int .i64 (e + C + 1), .bool (decide (971 < e + C + 1))]) ∧ Below w.heap.size w w' := by
  have HEC := Lib.hid ec
  go_enter Tryz.func159, Tryz.ntmps159
  go_wp2_with (first
    | (go_at_call 121; (with_reducible refine (HB.out).mono ?_); rintro e1 w1 ⟨rfl, rfl⟩)
    | (go_at_call 120; (with_reducible refine (HS1.out).mono ?_); rintro e1 w1 ⟨a1, n1, c1, rfl, hv1, hb1⟩)
    | (go_at_call 120; (with_reducible refine (HS2.out _ _ _ _ hv1).mono ?_); rintro e1 w2 ⟨a2, n2, c2, rfl, hv2, hb2⟩)
    | (go_at_call 151; (with_reducible refine (HSub.out _ _ _ _ (btn hb1 hb2) hv2).mono ?_); rintro e1 w3 ⟨a3, n3, c3, rfl, hv3, hb3⟩)
    | (go_at_call 122; (with_reducible refine (HOf.out _).mono ?_); rintro e1 w4 ⟨a4, n4, c4, rfl, hv4, hb4⟩)
    | (go_at_call 120; (with_reducible refine (HS3.out _ _ _ _ hv4).mono ?_); rintro e1 w5 ⟨a5, n5, c5, rfl, hv5, hb5⟩)
    | (go_at_call 123; (with_reducible refine (HC.out _ _ _ _ _ _ _ (hv3.below (btn hb4 hb5)) hv5).mono ?_); rintro e1 w6 ⟨rfl, hb6⟩)
    | (go_at_call 124; (with_reducible refine (HL.out _ _ _ _ (hv1.below (btn hb2 (btn hb3 (btn hb4 (btn hb5 hb6)))))).mono ?_); rintro e1 w7 ⟨rfl, rfl⟩))
  go_ret3
  refine ⟨ret_rnd ?_ ?_ ?_, btn hb1 (btn hb2 (btn hb3 (btn hb4 (btn hb5 hb6))))⟩
  · first | rfl | omega
  · have := HEC.out; omega
  · have := HEC.out; exact decide_eq_decide.2 (by omega)
set_option maxRecDepth 100000 in
set_option maxHeartbeats 2000000 in
theorem rround53_Blo_even0 (a : Option Addr) (n0 c0 : Nat) (w : World) (n e C t Kz : Int) (K Bk Rt Hf : Nat) (hn : 0 ≤ n ∧ n ≤ 32000) (he : -100000 ≤ e ∧ e ≤ 2100) (hcut : e + (n - 53) < (-1074)) (ec : (-1074) - e = C) (hC : 0 < C ∧ C ≤ 40000) (hK : 0 ≤ Kz ∧ Kz ≤ 9007199254740992) (ht : t = 0) (ho : (bits .and .u64 Kz 1 == 1) = false) (hz : (Kz == 9007199254740992) = false)
    (HB : Hid (Calls Tryz.prog 121 #[.slice a n0 c0] w fun e w' => e = .returned (.int .i64 n) ∧ w = w'))
    (HS1 : Hid (Calls Tryz.prog 120 #[.slice a n0 c0, .int .i64 (-C)] w (OneOk w K)))
    (HS2 : Hid (∀ (w1 : World) (a1 : Option Addr) (n1 c1 : Nat), Nw w1 (.slice a1 n1 c1) K → Calls Tryz.prog 120 #[.slice a1 n1 c1, .int .i64 C] w1 (OneOk w1 Bk)))
    (HSub : Hid (∀ (w1 : World) (a1 : Option Addr) (n1 c1 : Nat), Below w.heap.size w w1 → Nw w1 (.slice a1 n1 c1) Bk → Calls Tryz.prog 151 #[.slice a n0 c0, .slice a1 n1 c1] w1 (OneOk w1 Rt)))
    (HOf : Hid (∀ w1, Calls Tryz.prog 122 #[.int .u64 1] w1 (One w1 1)))
    (HS3 : Hid (∀ (w1 : World) (a1 : Option Addr) (n1 c1 : Nat), Nw w1 (.slice a1 n1 c1) 1 → Calls Tryz.prog 120 #[.slice a1 n1 c1, .int .i64 (C - 1)] w1 (OneOk w1 Hf)))
    (HC : Hid (∀ (w1 : World) (a1 : Option Addr) (n1 c1 : Nat) (a2 : Option Addr) (n2 c2 : Nat), Nw w1 (.slice a1 n1 c1) Rt → Nw w1 (.slice a2 n2 c2) Hf → Calls Tryz.prog 123 #[.slice a1 n1 c1, .slice a2 n2 c2] w1 fun e w' => e = .returned (.int .i64 t) ∧ Below w1.heap.size w1 w'))
    (HL : Hid (∀ (w1 : World) (a1 : Option Addr) (n1 c1 : Nat), Nw w1 (.slice a1 n1 c1) K → Calls Tryz.prog 124 #[.slice a1 n1 c1] w1 fun e w' => e = .returned (.int .u64 Kz) ∧ w1 = w')) :
    Calls Tryz.prog 159 #[.slice a n0 c0, .int .i64 e, .int .i64 53, .int .i64 (-1074), .int .i64 971] w fun x w' => x = .returned (.tuple #[.int .u64 (Kz), .int .i64 (e + C), .bool (decide (971 < e + C))]) ∧ Below w.heap.size w w' := by
  have HEC := Lib.hid ec
  go_enter Tryz.func159, Tryz.ntmps159
  go_wp2_with (first
    | (go_at_call 121; (with_reducible refine (HB.out).mono ?_); rintro e1 w1 ⟨rfl, rfl⟩)
    | (go_at_call 120; (with_reducible refine (HS1.out).mono ?_); rintro e1 w1 ⟨a1, n1, c1, rfl, hv1, hb1⟩)
    | (go_at_call 120; (with_reducible refine (HS2.out _ _ _ _ hv1).mono ?_); rintro e1 w2 ⟨a2, n2, c2, rfl, hv2, hb2⟩)
    | (go_at_call 151; (with_reducible refine (HSub.out _ _ _ _ (btn hb1 hb2) hv2).mono ?_); rintro e1 w3 ⟨a3, n3, c3, rfl, hv3, hb3⟩)
    | (go_at_call 122; (with_reducible refine (HOf.out _).mono ?_); rintro e1 w4 ⟨a4, n4, c4, rfl, hv4, hb4⟩)
    | (go_at_call 120; (with_reducible refine (HS3.out _ _ _ _ hv4).mono ?_); rintro e1 w5 ⟨a5, n5, c5, rfl, hv5, hb5⟩)
    | (go_at_call 123; (with_reducible refine (HC.out _ _ _ _ _ _ _ (hv3.below (btn hb4 hb5)) hv5).mono ?_); rintro e1 w6 ⟨rfl, hb6⟩)
    | (go_at_call 124; (with_reducible refine (HL.out _ _ _ _ (hv1.below (btn hb2 (btn hb3 (btn hb4 (btn hb5 hb6)))))).mono ?_); rintro e1 w7 ⟨rfl, rfl⟩))
  go_ret3
  refine ⟨ret_rnd ?_ ?_ ?_, btn hb1 (btn hb2 (btn hb3 (btn hb4 (btn hb5 hb6))))⟩
  · first | rfl | omega
  · have := HEC.out; omega
  · have := HEC.out; exact decide_eq_decide.2 (by omega)
set_option maxRecDepth 100000 in
set_option maxHeartbeats 2000000 in
theorem rround53_Blo_even1 (a : Option Addr) (n0 c0 : Nat) (w : World) (n e C t Kz : Int) (K Bk Rt Hf : Nat) (hn : 0 ≤ n ∧ n ≤ 32000) (he : -100000 ≤ e ∧ e ≤ 2100) (hcut : e + (n - 53) < (-1074)) (ec : (-1074) - e = C) (hC : 0 < C ∧ C ≤ 40000) (hK : 0 ≤ Kz ∧ Kz ≤ 9007199254740992) (ht : t = 0) (ho : (bits .and .u64 Kz 1 == 1) = false) (hz : (Kz == 9007199254740992) = true)
    (HB : Hid (Calls Tryz.prog 121 #[.slice a n0 c0] w fun e w' => e = .returned (.int .i64 n) ∧ w = w'))
    (HS1 : Hid (Calls Tryz.prog 120 #[.slice a n0 c0, .int .i64 (-C)] w (OneOk w K)))
    (HS2 : Hid (∀ (w1 : World) (a1 : Option Addr) (n1 c1 : Nat), Nw w1 (.slice a1 n1 c1) K → Calls Tryz.prog 120 #[.slice a1 n1 c1, .int .i64 C] w1 (OneOk w1 Bk)))
    (HSub : Hid (∀ (w1 : World) (a1 : Option Addr) (n1 c1 : Nat), Below w.heap.size w w1 → Nw w1 (.slice a1 n1 c1) Bk → Calls Tryz.prog 151 #[.slice a n0 c0, .slice a1 n1 c1] w1 (OneOk w1 Rt)))
    (HOf : Hid (∀ w1, Calls Tryz.prog 122 #[.int .u64 1] w1 (One w1 1)))
    (HS3 : Hid (∀ (w1 : World) (a1 : Option Addr) (n1 c1 : Nat), Nw w1 (.slice a1 n1 c1) 1 → Calls Tryz.prog 120 #[.slice a1 n1 c1, .int .i64 (C - 1)] w1 (OneOk w1 Hf)))
    (HC : Hid (∀ (w1 : World) (a1 : Option Addr) (n1 c1 : Nat) (a2 : Option Addr) (n2 c2 : Nat), Nw w1 (.slice a1 n1 c1) Rt → Nw w1 (.slice a2 n2 c2) Hf → Calls Tryz.prog 123 #[.slice a1 n1 c1, .slice a2 n2 c2] w1 fun e w' => e = .returned (.int .i64 t) ∧ Below w1.heap.size w1 w'))
    (HL : Hid (∀ (w1 : World) (a1 : Option Addr) (n1 c1 : Nat), Nw w1 (.slice a1 n1 c1) K → Calls Tryz.prog 124 #[.slice a1 n1 c1] w1 fun e w' => e = .returned (.int .u64 Kz) ∧ w1 = w')) :
    Calls Tryz.prog 159 #[.slice a n0 c0, .int .i64 e, .int .i64 53, .int .i64 (-1074), .int .i64 971] w fun x w' => x = .returned (.tuple #[.int .u64 ((Kz) / 2), .int .i64 (e + C + 1), .bool (decide (971 < e + C + 1))]) ∧ Below w.heap.size w w' := by
  have HEC := Lib.hid ec
  go_enter Tryz.func159, Tryz.ntmps159
  go_wp2_with (first
    | (go_at_call 121; (with_reducible refine (HB.out).mono ?_); rintro e1 w1 ⟨rfl, rfl⟩)
    | (go_at_call 120; (with_reducible refine (HS1.out).mono ?_); rintro e1 w1 ⟨a1, n1, c1, rfl, hv1, hb1⟩)
    | (go_at_call 120; (with_reducible refine (HS2.out _ _ _ _ hv1).mono ?_); rintro e1 w2 ⟨a2, n2, c2, rfl, hv2, hb2⟩)
    | (go_at_call 151; (with_reducible refine (HSub.out _ _ _ _ (btn hb1 hb2) hv2).mono ?_); rintro e1 w3 ⟨a3, n3, c3, rfl, hv3, hb3⟩)
    | (go_at_call 122; (with_reducible refine (HOf.out _).mono ?_); rintro e1 w4 ⟨a4, n4, c4, rfl, hv4, hb4⟩)
    | (go_at_call 120; (with_reducible refine (HS3.out _ _ _ _ hv4).mono ?_); rintro e1 w5 ⟨a5, n5, c5, rfl, hv5, hb5⟩)
    | (go_at_call 123; (with_reducible refine (HC.out _ _ _ _ _ _ _ (hv3.below (btn hb4 hb5)) hv5).mono ?_); rintro e1 w6 ⟨rfl, hb6⟩)
    | (go_at_call 124; (with_reducible refine (HL.out _ _ _ _ (hv1.below (btn hb2 (btn hb3 (btn hb4 (btn hb5 hb6)))))).mono ?_); rintro e1 w7 ⟨rfl, rfl⟩))
  go_ret3
  refine ⟨ret_rnd ?_ ?_ ?_, btn hb1 (btn hb2 (btn hb3 (btn hb4 (btn hb5 hb6))))⟩
  · first | rfl | omega
  · have := HEC.out; omega
  · have := HEC.out; exact decide_eq_decide.2 (by omega)
set_option maxRecDepth 100000 in
set_option maxHeartbeats 2000000 in
theorem rround53_Blo_lt0 (a : Option Addr) (n0 c0 : Nat) (w : World) (n e C t Kz : Int) (K Bk Rt Hf : Nat) (hn : 0 ≤ n ∧ n ≤ 32000) (he : -100000 ≤ e ∧ e ≤ 2100) (hcut : e + (n - 53) < (-1074)) (ec : (-1074) - e = C) (hC : 0 < C ∧ C ≤ 40000) (hK : 0 ≤ Kz ∧ Kz ≤ 9007199254740992) (ht : t < 0) (hz : (Kz == 9007199254740992) = false)
    (HB : Hid (Calls Tryz.prog 121 #[.slice a n0 c0] w fun e w' => e = .returned (.int .i64 n) ∧ w = w'))
    (HS1 : Hid (Calls Tryz.prog 120 #[.slice a n0 c0, .int .i64 (-C)] w (OneOk w K)))
    (HS2 : Hid (∀ (w1 : World) (a1 : Option Addr) (n1 c1 : Nat), Nw w1 (.slice a1 n1 c1) K → Calls Tryz.prog 120 #[.slice a1 n1 c1, .int .i64 C] w1 (OneOk w1 Bk)))
    (HSub : Hid (∀ (w1 : World) (a1 : Option Addr) (n1 c1 : Nat), Below w.heap.size w w1 → Nw w1 (.slice a1 n1 c1) Bk → Calls Tryz.prog 151 #[.slice a n0 c0, .slice a1 n1 c1] w1 (OneOk w1 Rt)))
    (HOf : Hid (∀ w1, Calls Tryz.prog 122 #[.int .u64 1] w1 (One w1 1)))
    (HS3 : Hid (∀ (w1 : World) (a1 : Option Addr) (n1 c1 : Nat), Nw w1 (.slice a1 n1 c1) 1 → Calls Tryz.prog 120 #[.slice a1 n1 c1, .int .i64 (C - 1)] w1 (OneOk w1 Hf)))
    (HC : Hid (∀ (w1 : World) (a1 : Option Addr) (n1 c1 : Nat) (a2 : Option Addr) (n2 c2 : Nat), Nw w1 (.slice a1 n1 c1) Rt → Nw w1 (.slice a2 n2 c2) Hf → Calls Tryz.prog 123 #[.slice a1 n1 c1, .slice a2 n2 c2] w1 fun e w' => e = .returned (.int .i64 t) ∧ Below w1.heap.size w1 w'))
    (HL : Hid (∀ (w1 : World) (a1 : Option Addr) (n1 c1 : Nat), Nw w1 (.slice a1 n1 c1) K → Calls Tryz.prog 124 #[.slice a1 n1 c1] w1 fun e w' => e = .returned (.int .u64 Kz) ∧ w1 = w')) :
    Calls Tryz.prog 159 #[.slice a n0 c0, .int .i64 e, .int .i64 53, .int .i64 (-1074), .int .i64 971] w fun x w' => x = .returned (.tuple #[.int .u64 (Kz), .int .i64 (e + C), .bool (decide (971 < e + C))]) ∧ Below w.heap.size w w' := by
  have HEC := Lib.hid ec
  go_enter Tryz.func159, Tryz.ntmps159
  go_wp2_with (first
    | (go_at_call 121; (with_reducible refine (HB.out).mono ?_); rintro e1 w1 ⟨rfl, rfl⟩)
    | (go_at_call 120; (with_reducible refine (HS1.out).mono ?_); rintro e1 w1 ⟨a1, n1, c1, rfl, hv1, hb1⟩)
    | (go_at_call 120; (with_reducible refine (HS2.out _ _ _ _ hv1).mono ?_); rintro e1 w2 ⟨a2, n2, c2, rfl, hv2, hb2⟩)
    | (go_at_call 151; (with_reducible refine (HSub.out _ _ _ _ (btn hb1 hb2) hv2).mono ?_); rintro e1 w3 ⟨a3, n3, c3, rfl, hv3, hb3⟩)
    | (go_at_call 122; (with_reducible refine (HOf.out _).mono ?_); rintro e1 w4 ⟨a4, n4, c4, rfl, hv4, hb4⟩)
    | (go_at_call 120; (with_reducible refine (HS3.out _ _ _ _ hv4).mono ?_); rintro e1 w5 ⟨a5, n5, c5, rfl, hv5, hb5⟩)
    | (go_at_call 123; (with_reducible refine (HC.out _ _ _ _ _ _ _ (hv3.below (btn hb4 hb5)) hv5).mono ?_); rintro e1 w6 ⟨rfl, hb6⟩)
    | (go_at_call 124; (with_reducible refine (HL.out _ _ _ _ (hv1.below (btn hb2 (btn hb3 (btn hb4 (btn hb5 hb6)))))).mono ?_); rintro e1 w7 ⟨rfl, rfl⟩))
  go_ret3
  refine ⟨ret_rnd ?_ ?_ ?_, btn hb1 (btn hb2 (btn hb3 (btn hb4 (btn hb5 hb6))))⟩
  · first | rfl | omega
  · have := HEC.out; omega
  · have := HEC.out; exact decide_eq_decide.2 (by omega)
set_option maxRecDepth 100000 in
set_option maxHeartbeats 2000000 in
theorem rround53_Blo_lt1 (a : Option Addr) (n0 c0 : Nat) (w : World) (n e C t Kz : Int) (K Bk Rt Hf : Nat) (hn : 0 ≤ n ∧ n ≤ 32000) (he : -100000 ≤ e ∧ e ≤ 2100) (hcut : e + (n - 53) < (-1074)) (ec : (-1074) - e = C) (hC : 0 < C ∧ C ≤ 40000) (hK : 0 ≤ Kz ∧ Kz ≤ 9007199254740992) (ht : t < 0) (hz : (Kz == 9007199254740992) = true)
    (HB : Hid (Calls Tryz.prog 121 #[.slice a n0 c0] w fun e w' => e = .returned (.int .i64 n) ∧ w = w'))
    (HS1 : Hid (Calls Tryz.prog 120 #[.slice a n0 c0, .int .i64 (-C)] w (OneOk w K)))
    (HS2 : Hid (∀ (w1 : World) (a1 : Option Addr) (n1 c1 : Nat), Nw w1 (.slice a1 n1 c1) K → Calls Tryz.prog 120 #[.slice a1 n1 c1, .int .i64 C] w1 (OneOk w1 Bk)))
    (HSub : Hid (∀ (w1 : World) (a1 : Option Addr) (n1 c1 : Nat), Below w.heap.size w w1 → Nw w1 (.slice a1 n1 c1) Bk → Calls Tryz.prog 151 #[.slice a n0 c0, .slice a1 n1 c1] w1 (OneOk w1 Rt)))
    (HOf : Hid (∀ w1, Calls Tryz.prog 122 #[.int .u64 1] w1 (One w1 1)))
    (HS3 : Hid (∀ (w1 : World) (a1 : Option Addr) (n1 c1 : Nat), Nw w1 (.slice a1 n1 c1) 1 → Calls Tryz.prog 120 #[.slice a1 n1 c1, .int .i64 (C - 1)] w1 (OneOk w1 Hf)))
    (HC : Hid (∀ (w1 : World) (a1 : Option Addr) (n1 c1 : Nat) (a2 : Option Addr) (n2 c2 : Nat), Nw w1 (.slice a1 n1 c1) Rt → Nw w1 (.slice a2 n2 c2) Hf → Calls Tryz.prog 123 #[.slice a1 n1 c1, .slice a2 n2 c2] w1 fun e w' => e = .returned (.int .i64 t) ∧ Below w1.heap.size w1 w'))
    (HL : Hid (∀ (w1 : World) (a1 : Option Addr) (n1 c1 : Nat), Nw w1 (.slice a1 n1 c1) K → Calls Tryz.prog 124 #[.slice a1 n1 c1] w1 fun e w' => e = .returned (.int .u64 Kz) ∧ w1 = w')) :
    Calls Tryz.prog 159 #[.slice a n0 c0, .int .i64 e, .int .i64 53, .int .i64 (-1074), .int .i64 971] w fun x w' => x = .returned (.tuple #[.int .u64 ((Kz) / 2), .int .i64 (e + C + 1), .bool (decide (971 < e + C + 1))]) ∧ Below w.heap.size w w' := by
  have HEC := Lib.hid ec
  go_enter Tryz.func159, Tryz.ntmps159
  go_wp2_with (first
    | (go_at_call 121; (with_reducible refine (HB.out).mono ?_); rintro e1 w1 ⟨rfl, rfl⟩)
    | (go_at_call 120; (with_reducible refine (HS1.out).mono ?_); rintro e1 w1 ⟨a1, n1, c1, rfl, hv1, hb1⟩)
    | (go_at_call 120; (with_reducible refine (HS2.out _ _ _ _ hv1).mono ?_); rintro e1 w2 ⟨a2, n2, c2, rfl, hv2, hb2⟩)
    | (go_at_call 151; (with_reducible refine (HSub.out _ _ _ _ (btn hb1 hb2) hv2).mono ?_); rintro e1 w3 ⟨a3, n3, c3, rfl, hv3, hb3⟩)
    | (go_at_call 122; (with_reducible refine (HOf.out _).mono ?_); rintro e1 w4 ⟨a4, n4, c4, rfl, hv4, hb4⟩)
    | (go_at_call 120; (with_reducible refine (HS3.out _ _ _ _ hv4).mono ?_); rintro e1 w5 ⟨a5, n5, c5, rfl, hv5, hb5⟩)
    | (go_at_call 123; (with_reducible refine (HC.out _ _ _ _ _ _ _ (hv3.below (btn hb4 hb5)) hv5).mono ?_); rintro e1 w6 ⟨rfl, hb6⟩)
    | (go_at_call 124; (with_reducible refine (HL.out _ _ _ _ (hv1.below (btn hb2 (btn hb3 (btn hb4 (btn hb5 hb6)))))).mono ?_); rintro e1 w7 ⟨rfl, rfl⟩))
  go_ret3
  refine ⟨ret_rnd ?_ ?_ ?_, btn hb1 (btn hb2 (btn hb3 (btn hb4 (btn hb5 hb6))))⟩
  · first | rfl | omega
  · have := HEC.out; omega
  · have := HEC.out; exact decide_eq_decide.2 (by omega)
set_option maxRecDepth 100000 in
set_option maxHeartbeats 2000000 in
theorem rround53_Bhi_gt0 (a : Option Addr) (n0 c0 : Nat) (w : World) (n e C t Kz : Int) (K Bk Rt Hf : Nat) (hn : 0 ≤ n ∧ n ≤ 32000) (he : -100000 ≤ e ∧ e ≤ 2100) (hcut : (-1074) ≤ e + (n - 53)) (ec : n - 53 = C) (hC : 0 < C ∧ C ≤ 40000) (hK : 0 ≤ Kz ∧ Kz ≤ 9007199254740992) (ht : 0 < t) (hz : (Kz + 1 == 9007199254740992) = false)
    (HB : Hid (Calls Tryz.prog 121 #[.slice a n0 c0] w fun e w' => e = .returned (.int .i64 n) ∧ w = w'))
    (HS1 : Hid (Calls Tryz.prog 120 #[.slice a n0 c0, .int .i64 (-C)] w (OneOk w K)))
    (HS2 : Hid (∀ (w1 : World) (a1 : Option Addr) (n1 c1 : Nat), Nw w1 (.slice a1 n1 c1) K → Calls Tryz.prog 120 #[.slice a1 n1 c1, .int .i64 C] w1 (OneOk w1 Bk)))
    (HSub : Hid (∀ (w1 : World) (a1 : Option Addr) (n1 c1 : Nat), Below w.heap.size w w1 → Nw w1 (.slice a1 n1 c1) Bk → Calls Tryz.prog 151 #[.slice a n0 c0, .slice a1 n1 c1] w1 (OneOk w1 Rt)))
    (HOf : Hid (∀ w1, Calls Tryz.prog 122 #[.int .u64 1] w1 (One w1 1)))
    (HS3 : Hid (∀ (w1 : World) (a1 : Option Addr) (n1 c1 : Nat), Nw w1 (.slice a1 n1 c1) 1 → Calls Tryz.prog 120 #[.slice a1 n1 c1, .int .i64 (C - 1)] w1 (OneOk w1 Hf)))
    (HC : Hid (∀ (w1 : World) (a1 : Option Addr) (n1 c1 : Nat) (a2 : Option Addr) (n2 c2 : Nat), Nw w1 (.slice a1 n1 c1) Rt → Nw w1 (.slice a2 n2 c2) Hf → Calls Tryz.prog 123 #[.slice a1 n1 c1, .slice a2 n2 c2] w1 fun e w' => e = .returned (.int .i64 t) ∧ Below w1.heap.size w1 w'))
    (HL : Hid (∀ (w1 : World) (a1 : Option Addr) (n1 c1 : Nat), Nw w1 (.slice a1 n1 c1) K → Calls Tryz.prog 124 #[.slice a1 n1 c1] w1 fun e w' => e = .returned (.int .u64 Kz) ∧ w1 = w')) :
    Calls Tryz.prog 159 #[.slice a n0 c0, .int .i64 e, .int .i64 53, .int .i64 (-1074), .int .i64 971] w fun x w' => x = .returned (.tuple #[.int .u64 (Kz + 1), .int .i64 (e + C), .bool (decide (971 < e + C))]) ∧ Below w.heap.size w w' := by
  have HEC := Lib.hid ec
  go_enter Tryz.func159, Tryz.ntmps159
  go_wp2_with (first
    | (go_at_call 121; (with_reducible refine (HB.out).mono ?_); rintro e1 w1 ⟨rfl, rfl⟩)
    | (go_at_call 120; (with_reducible refine (HS1.out).mono ?_); rintro e1 w1 ⟨a1, n1, c1, rfl, hv1, hb1⟩)
    | (go_at_call 120; (with_reducible refine (HS2.out _ _ _ _ hv1).mono ?_); rintro e1 w2 ⟨a2, n2, c2, rfl, hv2, hb2⟩)
    | (go_at_call 151; (with_reducible refine (HSub.out _ _ _ _ (btn hb1 hb2) hv2).mono ?_); rintro e1 w3 ⟨a3, n3, c3, rfl, hv3, hb3⟩)
    | (go_at_call 122; (with_reducible refine (HOf.out _).mono ?_); rintro e1 w4 ⟨a4, n4, c4, rfl, hv4, hb4⟩)
    | (go_at_call 120; (with_reducible refine (HS3.out _ _ _ _ hv4).mono ?_); rintro e1 w5 ⟨a5, n5, c5, rfl, hv5, hb5⟩)
    | (go_at_call 123; (with_reducible refine (HC.out _ _ _ _ _ _ _ (hv3.below (btn hb4 hb5)) hv5).mono ?_); rintro e1 w6 ⟨rfl, hb6⟩)
    | (go_at_call 124; (with_reducible refine (HL.out _ _ _ _ (hv1.below (btn hb2 (btn hb3 (btn hb4 (btn hb5 hb6)))))).mono ?_); rintro e1 w7 ⟨rfl, rfl⟩))
  go_ret3
  refine ⟨ret_rnd ?_ ?_ ?_, btn hb1 (btn hb2 (btn hb3 (btn hb4 (btn hb5 hb6))))⟩
  · first | rfl | omega
  · have := HEC.out; omega
  · have := HEC.out; exact decide_eq_decide.2 (by omega)
set_option maxRecDepth 100000 in
set_option maxHeartbeats 2000000 in
theorem rround53_Bhi_gt1 (a : Option Addr) (n0 c0 : Nat) (w : World) (n e C t Kz : Int) (K Bk Rt Hf : Nat) (hn : 0 ≤ n ∧ n ≤ 32000) (he : -100000 ≤ e ∧ e ≤ 2100) (hcut : (-1074) ≤ e + (n - 53)) (ec : n - 53 = C) (hC : 0 < C ∧ C ≤ 40000) (hK : 0 ≤ Kz ∧ Kz ≤ 9007199254740992) (ht : 0 < t) (hz : (Kz + 1 == 9007199254740992) = true)
    (HB : Hid (Calls Tryz.prog 121 #[.slice a n0 c0] w fun e w' => e = .returned (.int .i64 n) ∧ w = w'))
    (HS1 : Hid (Calls Tryz.prog 120 #[.slice a n0 c0, .int .i64 (-C)] w (OneOk w K)))
    (HS2 : Hid (∀ (w1 : World) (a1 : Option Addr) (n1 c1 : Nat), Nw w1 (.slice a1 n1 c1) K → Calls Tryz.prog 120 #[.slice a1 n1 c1, .int .i64 C] w1 (OneOk w1 Bk)))
    (HSub : Hid (∀ (w1 : World) (a1 : Option Addr) (n1 c1 : Nat), Below w.heap.size w w1 → Nw w1 (.slice a1 n1 c1) Bk → Calls Tryz.prog 151 #[.slice a n0 c0, .slice a1 n1 c1] w1 (OneOk w1 Rt)))
    (HOf : Hid (∀ w1, Calls Tryz.prog 122 #[.int .u64 1] w1 (One w1 1)))
    (HS3 : Hid (∀ (w1 : World) (a1 : Option Addr) (n1 c1 : Nat), Nw w1 (.slice a1 n1 c1) 1 → Calls Tryz.prog 120 #[.slice a1 n1 c1, .int .i64 (C - 1)] w1 (OneOk w1 Hf)))
    (HC : Hid (∀ (w1 : World) (a1 : Option Addr) (n1 c1 : Nat) (a2 : Option Addr) (n2 c2 : Nat), Nw w1 (.slice a1 n1 c1) Rt → Nw w1 (.slice a2 n2 c2) Hf → Calls Tryz.prog 123 #[.slice a1 n1 c1, .slice a2 n2 c2] w1 fun e w' => e = .returned (.int .i64 t) ∧ Below w1.heap.size w1 w'))
    (HL : Hid (∀ (w1 : World) (a1 : Option Addr) (n1 c1 : Nat), Nw w1 (.slice a1 n1 c1) K → Calls Tryz.prog 124 #[.slice a1 n1 c1] w1 fun e w' => e = .returned (.int .u64 Kz) ∧ w1 = w')) :
    Calls Tryz.prog 159 #[.slice a n0 c0, .int .i64 e, .int .i64 53, .int .i64 (-1074), .int .i64 971] w fun x w' => x = .returned (.tuple #[.int .u64 ((Kz + 1) / 2), .int .i64 (e + C + 1), .bool (decide (971 < e + C + 1))]) ∧ Below w.heap.size w w' := by
  have HEC := Lib.hid ec
  go_enter Tryz.func159, Tryz.ntmps159
  go_wp2_with (first
    | (go_at_call 121; (with_reducible refine (HB.out).mono ?_); rintro e1 w1 ⟨rfl, rfl⟩)
    | (go_at_call 120; (with_reducible refine (HS1.out).mono ?_); rintro e1 w1 ⟨a1, n1, c1, rfl, hv1, hb1⟩)
    | (go_at_call 120; (with_reducible refine (HS2.out _ _ _ _ hv1).mono ?_); rintro e1 w2 ⟨a2, n2, c2, rfl, hv2, hb2⟩)
    | (go_at_call 151; (with_reducible refine (HSub.out _ _ _ _ (btn hb1 hb2) hv2).mono ?_); rintro e1 w3 ⟨a3, n3, c3, rfl, hv3, hb3⟩)
    | (go_at_call 122; (with_reducible refine (HOf.out _).mono ?_); rintro e1 w4 ⟨a4, n4, c4, rfl, hv4, hb4⟩)
    | (go_at_call 120; (with_reducible refine (HS3.out _ _ _ _ hv4).mono ?_); rintro e1 w5 ⟨a5, n5, c5, rfl, hv5, hb5⟩)
    | (go_at_call 123; (with_reducible refine (HC.out _ _ _ _ _ _ _ (hv3.below (btn hb4 hb5)) hv5).mono ?_); rintro e1 w6 ⟨rfl, hb6⟩)
    | (go_at_call 124; (with_reducible refine (HL.out _ _ _ _ (hv1.below (btn hb2 (btn hb3 (btn hb4 (btn hb5 hb6)))))).mono ?_); rintro e1 w7 ⟨rfl, rfl⟩))
  go_ret3
  refine ⟨ret_rnd ?_ ?_ ?_, btn hb1 (btn hb2 (btn hb3 (btn hb4 (btn hb5 hb6))))⟩
  · first | rfl | omega
  · have := HEC.out; omega
  · have := HEC.out; exact decide_eq_decide.2 (by omega)
set_option maxRecDepth 100000 in
set_option maxHeartbeats 2000000 in
theorem rround53_Bhi_odd0 (a : Option Addr) (n0 c0 : Nat) (w : World) (n e C t Kz : Int) (K Bk Rt Hf : Nat) (hn : 0 ≤ n ∧ n ≤ 32000) (he : -100000 ≤ e ∧ e ≤ 2100) (hcut : (-1074) ≤ e + (n - 53)) (ec : n - 53 = C) (hC : 0 < C ∧ C ≤ 40000) (hK : 0 ≤ Kz ∧ Kz ≤ 9007199254740992) (ht : t = 0) (ho : (bits .and .u64 Kz 1 == 1) = true) (hz : (Kz + 1 == 9007199254740992) = false)
    (HB : Hid (Calls Tryz.prog 121 #[.slice a n0 c0] w fun e w' => e = .returned (.int .i64 n) ∧ w = w'))
    (HS1 : Hid (Calls Tryz.prog 120 #[.slice a n0 c0, .int .i64 (-C)] w (OneOk w K)))
    (HS2 : Hid (∀ (w1 : World) (a1 : Option Addr) (n1 c1 : Nat), Nw w1 (.slice a1 n1 c1) K → Calls Tryz.prog 120 #[.slice a1 n1 c1, .int .i64 C] w1 (OneOk w1 Bk)))
    (HSub : Hid (∀ (w1 : World) (a1 : Option Addr) (n1 c1 : Nat), Below w.heap.size w w1 → Nw w1 (.slice a1 n1 c1) Bk → Calls Tryz.prog 151 #[.slice a n0 c0, .slice a1 n1 c1] w1 (OneOk w1 Rt)))
    (HOf : Hid (∀ w1, Calls Tryz.prog 122 #[.int .u64 1] w1 (One w1 1)))
    (HS3 : Hid (∀ (w1 : World) (a1 : Option Addr) (n1 c1 : Nat), Nw w1 (.slice a1 n1 c1) 1 → Calls Tryz.prog 120 #[.slice a1 n1 c1, .int .i64 (C - 1)] w1 (OneOk w1 Hf)))
    (HC : Hid (∀ (w1 : World) (a1 : Option Addr) (n1 c1 : Nat) (a2 : Option Addr) (n2 c2 : Nat), Nw w1 (.slice a1 n1 c1) Rt → Nw w1 (.slice a2 n2 c2) Hf → Calls Tryz.prog 123 #[.slice a1 n1 c1, .slice a2 n2 c2] w1 fun e w' => e = .returned (.int .i64 t) ∧ Below w1.heap.size w1 w'))
    (HL : Hid (∀ (w1 : World) (a1 : Option Addr) (n1 c1 : Nat), Nw w1 (.slice a1 n1 c1) K → Calls Tryz.prog 124 #[.slice a1 n1 c1] w1 fun e w' => e = .returned (.int .u64 Kz) ∧ w1 = w')) :
    Calls Tryz.prog 159 #[.slice a n0 c0, .int .i64 e, .int .i64 53, .int .i64 (-1074), .int .i64 971] w fun x w' => x = .returned (.tuple #[.int .u64 (Kz + 1), .int .i64 (e + C), .bool (decide (971 < e + C))]) ∧ Below w.heap.size w w' := by
  have HEC := Lib.hid ec
  go_enter Tryz.func159, Tryz.ntmps159
  go_wp2_with (first
    | (go_at_call 121; (with_reducible refine (HB.out).mono ?_); rintro e1 w1 ⟨rfl, rfl⟩)
    | (go_at_call 120; (with_reducible refine (HS1.out).mono ?_); rintro e1 w1 ⟨a1, n1, c1, rfl, hv1, hb1⟩)
    | (go_at_call 120; (with_reducible refine (HS2.out _ _ _ _ hv1).mono ?_); rintro e1 w2 ⟨a2, n2, c2, rfl, hv2, hb2⟩)
    | (go_at_call 151; (with_reducible refine (HSub.out _ _ _ _ (btn hb1 hb2) hv2).mono ?_); rintro e1 w3 ⟨a3, n3, c3, rfl, hv3, hb3⟩)
    | (go_at_call 122; (with_reducible refine (HOf.out _).mono ?_); rintro e1 w4 ⟨a4, n4, c4, rfl, hv4, hb4⟩)
    | (go_at_call 120; (with_reducible refine (HS3.out _ _ _ _ hv4).mono ?_); rintro e1 w5 ⟨a5, n5, c5, rfl, hv5, hb5⟩)
    | (go_at_call 123; (with_reducible refine (HC.out _ _ _ _ _ _ _ (hv3.below (btn hb4 hb5)) hv5).mono ?_); rintro e1 w6 ⟨rfl, hb6⟩)
    | (go_at_call 124; (with_reducible refine (HL.out _ _ _ _ (hv1.below (btn hb2 (btn hb3 (btn hb4 (btn hb5 hb6)))))).mono ?_); rintro e1 w7 ⟨rfl, rfl⟩))
  go_ret3
  refine ⟨ret_rnd ?_ ?_ ?_, btn hb1 (btn hb2 (btn hb3 (btn hb4 (btn hb5 hb6))))⟩
  · first | rfl | omega
  · have := HEC.out; omega
  · have := HEC.out; exact decide_eq_decide.2 (by omega)
set_option maxRecDepth 100000 in
set_option maxHeartbeats 2000000 in
theorem rround53_Bhi_odd1 (a : Option Addr) (n0 c0 : Nat) (w : World) (n e C t Kz : Int) (K Bk Rt Hf : Nat) (hn : 0 ≤ n ∧ n ≤ 32000) (he : -100000 ≤ e ∧ e ≤ 2100) (hcut : (-1074) ≤ e + (n - 53)) (ec : n - 53 = C) (hC : 0 < C ∧ C ≤ 40000) (hK : 0 ≤ Kz ∧ Kz ≤ 9007199254740992) (ht : t = 0) (ho : (bits .and .u64 Kz 1 == 1) = true) (hz : (Kz + 1 == 9007199254740992) = true)
    (HB : Hid (Calls Tryz.prog 121 #[.slice a n0 c0] w fun e w' => e = .returned (.int .i64 n) ∧ w = w'))
    (HS1 : Hid (Calls Tryz.prog 120 #[.slice a n0 c0, .int .i64 (-C)] w (OneOk w K)))
    (HS2 : Hid (∀ (w1 : World) (a1 : Option Addr) (n1 c1 : Nat), Nw w1 (.slice a1 n1 c1) K → Calls Tryz.prog 120 #[.slice a1 n1 c1, .int .i64 C] w1 (OneOk w1 Bk)))
    (HSub : Hid (∀ (w1 : World) (a1 : Option Addr) (n1 c1 : Nat), Below w.heap.size w w1 → Nw w1 (.slice a1 n1 c1) Bk → Calls Tryz.prog 151 #[.slice a n0 c0, .slice a1 n1 c1] w1 (OneOk w1 Rt)))
    (HOf : Hid (∀ w1, Calls Tryz.prog 122 #[.int .u64 1] w1 (One w1 1)))
    (HS3 : Hid (∀ (w1 : World) (a1 : Option Addr) (n1 c1 : Nat), Nw w1 (.slice a1 n1 c1) 1 → Calls Tryz.prog 120 #[.slice a1 n1 c1, .int .i64 (C - 1)] w1 (OneOk w1 Hf)))
    (HC : Hid (∀ (w1 : World) (a1 : Option Addr) (n1 c1 : Nat) (a2 : Option Addr) (n2 c2 : Nat), Nw w1 (.slice a1 n1 c1) Rt → Nw w1 (.slice a2 n2 c2) Hf → Calls Tryz.prog 123 #[.slice a1 n1 c1, .slice a2 n2 c2] w1 fun e w' => e = .returned (.int .i64 t) ∧ Below w1.heap.size w1 w'))
    (HL : Hid (∀ (w1 : World) (a1 : Option Addr) (n1 c1 : Nat), Nw w1 (.slice a1 n1 c1) K → Calls Tryz.prog 124 #[.slice a1 n1 c1] w1 fun e w' => e = .returned (.int .u64 Kz) ∧ w1 = w')) :
    Calls Tryz.prog 159 #[.slice a n0 c0, .int .i64 e, .int .i64 53, .int .i64 (-1074), .int .i64 971] w fun x w' => x = .returned (.tuple #[.int .u64 ((Kz + 1) / 2), .int .i64 (e + C + 1), .bool (decide (971 < e + C + 1))]) ∧ Below w.heap.size w w' := by
  have HEC := Lib.hid ec
  go_enter Tryz.func159, Tryz.ntmps159
  go_wp2_with (first
    | (go_at_call 121; (with_reducible refine (HB.out).mono ?_); rintro e1 w1 ⟨rfl, rfl⟩)
    | (go_at_call 120; (with_reducible refine (HS1.out).mono ?_); rintro e1 w1 ⟨a1, n1, c1, rfl, hv1, hb1⟩)
    | (go_at_call 120; (with_reducible refine (HS2.out _ _ _ _ hv1).mono ?_); rintro e1 w2 ⟨a2, n2, c2, rfl, hv2, hb2⟩)
    | (go_at_call 151; (with_reducible refine (HSub.out _ _ _ _ (btn hb1 hb2) hv2).mono ?_); rintro e1 w3 ⟨a3, n3, c3, rfl, hv3, hb3⟩)
    | (go_at_call 122; (with_reducible refine (HOf.out _).mono ?_); rintro e1 w4 ⟨a4, n4, c4, rfl, hv4, hb4⟩)
    | (go_at_call 120; (with_reducible refine (HS3.out _ _ _ _ hv4).mono ?_); rintro e1 w5 ⟨a5, n5, c5, rfl, hv5, hb5⟩)
    | (go_at_call 123; (with_reducible refine (HC.out _ _ _ _ _ _ _ (hv3.below (btn hb4 hb5)) hv5).mono ?_); rintro e1 w6 ⟨rfl, hb6⟩)
    | (go_at_call 124; (with_reducible refine (HL.out _ _ _ _ (hv1.below (btn hb2 (btn hb3 (btn hb4 (btn hb5 hb6)))))).mono ?_); rintro e1 w7 ⟨rfl, rfl⟩))
  go_ret3
  refine ⟨ret_rnd ?_ ?_ ?_, btn hb1 (btn hb2 (btn hb3 (btn hb4 (btn hb5 hb6))))⟩
  · first | rfl | omega
  · have := HEC.out; omega
  · have := HEC.out; exact decide_eq_decide.2 (by omega)
set_option maxRecDepth 100000 in
set_option maxHeartbeats 2000000 in
theorem rround53_Bhi_even0 (a : Option Addr) (n0 c0 : Nat) (w : World) (n e C t Kz : Int) (K Bk Rt Hf : Nat) (hn : 0 ≤ n ∧ n ≤ 32000) (he : -100000 ≤ e ∧ e ≤ 2100) (hcut : (-1074) ≤ e + (n - 53)) (ec : n - 53 = C) (hC : 0 < C ∧ C ≤ 40000) (hK : 0 ≤ Kz ∧ Kz ≤ 9007199254740992) (ht : t = 0) (ho : (bits .and .u64 Kz 1 == 1) = false) (hz : (Kz == 9007199254740992) = false)
    (HB : Hid (Calls Tryz.prog 121 #[.slice a n0 c0] w fun e w' => e = .returned (.int .i64 n) ∧ w = w'))
    (HS1 : Hid (Calls Tryz.prog 120 #[.slice a n0 c0, .int .i64 (-C)] w (OneOk w K)))
    (HS2 : Hid (∀ (w1 : World) (a1 : Option Addr) (n1 c1 : Nat), Nw w1 (.slice a1 n1 c1) K → Calls Tryz.prog 120 #[.slice a1 n1 c1, .int .i64 C] w1 (OneOk w1 Bk)))
    (HSub : Hid (∀ (w1 : World) (a1 : Option Addr) (n1 c1 : Nat), Below w.heap.size w w1 → Nw w1 (.slice a1 n1 c1) Bk → Calls Tryz.prog 151 #[.slice a n0 c0, .slice a1 n1 c1] w1 (OneOk w1 Rt)))
    (HOf : Hid (∀ w1, Calls Tryz.prog 122 #[.int .u64 1] w1 (One w1 1)))
    (HS3 : Hid (∀ (w1 : World) (a1 : Option Addr) (n1 c1 : Nat), Nw w1 (.slice a1 n1 c1) 1 → Calls Tryz.prog 120 #[.slice a1 n1 c1, .int .i64 (C - 1)] w1 (OneOk w1 Hf)))
    (HC : Hid (∀ (w1 : World) (a1 : Option Addr) (n1 c1 : Nat) (a2 : Option Addr) (n2 c2 : Nat), Nw w1 (.slice a1 n1 c1) Rt → Nw w1 (.slice a2 n2 c2) Hf → Calls Tryz.prog 123 #[.slice a1 n1 c1, .slice a2 n2 c2] w1 fun e w' => e = .returned (.int .i64 t) ∧ Below w1.heap.size w1 w'))
    (HL : Hid (∀ (w1 : World) (a1 : Option Addr) (n1 c1 : Nat), Nw w1 (.slice a1 n1 c1) K → Calls Tryz.prog 124 #[.slice a1 n1 c1] w1 fun e w' => e = .returned (.int .u64 Kz) ∧ w1 = w')) :
    Calls Tryz.prog 159 #[.slice a n0 c0, .int .i64 e, .int .i64 53, .int .i64 (-1074), .int .i64 971] w fun x w' => x = .returned (.tuple #[.int .u64 (Kz), .int .i64 (e + C), .bool (decide (971 < e + C))]) ∧ Below w.heap.size w w' := by
  have HEC := Lib.hid ec
  go_enter Tryz.func159, Tryz.ntmps159
  go_wp2_with (first
    | (go_at_call 121; (with_reducible refine (HB.out).mono ?_); rintro e1 w1 ⟨rfl, rfl⟩)
    | (go_at_call 120; (with_reducible refine (HS1.out).mono ?_); rintro e1 w1 ⟨a1, n1, c1, rfl, hv1, hb1⟩)
    | (go_at_call 120; (with_reducible refine (HS2.out _ _ _ _ hv1).mono ?_); rintro e1 w2 ⟨a2, n2, c2, rfl, hv2, hb2⟩)
    | (go_at_call 151; (with_reducible refine (HSub.out _ _ _ _ (btn hb1 hb2) hv2).mono ?_); rintro e1 w3 ⟨a3, n3, c3, rfl, hv3, hb3⟩)
    | (go_at_call 122; (with_reducible refine (HOf.out _).mono ?_); rintro e1 w4 ⟨a4, n4, c4, rfl, hv4, hb4⟩)
    | (go_at_call 120; (with_reducible refine (HS3.out _ _ _ _ hv4).mono ?_); rintro e1 w5 ⟨a5, n5, c5, rfl, hv5, hb5⟩)
    | (go_at_call 123; (with_reducible refine (HC.out _ _ _ _ _ _ _ (hv3.below (btn hb4 hb5)) hv5).mono ?_); rintro e1 w6 ⟨rfl, hb6⟩)
    | (go_at_call 124; (with_reducible refine (HL.out _ _ _ _ (hv1.below (btn hb2 (btn hb3 (btn hb4 (btn hb5 hb6)))))).mono ?_); rintro e1 w7 ⟨rfl, rfl⟩))
  go_ret3
  refine ⟨ret_rnd ?_ ?_ ?_, btn hb1 (btn hb2 (btn hb3 (btn hb4 (btn hb5 hb6))))⟩
  · first | rfl | omega
  · have := HEC.out; omega
  · have := HEC.out; exact decide_eq_decide.2 (by omega)
set_option maxRecDepth 100000 in
set_option maxHeartbeats 2000000 in
theorem rround53_Bhi_even1 (a : Option Addr) (n0 c0 : Nat) (w : World) (n e C t Kz : Int) (K Bk Rt Hf : Nat) (hn : 0 ≤ n ∧ n ≤ 32000) (he : -100000 ≤ e ∧ e ≤ 2100) (hcut : (-1074) ≤ e + (n - 53)) (ec : n - 53 = C) (hC : 0 < C ∧ C ≤ 40000) (hK : 0 ≤ Kz ∧ Kz ≤ 9007199254740992) (ht : t = 0) (ho : (bits .and .u64 Kz 1 == 1) = false) (hz : (Kz == 9007199254740992) = true)
    (HB : Hid (Calls Tryz.prog 121 #[.slice a n0 c0] w fun e w' => e = .returned (.int .i64 n) ∧ w = w'))
    (HS1 : Hid (Calls Tryz.prog 120 #[.slice a n0 c0, .int .i64 (-C)] w (OneOk w K)))
    (HS2 : Hid (∀ (w1 : World) (a1 : Option Addr) (n1 c1 : Nat), Nw w1 (.slice a1 n1 c1) K → Calls Tryz.prog 120 #[.slice a1 n1 c1, .int .i64 C] w1 (OneOk w1 Bk)))
    (HSub : Hid (∀ (w1 : World) (a1 : Option Addr) (n1 c1 : Nat), Below w.heap.size w w1 → Nw w1 (.slice a1 n1 c1) Bk → Calls Tryz.prog 151 #[.slice a n0 c0, .slice a1 n1 c1] w1 (OneOk w1 Rt)))
    (HOf : Hid (∀ w1, Calls Tryz.prog 122 #[.int .u64 1] w1 (One w1 1)))
    (HS3 : Hid (∀ (w1 : World) (a1 : Option Addr) (n1 c1 : Nat), Nw w1 (.slice a1 n1 c1) 1 → Calls Tryz.prog 120 #[.slice a1 n1 c1, .int .i64 (C - 1)] w1 (OneOk w1 Hf)))
    (HC : Hid (∀ (w1 : World) (a1 : Option Addr) (n1 c1 : Nat) (a2 : Option Addr) (n2 c2 : Nat), Nw w1 (.slice a1 n1 c1) Rt → Nw w1 (.slice a2 n2 c2) Hf → Calls Tryz.prog 123 #[.slice a1 n1 c1, .slice a2 n2 c2] w1 fun e w' => e = .returned (.int .i64 t) ∧ Below w1.heap.size w1 w'))
    (HL : Hid (∀ (w1 : World) (a1 : Option Addr) (n1 c1 : Nat), Nw w1 (.slice a1 n1 c1) K → Calls Tryz.prog 124 #[.slice a1 n1 c1] w1 fun e w' => e = .returned (.int .u64 Kz) ∧ w1 = w')) :
    Calls Tryz.prog 159 #[.slice a n0 c0, .int .i64 e, .int .i64 53, .int .i64 (-1074), .int .i64 971] w fun x w' => x = .returned (.tuple #[.int .u64 ((Kz) / 2), .int .i64 (e + C + 1), .bool (decide (971 < e + C + 1))]) ∧ Below w.heap.size w w' := by
  have HEC := Lib.hid ec
  go_enter Tryz.func159, Tryz.ntmps159
  go_wp2_with (first
    | (go_at_call 121; (with_reducible refine (HB.out).mono ?_); rintro e1 w1 ⟨rfl, rfl⟩)
    | (go_at_call 120; (with_reducible refine (HS1.out).mono ?_); rintro e1 w1 ⟨a1, n1, c1, rfl, hv1, hb1⟩)
    | (go_at_call 120; (with_reducible refine (HS2.out _ _ _ _ hv1).mono ?_); rintro e1 w2 ⟨a2, n2, c2, rfl, hv2, hb2⟩)
    | (go_at_call 151; (with_reducible refine (HSub.out _ _ _ _ (btn hb1 hb2) hv2).mono ?_); rintro e1 w3 ⟨a3, n3, c3, rfl, hv3, hb3⟩)
    | (go_at_call 122; (with_reducible refine (HOf.out _).mono ?_); rintro e1 w4 ⟨a4, n4, c4, rfl, hv4, hb4⟩)
    | (go_at_call 120; (with_reducible refine (HS3.out _ _ _ _ hv4).mono ?_); rintro e1 w5 ⟨a5, n5, c5, rfl, hv5, hb5⟩)
    | (go_at_call 123; (with_reducible refine (HC.out _ _ _ _ _ _ _ (hv3.below (btn hb4 hb5)) hv5).mono ?_); rintro e1 w6 ⟨rfl, hb6⟩)
    | (go_at_call 124; (with_reducible refine (HL.out _ _ _ _ (hv1.below (btn hb2 (btn hb3 (btn hb4 (btn hb5 hb6)))))).mono ?_); rintro e1 w7 ⟨rfl, rfl⟩))
  go_ret3
  refine ⟨ret_rnd ?_ ?_ ?_, btn hb1 (btn hb2 (btn hb3 (btn hb4 (btn hb5 hb6))))⟩
  · first | rfl | omega
  · have := HEC.out; omega
  · have := HEC.out; exact decide_eq_decide.2 (by omega)
set_option maxRecDepth 100000 in
set_option maxHeartbeats 2000000 in
theorem rround53_Bhi_lt0 (a : Option Addr) (n0 c0 : Nat) (w : World) (n e C t Kz : Int) (K Bk Rt Hf : Nat) (hn : 0 ≤ n ∧ n ≤ 32000) (he : -100000 ≤ e ∧ e ≤ 2100) (hcut : (-1074) ≤ e + (n - 53)) (ec : n - 53 = C) (hC : 0 < C ∧ C ≤ 40000) (hK : 0 ≤ Kz ∧ Kz ≤ 9007199254740992) (ht : t < 0) (hz : (Kz == 9007199254740992) = false)
    (HB : Hid (Calls Tryz.prog 121 #[.slice a n0 c0] w fun e w' => e = .returned (.int .i64 n) ∧ w = w'))
    (HS1 : Hid (Calls Tryz.prog 120 #[.slice a n0 c0, .int .i64 (-C)] w (OneOk w K)))
    (HS2 : Hid (∀ (w1 : World) (a1 : Option Addr) (n1 c1 : Nat), Nw w1 (.slice a1 n1 c1) K → Calls Tryz.prog 120 #[.slice a1 n1 c1, .int .i64 C] w1 (OneOk w1 Bk)))
    (HSub : Hid (∀ (w1 : World) (a1 : Option Addr) (n1 c1 : Nat), Below w.heap.size w w1 → Nw w1 (.slice a1 n1 c1) Bk → Calls Tryz.prog 151 #[.slice a n0 c0, .slice a1 n1 c1] w1 (OneOk w1 Rt)))
    (HOf : Hid (∀ w1, Calls Tryz.prog 122 #[.int .u64 1] w1 (One w1 1)))
    (HS3 : Hid (∀ (w1 : World) (a1 : Option Addr) (n1 c1 : Nat), Nw w1 (.slice a1 n1 c1) 1 → Calls Tryz.prog 120 #[.slice a1 n1 c1, .int .i64 (C - 1)] w1 (OneOk w1 Hf)))
    (HC : Hid (∀ (w1 : World) (a1 : Option Addr) (n1 c1 : Nat) (a2 : Option Addr) (n2 c2 : Nat), Nw w1 (.slice a1 n1 c1) Rt → Nw w1 (.slice a2 n2 c2) Hf → Calls Tryz.prog 123 #[.slice a1 n1 c1, .slice a2 n2 c2] w1 fun e w' => e = .returned (.int .i64 t) ∧ Below w1.heap.size w1 w'))
    (HL : Hid (∀ (w1 : World) (a1 : Option Addr) (n1 c1 : Nat), Nw w1 (.slice a1 n1 c1) K → Calls Tryz.prog 124 #[.slice a1 n1 c1] w1 fun e w' => e = .returned (.int .u64 Kz) ∧ w1 = w')) :
    Calls Tryz.prog 159 #[.slice a n0 c0, .int .i64 e, .int .i64 53, .int .i64 (-1074), .int .i64 971] w fun x w' => x = .returned (.tuple #[.int .u64 (Kz), .int .i64 (e + C), .bool (decide (971 < e + C))]) ∧ Below w.heap.size w w' := by
  have HEC := Lib.hid ec
  go_enter Tryz.func159, Tryz.ntmps159
  go_wp2_with (first
    | (go_at_call 121; (with_reducible refine (HB.out).mono ?_); rintro e1 w1 ⟨rfl, rfl⟩)
    | (go_at_call 120; (with_reducible refine (HS1.out).mono ?_); rintro e1 w1 ⟨a1, n1, c1, rfl, hv1, hb1⟩)
    | (go_at_call 120; (with_reducible refine (HS2.out _ _ _ _ hv1).mono ?_); rintro e1 w2 ⟨a2, n2, c2, rfl, hv2, hb2⟩)
    | (go_at_call 151; (with_reducible refine (HSub.out _ _ _ _ (btn hb1 hb2) hv2).mono ?_); rintro e1 w3 ⟨a3, n3, c3, rfl, hv3, hb3⟩)
    | (go_at_call 122; (with_reducible refine (HOf.out _).mono ?_); rintro e1 w4 ⟨a4, n4, c4, rfl, hv4, hb4⟩)
    | (go_at_call 120; (with_reducible refine (HS3.out _ _ _ _ hv4).mono ?_); rintro e1 w5 ⟨a5, n5, c5, rfl, hv5, hb5⟩)
    | (go_at_call 123; (with_reducible refine (HC.out _ _ _ _ _ _ _ (hv3.below (btn hb4 hb5)) hv5).mono ?_); rintro e1 w6 ⟨rfl, hb6⟩)
    | (go_at_call 124; (with_reducible refine (HL.out _ _ _ _ (hv1.below (btn hb2 (btn hb3 (btn hb4 (btn hb5 hb6)))))).mono ?_); rintro e1 w7 ⟨rfl, rfl⟩))
  go_ret3
  refine ⟨ret_rnd ?_ ?_ ?_, btn hb1 (btn hb2 (btn hb3 (btn hb4 (btn hb5 hb6))))⟩
  · first | rfl | omega
  · have := HEC.out; omega
  · have := HEC.out; exact decide_eq_decide.2 (by omega)
set_option maxRecDepth 100000 in
set_option maxHeartbeats 2000000 in
theorem rround53_Bhi_lt1 (a : Option Addr) (n0 c0 : Nat) (w : World) (n e C t Kz : Int) (K Bk Rt Hf : Nat) (hn : 0 ≤ n ∧ n ≤ 32000) (he : -100000 ≤ e ∧ e ≤ 2100) (hcut : (-1074) ≤ e + (n - 53)) (ec : n - 53 = C) (hC : 0 < C ∧ C ≤ 40000) (hK : 0 ≤ Kz ∧ Kz ≤ 9007199254740992) (ht : t < 0) (hz : (Kz == 9007199254740992) = true)
    (HB : Hid (Calls Tryz.prog 121 #[.slice a n0 c0] w fun e w' => e = .returned (.int .i64 n) ∧ w = w'))
    (HS1 : Hid (Calls Tryz.prog 120 #[.slice a n0 c0, .int .i64 (-C)] w (OneOk w K)))
    (HS2 : Hid (∀ (w1 : World) (a1 : Option Addr) (n1 c1 : Nat), Nw w1 (.slice a1 n1 c1) K → Calls Tryz.prog 120 #[.slice a1 n1 c1, .int .i64 C] w1 (OneOk w1 Bk)))
    (HSub : Hid (∀ (w1 : World) (a1 : Option Addr) (n1 c1 : Nat), Below w.heap.size w w1 → Nw w1 (.slice a1 n1 c1) Bk → Calls Tryz.prog 151 #[.slice a n0 c0, .slice a1 n1 c1] w1 (OneOk w1 Rt)))
    (HOf : Hid (∀ w1, Calls Tryz.prog 122 #[.int .u64 1] w1 (One w1 1)))
    (HS3 : Hid (∀ (w1 : World) (a1 : Option Addr) (n1 c1 : Nat), Nw w1 (.slice a1 n1 c1) 1 → Calls Tryz.prog 120 #[.slice a1 n1 c1, .int .i64 (C - 1)] w1 (OneOk w1 Hf)))
    (HC : Hid (∀ (w1 : World) (a1 : Option Addr) (n1 c1 : Nat) (a2 : Option Addr) (n2 c2 : Nat), Nw w1 (.slice a1 n1 c1) Rt → Nw w1 (.slice a2 n2 c2) Hf → Calls Tryz.prog 123 #[.slice a1 n1 c1, .slice a2 n2 c2] w1 fun e w' => e = .returned (.int .i64 t) ∧ Below w1.heap.size w1 w'))
    (HL : Hid (∀ (w1 : World) (a1 : Option Addr) (n1 c1 : Nat), Nw w1 (.slice a1 n1 c1) K → Calls Tryz.prog 124 #[.slice a1 n1 c1] w1 fun e w' => e = .returned (.int .u64 Kz) ∧ w1 = w')) :
    Calls Tryz.prog 159 #[.slice a n0 c0, .int .i64 e, .int .i64 53, .int .i64 (-1074), .int .i64 971] w fun x w' => x = .returned (.tuple #[.int .u64 ((Kz) / 2), .int .i64 (e + C + 1), .bool (decide (971 < e + C + 1))]) ∧ Below w.heap.size w w' := by
  have HEC := Lib.hid ec
  go_enter Tryz.func159, Tryz.ntmps159
  go_wp2_with (first
    | (go_at_call 121; (with_reducible refine (HB.out).mono ?_); rintro e1 w1 ⟨rfl, rfl⟩)
    | (go_at_call 120; (with_reducible refine (HS1.out).mono ?_); rintro e1 w1 ⟨a1, n1, c1, rfl, hv1, hb1⟩)
    | (go_at_call 120; (with_reducible refine (HS2.out _ _ _ _ hv1).mono ?_); rintro e1 w2 ⟨a2, n2, c2, rfl, hv2, hb2⟩)
    | (go_at_call 151; (with_reducible refine (HSub.out _ _ _ _ (btn hb1 hb2) hv2).mono ?_); rintro e1 w3 ⟨a3, n3, c3, rfl, hv3, hb3⟩)
    | (go_at_call 122; (with_reducible refine (HOf.out _).mono ?_); rintro e1 w4 ⟨a4, n4, c4, rfl, hv4, hb4⟩)
    | (go_at_call 120; (with_reducible refine (HS3.out _ _ _ _ hv4).mono ?_); rintro e1 w5 ⟨a5, n5, c5, rfl, hv5, hb5⟩)
    | (go_at_call 123; (with_reducible refine (HC.out _ _ _ _ _ _ _ (hv3.below (btn hb4 hb5)) hv5).mono ?_); rintro e1 w6 ⟨rfl, hb6⟩)
    | (go_at_call 124; (with_reducible refine (HL.out _ _ _ _ (hv1.below (btn hb2 (btn hb3 (btn hb4 (btn hb5 hb6)))))).mono ?_); rintro e1 w7 ⟨rfl, rfl⟩))
  go_ret3
  refine ⟨ret_rnd ?_ ?_ ?_, btn hb1 (btn hb2 (btn hb3 (btn hb4 (btn hb5 hb6))))⟩
  · first | rfl | omega
  · have := HEC.out; omega
  · have := HEC.out; exact decide_eq_decide.2 (by omega)
end Go.Proofs.YtkifdppppihjcaaGreat

namespace Go.Proofs.YtkifdppppihjcaaGreat
set_option linter.unusedVariables false
set_option linter.unusedSimpArgs false
open Go.RowKit Go.Shelf SF
theorem rround53_c (a : Option Addr) (n0 c0 M : Nat) (w : World) (hM : Nw w (.slice a n0 c0) M) (bM : bl M ≤ 32000) (e : Int) (he : -100000 ≤ e ∧ e ≤ 2100) (hq : qz 53 (-1074) (bl M) e - e ≤ 40000) :
    Calls Tryz.prog 159 #[.slice a n0 c0, .int .i64 e, .int .i64 53, .int .i64 (-1074), .int .i64 971] w fun x w' => x = .returned (RndV 53 (-1074) 971 M e) ∧ Below w.heap.size w w' := by
  have HB := Lib.hid (rbits_n hM (by omega))
  have pw : (2 : Nat) ^ 53 = 9007199254740992 := by decide
  have hn : 0 ≤ (bl M : Int) ∧ (bl M : Int) ≤ 32000 := by omega
  have qd : qz 53 (-1074) (bl M) e = max ((bl M : Int) + e - 53) (-1074) := rfl
  by_cases hC : qz 53 (-1074) (bl M) e - e ≤ 0
  · obtain ⟨s, hs⟩ : ∃ s : Nat, qz 53 (-1074) (bl M) e - e = -(s : Int) := ⟨(-(qz 53 (-1074) (bl M) e - e)).toNat, by omega⟩
    have hs3 : s ≤ 3200 := by omega
    have hv := vz_left' hC
    rw [hs, Int.neg_neg, Int.toNat_natCast] at hv
    have hl := vz_lt (p := 53) (low := -1074) (m := M) (e := e) (rest := false) (by omega)
    have hv2 : RndV 53 (-1074) 971 M e = .tuple #[.int .u64 ((M * 2 ^ s : Nat) : Int), .int .i64 (e - (s : Int)), .bool (decide (971 < e - (s : Int)))] := by
      unfold RndV
      have er : rv 53 (-1074) M e false = M * 2 ^ s := by unfold rv; rw [if_neg (by omega), hv]
      have ex : rx 53 (-1074) M e false = e - (s : Int) := by unfold rx; rw [if_neg (by omega)]; omega
      rw [er, ex]
    rw [hv, pw] at hl
    rw [hv2]
    have bV : bl (M * 2 ^ s) ≤ 64000 := Nat.le_trans (bl_shl M s) (by omega)
    have HS := Lib.hid (rshl_n s hM (by omega))
    have hl' : ((M * 2 ^ s : Nat) : Int) < 9007199254740992 := Int.ofNat_lt.2 hl
    by_cases g : e + ((bl M : Int) - 53) < (-1074)
    · exact rround53_Alo a n0 c0 w (bl M : Int) e s _ hn he g _ rfl (by omega) hl' HB HS bV
    · exact rround53_Ahi a n0 c0 w (bl M : Int) e s _ hn he (by omega) _ rfl (by omega) hl' HB HS bV
  · obtain ⟨d, hd⟩ : ∃ d : Nat, qz 53 (-1074) (bl M) e - e = ((d + 1 : Nat) : Int) := ⟨(qz 53 (-1074) (bl M) e - e - 1).toNat, by omega⟩
    have hd4 : d + 1 ≤ 40000 := by omega
    have hv := vz_half hd (by omega)
    have hvl := vz_le 53 (-1074) M e false
    rw [pw] at hvl
    have hK1 : M / 2 ^ (d + 1) ≤ vz 53 (-1074) M e false := by rw [hv]; split <;> omega
    have hback : M / 2 ^ (d + 1) * 2 ^ (d + 1) ≤ M := Nat.div_mul_le_self _ _
    rw [Nat.add_sub_cancel] at hv
    have hrd : RndV 53 (-1074) 971 M e = .tuple #[.int .u64 ((rv 53 (-1074) M e false : Nat) : Int), .int .i64 (rx 53 (-1074) M e false), .bool (decide (971 < rx 53 (-1074) M e false))] := rfl
    have hrv : rv 53 (-1074) M e false = if vz 53 (-1074) M e false = 9007199254740992 then 4503599627370496 else vz 53 (-1074) M e false := by unfold rv; rw [pw]
    have hrx : rx 53 (-1074) M e false = if vz 53 (-1074) M e false = 9007199254740992 then e + ((d + 1 : Nat) : Int) + 1 else e + ((d + 1 : Nat) : Int) := by
      unfold rx; rw [pw]; split <;> omega
    have bK : bl (M / 2 ^ (d + 1)) ≤ 54 := bl_le_of_lt (k := 54) (by rw [show (2 : Nat) ^ 54 = 18014398509481984 by decide]; omega)
    have bR : bl (M - M / 2 ^ (d + 1) * 2 ^ (d + 1)) ≤ 32000 := bl_mono' (Nat.sub_le _ _) bM
    have b1 : bl 1 = 1 := by decide
    have HS1 := Lib.hid (rshr_n (d + 1) hM (by omega) (by omega))
    have HS2 := Lib.hid (fun (w1 : World) (a1 : Option Addr) (n1 c1 : Nat) (h : Nw w1 (.slice a1 n1 c1) (M / 2 ^ (d + 1))) => rshl_n (d + 1) h (by omega))
    have HSub := Lib.hid (fun (w1 : World) (a1 : Option Addr) (n1 c1 : Nat) (hb : Below w.heap.size w w1) (h : Nw w1 (.slice a1 n1 c1) (M / 2 ^ (d + 1) * 2 ^ (d + 1))) => rsub_o (hM.below hb) (by omega) h hback)
    have HOf := Lib.hid (fun w1 => rof_n 1 w1 (W_of (by decide)))
    have HS3 := Lib.hid (fun (w1 : World) (a1 : Option Addr) (n1 c1 : Nat) (h : Nw w1 (.slice a1 n1 c1) 1) => rshl_n d h (by omega))
    have b2 : bl (1 * 2 ^ d) ≤ 64000 := Nat.le_trans (bl_shl 1 d) (by omega)
    have HC := Lib.hid (fun (w1 : World) (a1 : Option Addr) (n1 c1 : Nat) (a2 : Option Addr) (n2 c2 : Nat) (h1 : Nw w1 (.slice a1 n1 c1) (M - M / 2 ^ (d + 1) * 2 ^ (d + 1))) (h2 : Nw w1 (.slice a2 n2 c2) (1 * 2 ^ d)) => rcmp_n h1 (by omega) h2 b2)
    have HL := Lib.hid (fun (w1 : World) (a1 : Option Addr) (n1 c1 : Nat) (h : Nw w1 (.slice a1 n1 c1) (M / 2 ^ (d + 1))) => rlow_n h (by omega))
    rw [show M / 2 ^ (d + 1) % 18446744073709551616 = M / 2 ^ (d + 1) from Nat.mod_eq_of_lt (by omega)] at HL
    rw [show ((d : Nat) : Int) = ((d + 1 : Nat) : Int) - 1 by omega] at HS3
    have HB1 := band1 (a := ((M / 2 ^ (d + 1) : Nat) : Int)) (Int.natCast_nonneg _) (by omega)
    rw [Nat.one_mul] at HS3 HC
    rw [hrd, hrv, hrx]
    have hc : 0 < ((d + 1 : Nat) : Int) ∧ ((d + 1 : Nat) : Int) ≤ 40000 := by omega
    have eC1 : e + ((bl M : Int) - 53) < (-1074) → (-1074) - e = ((d + 1 : Nat) : Int) := by omega
    have eC2 : (-1074) ≤ e + ((bl M : Int) - 53) → (bl M : Int) - 53 = ((d + 1 : Nat) : Int) := by omega
    obtain ⟨C, hCC⟩ : ∃ C : Int, ((d + 1 : Nat) : Int) = C := ⟨_, rfl⟩
    rw [hCC] at hc eC1 eC2 HS1 HS2 HS3 ⊢
    generalize M / 2 ^ (d + 1) * 2 ^ (d + 1) = Bk at *
    generalize M / 2 ^ (d + 1) = K at *
    generalize M - Bk = Rt at *
    generalize (2 : Nat) ^ d = Hf at *
    generalize vz 53 (-1074) M e false = V at *
    have hK : 0 ≤ (K : Int) ∧ (K : Int) ≤ 9007199254740992 := by omega
    have key : ∀ (t : Int), cmpI (Rt : Int) (Hf : Int) = t → (0 < t ↔ Hf < Rt) ∧ (t = 0 ↔ Rt = Hf) := by
      intro t ht; subst ht; unfold cmpI; constructor <;> (split <;> (try split) <;> omega)
    obtain ⟨t, ht⟩ : ∃ t, cmpI (Rt : Int) (Hf : Int) = t := ⟨_, rfl⟩
    have key := key t ht
    rw [ht] at HC
    clear ht hrd hrv hrx hM
    have fin : ∀ (U : Int) (z : Bool), U = (V : Int) → (U == 9007199254740992) = z → (if V = 9007199254740992 then 4503599627370496 else V : Nat) = (if z then U / 2 else U) ∧ (if V = 9007199254740992 then e + C + 1 else e + C) = (if z then e + C + 1 else e + C) := by
      intro U z h1 h2
      subst h1
      by_cases c : V = 9007199254740992
      · subst c
        have : z = true := by rw [← h2]; decide
        subst this; exact ⟨rfl, rfl⟩
      · have : z = false := by rw [← h2]; simp; omega
        subst this; rw [if_neg c, if_neg c]; exact ⟨rfl, rfl⟩
    by_cases ht1 : 0 < t
    · have hU : (K : Int) + 1 = (V : Int) := by rw [hv, if_pos (.inl (key.1.1 ht1))]; omega
      obtain ⟨z, hz⟩ : ∃ z, ((K : Int) + 1 == 9007199254740992) = z := ⟨_, rfl⟩
      have f := fin _ z hU hz
      rw [f.1, f.2]
      by_cases g : e + ((bl M : Int) - 53) < (-1074)
      · have ec := eC1 g
        cases z
        · exact rround53_Blo_gt0 a n0 c0 w _ e C t K K Bk Rt Hf hn he g ec hc hK ht1 hz HB HS1 HS2 HSub HOf HS3 HC HL
        · exact rround53_Blo_gt1 a n0 c0 w _ e C t K K Bk Rt Hf hn he g ec hc hK ht1 hz HB HS1 HS2 HSub HOf HS3 HC HL
      · have ec := eC2 (by omega)
        cases z
        · exact rround53_Bhi_gt0 a n0 c0 w _ e C t K K Bk Rt Hf hn he (by omega) ec hc hK ht1 hz HB HS1 HS2 HSub HOf HS3 HC HL
        · exact rround53_Bhi_gt1 a n0 c0 w _ e C t K K Bk Rt Hf hn he (by omega) ec hc hK ht1 hz HB HS1 HS2 HSub HOf HS3 HC HL
    · by_cases ht2 : t = 0
      · by_cases hodd : K % 2 = 1
        · have ho : (bits .and .u64 (K : Int) 1 == 1) = true := by rw [HB1]; exact beq_of (by omega)
          have hU : (K : Int) + 1 = (V : Int) := by rw [hv, if_pos (.inr ⟨key.2.1 ht2, by omega⟩)]; omega
          obtain ⟨z, hz⟩ : ∃ z, ((K : Int) + 1 == 9007199254740992) = z := ⟨_, rfl⟩
          have f := fin _ z hU hz
          rw [f.1, f.2]
          by_cases g : e + ((bl M : Int) - 53) < (-1074)
          · have ec := eC1 g
            cases z
            · exact rround53_Blo_odd0 a n0 c0 w _ e C t K K Bk Rt Hf hn he g ec hc hK ht2 ho hz HB HS1 HS2 HSub HOf HS3 HC HL
            · exact rround53_Blo_odd1 a n0 c0 w _ e C t K K Bk Rt Hf hn he g ec hc hK ht2 ho hz HB HS1 HS2 HSub HOf HS3 HC HL
          · have ec := eC2 (by omega)
            cases z
            · exact rround53_Bhi_odd0 a n0 c0 w _ e C t K K Bk Rt Hf hn he (by omega) ec hc hK ht2 ho hz HB HS1 HS2 HSub HOf HS3 HC HL
            · exact rround53_Bhi_odd1 a n0 c0 w _ e C t K K Bk Rt Hf hn he (by omega) ec hc hK ht2 ho hz HB HS1 HS2 HSub HOf HS3 HC HL
        · have ho : (bits .and .u64 (K : Int) 1 == 1) = false := by rw [HB1]; exact beq_no (by omega)
          have hU : (K : Int) = (V : Int) := by rw [hv, if_neg (by rintro (h | ⟨h, h2⟩) <;> omega)]
          obtain ⟨z, hz⟩ : ∃ z, ((K : Int) == 9007199254740992) = z := ⟨_, rfl⟩
          have f := fin _ z hU hz
          rw [f.1, f.2]
          by_cases g : e + ((bl M : Int) - 53) < (-1074)
          · have ec := eC1 g
            cases z
            · exact rround53_Blo_even0 a n0 c0 w _ e C t K K Bk Rt Hf hn he g ec hc hK ht2 ho hz HB HS1 HS2 HSub HOf HS3 HC HL
            · exact rround53_Blo_even1 a n0 c0 w _ e C t K K Bk Rt Hf hn he g ec hc hK ht2 ho hz HB HS1 HS2 HSub HOf HS3 HC HL
          · have ec := eC2 (by omega)
            cases z
            · exact rround53_Bhi_even0 a n0 c0 w _ e C t K K Bk Rt Hf hn he (by omega) ec hc hK ht2 ho hz HB HS1 HS2 HSub HOf HS3 HC HL
            · exact rround53_Bhi_even1 a n0 c0 w _ e C t K K Bk Rt Hf hn he (by omega) ec hc hK ht2 ho hz HB HS1 HS2 HSub HOf HS3 HC HL
      · have hU : (K : Int) = (V : Int) := by rw [hv, if_neg (by rintro (h | ⟨h, h2⟩) <;> omega)]
        obtain ⟨z, hz⟩ : ∃ z, ((K : Int) == 9007199254740992) = z := ⟨_, rfl⟩
        have f := fin _ z hU hz
        rw [f.1, f.2]
        by_cases g : e + ((bl M : Int) - 53) < (-1074)
        · have ec := eC1 g
          cases z
          · exact rround53_Blo_lt0 a n0 c0 w _ e C t K K Bk Rt Hf hn he g ec hc hK (by omega) hz HB HS1 HS2 HSub HOf HS3 HC HL
          · exact rround53_Blo_lt1 a n0 c0 w _ e C t K K Bk Rt Hf hn he g ec hc hK (by omega) hz HB HS1 HS2 HSub HOf HS3 HC HL
        · have ec := eC2 (by omega)
          cases z
          · exact rround53_Bhi_lt0 a n0 c0 w _ e C t K K Bk Rt Hf hn he (by omega) ec hc hK (by omega) hz HB HS1 HS2 HSub HOf HS3 HC HL
          · exact rround53_Bhi_lt1 a n0 c0 w _ e C t K K Bk Rt Hf hn he (by omega) ec hc hK (by omega) hz HB HS1 HS2 HSub HOf HS3 HC HL
end Go.Proofs.YtkifdppppihjcaaGreat

namespace Go.Proofs.YtkifdppppihjcaaGreat
set_option linter.unusedVariables false
set_option linter.unusedSimpArgs false
open Go.RowKit Go.Shelf SF

/-- What the reference's Make gives: nothing of more than 1000 words. -/
def makeR (n : Bool) (M : Nat) (e : Int) : Nat := if 32000 < bl M then NaN else makeV n M e
theorem makeR_ok (n : Bool) {M : Nat} (e : Int) (h : bl M ≤ 32000) : makeR n M e = makeV n M e := by unfold makeR; rw [if_neg (by omega)]
theorem len_gt {M : Nat} : 1000 < (ws M).length ↔ 32000 < bl M := by rw [ws_length]; omega
theorem len_z {M : Nat} : (ws M).length = 0 ↔ M = 0 := by
  constructor
  · intro h
    by_cases c : M = 0
    · exact c
    · rw [ws_pos c] at h; simp at h
  · intro h; rw [h, ws_zero]; rfl
set_option maxRecDepth 100000 in
set_option maxHeartbeats 2000000 in
theorem rmakeG_c (neg : Bool) (a : Option Addr) (n c : Nat) (l : List Int) (e : Int) (w : World) (hr : Rd w .u32 (.slice a n c) l) (hw : Words l) (hn : n ≤ 1000000) (he : -9223372036854775808 ≤ e ∧ e ≤ 9223372036854775807) :
    Calls Tryz.prog 134 #[.bool neg, .slice a n c, .int .i64 e] w fun x w' => x = .returned (.int .u64 ((makeR neg (wv l) e : Nat) : Int)) ∧ Below w.heap.size w w' := by
  have HN := rnorm_c a n c l w hr hw (by omega)
  have hbl := len_bound hw
  have hln := hr.parts.1
  obtain ⟨M, hM⟩ : ∃ M, wv l = M := ⟨_, rfl⟩
  rw [hM] at HN hbl ⊢
  have HN := Lib.hid HN
  have bM : bl M ≤ 32000000 := by omega
  clear hbl hln hM hr hw hn
  have HS0 : Hid (∀ w, Calls Tryz.prog 157 #[.bool neg, .int .u64 0] w fun e w' => e = .returned (.int .u64 ((sg neg 0 : Nat) : Int)) ∧ w = w') := fun w => rsigned_c 0 neg (by decide) w
  have HSI : Hid (∀ w, Calls Tryz.prog 157 #[.bool neg, .int .u64 9218868437227405312] w fun e w' => e = .returned (.int .u64 ((sg neg 9218868437227405312 : Nat) : Int)) ∧ w = w') := fun w => rsigned_c 9218868437227405312 neg (by decide) w
  by_cases g1 : 32000 < bl M
  · have HL := Lib.hid (fun (w1 : World) (a1 : Option Addr) (n1 c1 : Nat) (h : Nw w1 (.slice a1 n1 c1) M) => show 1000 < n1 by rw [(Rd.parts h).1]; exact len_gt.2 g1)
    have HR := Lib.hid (show ((makeR neg M e : Nat) : Int) = 9221120237041090560 by unfold makeR; rw [if_pos g1]; rfl)
    clear g1 bM
    go_enter Tryz.func134, Tryz.ntmps134
    go_wp2_with (go_at_call 155; (with_reducible refine (HN.out).mono ?_); rintro e1 w1 ⟨v1, rfl, hv1, hb1⟩; obtain ⟨a1, n1, c1, rfl⟩ := hv1.slice; have hl := HL.out _ _ _ _ hv1)
    go_ret
    exact ⟨ret1 HR.out.symm, hb1⟩
  have hR : makeR neg M e = makeV neg M e := makeR_ok neg e (by omega)
  rw [hR]
  clear hR
  by_cases g2 : M = 0
  · subst g2
    have HL := Lib.hid (fun (w1 : World) (a1 : Option Addr) (n1 c1 : Nat) (h : Nw w1 (.slice a1 n1 c1) 0) => show n1 = 0 by rw [(Rd.parts h).1]; exact len_z.2 rfl)
    have HR := Lib.hid (make_zero neg e)
    clear g1 bM
    go_enter Tryz.func134, Tryz.ntmps134
    go_wp2_with (first
      | (go_at_call 155; (with_reducible refine (HN.out).mono ?_); rintro e1 w1 ⟨v1, rfl, hv1, hb1⟩; obtain ⟨a1, n1, c1, rfl⟩ := hv1.slice; obtain rfl := HL.out _ _ _ _ hv1)
      | (go_at_call 157; (with_reducible refine (HS0.out _).mono ?_); rintro e2 w2 ⟨rfl, rfl⟩))
    go_ret
    exact ⟨ret1 (by rw [HR.out]), hb1⟩
  have HL := Lib.hid (fun (w1 : World) (a1 : Option Addr) (n1 c1 : Nat) (h : Nw w1 (.slice a1 n1 c1) M) => show (n1 ≤ 1000 ∧ 0 < n1) by
    have := (Rd.parts h).1
    have h1 := (not_congr (len_gt (M := M))).2 g1
    have h2 := (not_congr (len_z (M := M))).2 g2
    omega)
  have HB := Lib.hid (fun (w1 : World) (a1 : Option Addr) (n1 c1 : Nat) (h : Nw w1 (.slice a1 n1 c1) M) => rbits_n h (by omega))
  by_cases g3 : 2000 < e
  · have HR := Lib.hid (make_great neg g2 g3)
    clear g2 g1
    go_enter Tryz.func134, Tryz.ntmps134
    go_wp2_with (first
      | (go_at_call 155; (with_reducible refine (HN.out).mono ?_); rintro e1 w1 ⟨v1, rfl, hv1, hb1⟩; obtain ⟨a1, n1, c1, rfl⟩ := hv1.slice; obtain ⟨l1, l2⟩ := HL.out _ _ _ _ hv1)
      | (go_at_call 121; (with_reducible refine (HB.out _ _ _ _ hv1).mono ?_); rintro e3 w3 ⟨rfl, rfl⟩)
      | (go_at_call 157; (with_reducible refine (HSI.out _).mono ?_); rintro e2 w2 ⟨rfl, rfl⟩))
    go_ret
    exact ⟨ret1 (by rw [HR.out]; rfl), hb1⟩
  by_cases g4 : e < -1200 - (bl M : Int)
  · have HR := Lib.hid (make_tiny neg g4)
    clear g2 g1
    go_enter Tryz.func134, Tryz.ntmps134
    go_wp2_with (first
      | (go_at_call 155; (with_reducible refine (HN.out).mono ?_); rintro e1 w1 ⟨v1, rfl, hv1, hb1⟩; obtain ⟨a1, n1, c1, rfl⟩ := hv1.slice; obtain ⟨l1, l2⟩ := HL.out _ _ _ _ hv1)
      | (go_at_call 121; (with_reducible refine (HB.out _ _ _ _ hv1).mono ?_); rintro e3 w3 ⟨rfl, rfl⟩)
      | (go_at_call 157; (with_reducible refine (HS0.out _).mono ?_); rintro e2 w2 ⟨rfl, rfl⟩))
    go_ret
    exact ⟨ret1 (by rw [HR.out]), hb1⟩
  have HRD := fun (w1 : World) (a1 : Option Addr) (n1 c1 : Nat) (h : Nw w1 (.slice a1 n1 c1) M) => rround53_c a1 n1 c1 M w1 h (by omega) e (by omega) (by unfold qz; omega)
  have hov := @make_over neg M e g2
  have hun := @make_under neg M e g2
  have vl := rv_lt (p := 53) (by decide) (-1074) M e false
  rw [show (2 : Nat) ^ 53 = 9007199254740992 by decide] at vl
  have xg := rx_ge 53 (-1074) M e false
  unfold RndV at HRD
  obtain ⟨V, hV⟩ : ∃ V, rv 53 (-1074) M e false = V := ⟨_, rfl⟩
  obtain ⟨X, hX⟩ : ∃ X, rx 53 (-1074) M e false = X := ⟨_, rfl⟩
  rw [hV] at HRD hun vl
  rw [hX] at HRD hov hun xg
  by_cases g5 : 971 < X
  · have HR := Lib.hid (hov g5)
    rw [show decide (971 < X) = true from decide_eq_true g5] at HRD
    have HRD := Lib.hid HRD
    clear g2 g1 hov hun hV hX vl
    go_enter Tryz.func134, Tryz.ntmps134
    go_wp2_with (first
      | (go_at_call 155; (with_reducible refine (HN.out).mono ?_); rintro e1 w1 ⟨v1, rfl, hv1, hb1⟩; obtain ⟨a1, n1, c1, rfl⟩ := hv1.slice; obtain ⟨l1, l2⟩ := HL.out _ _ _ _ hv1)
      | (go_at_call 121; (with_reducible refine (HB.out _ _ _ _ hv1).mono ?_); rintro e3 w3 ⟨rfl, rfl⟩)
      | (go_at_call 159; (with_reducible refine (HRD.out _ _ _ _ hv1).mono ?_); rintro e4 w4 ⟨rfl, hb4⟩)
      | (go_at_call 157; (with_reducible refine (HSI.out _).mono ?_); rintro e2 w2 ⟨rfl, rfl⟩))
    go_ret
    exact ⟨ret1 (by rw [HR.out]; rfl), btn hb1 hb4⟩
  have hun := hun (by omega)
  rw [show decide (971 < X) = false from decide_eq_false g5] at HRD
  by_cases g6 : V < 4503599627370496
  · rw [if_pos g6] at hun
    have HSV := Lib.hid (fun w => rsigned_c V neg (by omega) w)
    have HR := Lib.hid hun
    have g7 : (V : Int) < 4503599627370496 := by omega
    obtain ⟨z, hz⟩ : ∃ z : Int, (V : Int) = z := ⟨_, rfl⟩
    rw [hz] at HRD g7 HSV
    have HRD := Lib.hid HRD
    clear g2 g1 hov hun hV hX vl g6 hz
    go_enter Tryz.func134, Tryz.ntmps134
    go_wp2_with (first
      | (go_at_call 155; (with_reducible refine (HN.out).mono ?_); rintro e1 w1 ⟨v1, rfl, hv1, hb1⟩; obtain ⟨a1, n1, c1, rfl⟩ := hv1.slice; obtain ⟨l1, l2⟩ := HL.out _ _ _ _ hv1)
      | (go_at_call 121; (with_reducible refine (HB.out _ _ _ _ hv1).mono ?_); rintro e3 w3 ⟨rfl, rfl⟩)
      | (go_at_call 159; (with_reducible refine (HRD.out _ _ _ _ hv1).mono ?_); rintro e4 w4 ⟨rfl, hb4⟩)
      | (go_at_call 157; (with_reducible refine (HSV.out _).mono ?_); rintro e2 w2 ⟨rfl, rfl⟩))
    go_ret
    exact ⟨ret1 (by rw [HR.out]), btn hb1 hb4⟩
  rw [if_neg g6] at hun
  obtain ⟨Y, hY⟩ : ∃ Y : Nat, X + 1075 = (Y : Int) := ⟨(X + 1075).toNat, by omega⟩
  rw [hY, Int.toNat_natCast] at hun
  obtain ⟨P, hP⟩ : ∃ P, Y * 4503599627370496 + (V - 4503599627370496) = P := ⟨_, rfl⟩
  rw [hP] at hun
  have hP2 : P < 9223372036854775808 := by omega
  have HSV := fun w => rsigned_c P neg hP2 w
  have HR := Lib.hid hun
  obtain ⟨z, hz⟩ : ∃ z : Int, (V : Int) = z := ⟨_, rfl⟩
  have eq : bits .or .u64 ((X + 1075) * 4503599627370496) (bits .and .u64 z 4503599627370495) = (P : Int) := by
    rw [← hz, band_frac (W_of (by omega)), hY, show ((Y : Int) * 4503599627370496) = ((Y * 4503599627370496 : Nat) : Int) by omega]
    rw [bor_at (s := 52) (by rw [show (2 : Nat) ^ 52 = 4503599627370496 by decide]; exact Nat.mul_mod_left _ _) (by rw [show (2 : Nat) ^ 52 = 4503599627370496 by decide]; unfold fr; omega) (W_of (by omega)) (W_of (by unfold fr; omega))]
    unfold fr
    omega
  obtain ⟨y, hy⟩ : ∃ y : Int, (P : Int) = y := ⟨_, rfl⟩
  rw [hy] at HSV eq
  have g7 : ¬ z < 4503599627370496 := by omega
  have g8 : z < 9007199254740992 := by omega
  rw [hz] at HRD
  have HRD := Lib.hid HRD
  have HSV := Lib.hid HSV
  clear g2 g1 hov hun hV hX vl g6 hz hY hP hP2 hy
  go_enter Tryz.func134, Tryz.ntmps134
  go_wp2_with (first
    | (go_at_call 155; (with_reducible refine (HN.out).mono ?_); rintro e1 w1 ⟨v1, rfl, hv1, hb1⟩; obtain ⟨a1, n1, c1, rfl⟩ := hv1.slice; obtain ⟨l1, l2⟩ := HL.out _ _ _ _ hv1)
    | (go_at_call 121; (with_reducible refine (HB.out _ _ _ _ hv1).mono ?_); rintro e3 w3 ⟨rfl, rfl⟩)
    | (go_at_call 159; (with_reducible refine (HRD.out _ _ _ _ hv1).mono ?_); rintro e4 w4 ⟨rfl, hb4⟩)
    | (go_at_call 157; (with_reducible refine (HSV.out _).mono ?_); rintro e2 w2 ⟨rfl, rfl⟩))
  go_ret
  exact ⟨ret1 (by rw [HR.out]), btn hb1 hb4⟩
end Go.Proofs.YtkifdppppihjcaaGreat

namespace Go.Proofs.YtkifdppppihjcaaGreat
set_option linter.unusedVariables false
set_option linter.unusedSimpArgs false
open Go.RowKit Go.Shelf SF

theorem rmake_n (neg : Bool) {w : World} {a : Option Addr} {n c M : Nat} (h : Nw w (.slice a n c) M) (hM : bl M ≤ 32000) (e : Int) (he : -4611686018427387904 ≤ e ∧ e ≤ 4611686018427387904) :
    Calls Tryz.prog 134 #[.bool neg, .slice a n c, .int .i64 e] w fun x w' => x = .returned (.int .u64 ((makeV neg M e : Nat) : Int)) ∧ Below w.heap.size w w' := by
  have := rmakeG_c neg a n c (ws M) e w h (words_ws M) (by have := h.sz (k := 1000) hM; omega) (by omega)
  rw [wv_ws, makeR_ok neg e hM] at this
  exact this
theorem rsplit_bad (a : Nat) (ha : W a) (h : nan a = true ∨ inf a = true) (w : World) : Calls Tryz.prog 119 #[.int .u64 a] w fun e w' => e = .returned (.tuple #[.bool false, .slice none 0 0, .int .i64 0, .bool false]) ∧ w = w' := by
  have HN := fun w => risnan_c a ha w
  have HI := fun w => risinf_c a ha w
  by_cases h1 : nan a = true
  · rw [h1] at HN
    have HN := Lib.hid HN
    clear h h1 HI
    go_enter Tryz.func119, Tryz.ntmps119
    go_wp2_with (go_at_call 64; (with_reducible refine (HN.out _).mono ?_); rintro e1 w1 ⟨rfl, rfl⟩)
    exact bodyPost_ret (v := .tuple #[.bool false, .slice none 0 0, .int .i64 0, .bool false]) (by simp [results, Tryz.results119, go_sem]) rfl ⟨rfl, rfl⟩
  · have h2 : inf a = true := by rcases h with h | h; exact absurd h h1; exact h
    rw [Bool.eq_false_iff.2 h1] at HN
    rw [h2] at HI
    have HN := Lib.hid HN
    have HI := Lib.hid HI
    clear h h1 h2
    go_enter Tryz.func119, Tryz.ntmps119
    go_wp2_with (first
      | (go_at_call 64; (with_reducible refine (HN.out _).mono ?_); rintro e1 w1 ⟨rfl, rfl⟩)
      | (go_at_call 99; (with_reducible refine (HI.out _).mono ?_); rintro e1 w1 ⟨rfl, rfl⟩))
    exact bodyPost_ret (v := .tuple #[.bool false, .slice none 0 0, .int .i64 0, .bool false]) (by simp [results, Tryz.results119, go_sem]) rfl ⟨rfl, rfl⟩
/-- What Split gives of a finite one. -/
def Sp (w : World) (g : Bool) (M : Nat) (x : Int) (e : Ending) (w' : World) : Prop := ∃ a n c, e = .returned (.tuple #[.bool g, .slice a n c, .int .i64 x, .bool true]) ∧ Nw w' (.slice a n c) M ∧ Below w.heap.size w w'
theorem rsplit_c (a : Nat) (ha : W a) (h1 : nan a = false) (h2 : inf a = false) (w : World) : Calls Tryz.prog 119 #[.int .u64 a] w (Sp w (ng a) (sm a) (se a)) := by
  suffices h : Calls Tryz.prog 119 #[.int .u64 a] w fun e w' => ∃ b n c, e = .returned (.tuple #[.bool (ng a), .slice b n c, .int .i64 (se a), .bool true]) ∧ Nw w' (.slice b n c) (sm a) ∧ Below w.heap.size w w' from h
  have HN := fun w => risnan_c a ha w
  have HI := fun w => risinf_c a ha w
  have HG := fun w => rminus_c a ha w
  rw [h1] at HN
  rw [h2] at HI
  have b1 := ex_bits ha
  have b2 := band_frac ha
  have xl := ex_lt a
  have fl : fr a < 4503599627370496 := by unfold fr; omega
  have b3 := bor_hidden fl
  have em : sm a = if ex a = 0 then fr a else fr a + 4503599627370496 := rfl
  have ee : se a = if ex a = 0 then -1074 else (ex a : Int) - 1075 := rfl
  obtain ⟨X, hX⟩ : ∃ X, ex a = X := ⟨_, rfl⟩
  obtain ⟨F, hF⟩ : ∃ F, fr a = F := ⟨_, rfl⟩
  obtain ⟨b, hb⟩ : ∃ b, ng a = b := ⟨_, rfl⟩
  obtain ⟨M, hM⟩ : ∃ M, F + 4503599627370496 = M := ⟨_, rfl⟩
  have HO1 := fun w => rof_n F w (W_of (by omega))
  have HO2 := fun w => rof_n M w (W_of (by omega))
  rw [hX] at b1 xl em ee
  rw [hF] at b2 b3 fl em
  rw [hM] at b3 em
  rw [hb] at HG ⊢
  have HG := Lib.hid HG
  have HN := Lib.hid HN
  have HI := Lib.hid HI
  have HO1 := Lib.hid HO1
  have HO2 := Lib.hid HO2
  have EM := Lib.hid em
  have EE := Lib.hid ee
  clear hX hF hb hM em ee h1 h2
  by_cases hx : X = 0
  · subst hx
    have e1 : sm a = F := EM.out
    have e2 : se a = -1074 := EE.out
    rw [e1, e2]
    clear e1 e2 EM EE
    go_enter Tryz.func119, Tryz.ntmps119
    go_wp2_with (first
      | (go_at_call 64; (with_reducible refine (HN.out _).mono ?_); rintro e1 w1 ⟨rfl, rfl⟩)
      | (go_at_call 99; (with_reducible refine (HI.out _).mono ?_); rintro e1 w1 ⟨rfl, rfl⟩)
      | (go_at_call 69; (with_reducible refine (HG.out _).mono ?_); rintro e1 w1 ⟨rfl, rfl⟩)
      | (go_at_call 122; (with_reducible refine (HO1.out _).mono ?_); rintro e1 w2 ⟨a1, n1, c1, rfl, hv1, hb1⟩))
    exact bodyPost_ret (v := .tuple #[.bool b, .slice a1 n1 c1, .int .i64 (-1074), .bool true]) (by simp [results, Tryz.results119, go_sem]) rfl ⟨_, _, _, rfl, hv1, hb1⟩
  · have e1 : sm a = M := by have := EM.out; rwa [if_neg hx] at this
    have e2 : se a = (X : Int) - 1075 := by have := EE.out; rwa [if_neg hx] at this
    rw [e1, e2]
    have hp : (0 : Int) < X := by omega
    clear e1 e2 EM EE
    go_enter Tryz.func119, Tryz.ntmps119
    go_wp2_with (first
      | (go_at_call 64; (with_reducible refine (HN.out _).mono ?_); rintro e1 w1 ⟨rfl, rfl⟩)
      | (go_at_call 99; (with_reducible refine (HI.out _).mono ?_); rintro e1 w1 ⟨rfl, rfl⟩)
      | (go_at_call 69; (with_reducible refine (HG.out _).mono ?_); rintro e1 w1 ⟨rfl, rfl⟩)
      | (go_at_call 122; (with_reducible refine (HO2.out _).mono ?_); rintro e1 w2 ⟨a1, n1, c1, rfl, hv1, hb1⟩))
    exact bodyPost_ret (v := .tuple #[.bool b, .slice a1 n1 c1, .int .i64 ((X : Int) - 1075), .bool true]) (by simp [results, Tryz.results119, go_sem]) rfl ⟨_, _, _, rfl, hv1, hb1⟩
end Go.Proofs.YtkifdppppihjcaaGreat
