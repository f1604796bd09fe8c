/- The reference's round, Make and Split. -/
import Derived.Test.YtecgkhijiogggaaU8
import Derived.Test.YtecgkhijiogggaaM
namespace Go.Proofs.Ytecgkhijiogggaa
set_option linter.unusedVariables false
set_option linter.unusedSimpArgs false
open Go.RowKit Go.Shelf SF

/-- What rounding gives. -/
def RndV (p : Nat) (low high : Int) (M : Nat) (e : Int) : Value := .tuple #[.int .u64 ((rv p low M e false : Nat) : Int), .int .i64 (rx p low M e false), .bool (decide (high < rx p low M e false))]
theorem band1 {a : Int} (h0 : 0 ≤ a) (h1 : a < 18446744073709551616) : bits .and .u64 a 1 = a % 2 := by
  obtain ⟨A, rfl⟩ := Int.eq_ofNat_of_zero_le h0
  rw [show (1 : Int) = ((1 : Nat) : Int) from rfl, u64_and_nat A _ (by omega) (by decide), nat_mask1]; omega
theorem ret_rnd {a b a' b' : Int} {c c' : Bool} (h1 : a = a') (h2 : b = b') (h3 : c = c') : Ending.returned (.tuple #[.int .u64 a, .int .i64 b, .bool c]) = .returned (.tuple #[.int .u64 a', .int .i64 b', .bool c']) := by rw [h1, h2, h3]
set_option maxRecDepth 100000 in
set_option maxHeartbeats 2000000 in
theorem rround53_Alo (a : Option Addr) (n0 c0 : Nat) (w : World) (n e : Int) (s V : Nat) (hn : 0 ≤ n ∧ n ≤ 32000) (he : -100000 ≤ e ∧ e ≤ 2100) (hcut : e + (n - 53) < (-1074)) (c : Int) (ec : (-1074) - e = c) (hcs : c = -(s : Int)) (hV : (V : Int) < 9007199254740992)
    (HB : Hid (Calls Try.prog 77 #[.slice a n0 c0] w fun e w' => e = .returned (.int .i64 n) ∧ w = w'))
    (HS : Hid (Calls Try.prog 78 #[.slice a n0 c0, .int .i64 (s : Int)] w (OneOk w V))) (bV : bl V ≤ 64000) :
    Calls Try.prog 98 #[.slice a n0 c0, .int .i64 e, .int .i64 53, .int .i64 (-1074), .int .i64 971] w fun x w' => x = .returned (.tuple #[.int .u64 (V : Int), .int .i64 (e - (s : Int)), .bool (decide (971 < e - (s : Int)))]) ∧ Below w.heap.size w w' := by
  have s0 : (0 : Int) ≤ s := Int.natCast_nonneg s
  have s1 : (s : Int) ≤ 300000 := by omega
  have HV := Lib.hid (show ((V % 18446744073709551616 : Nat) : Int) = V by omega)
  have HEC := Lib.hid (show (-1074) - e = -(s : Int) by omega)
  have cpos : c ≤ 0 := by omega
  have cneg : -300000 ≤ c := by omega
  have HCS := Lib.hid (show -c = (s : Int) by omega)
  clear hcs hV s0 s1
  go_enter Try.func98, Try.ntmps98
  go_wp2_with (first
    | (go_at_call 77; (with_reducible refine (HB.out).mono ?_); rintro e1 w1 ⟨rfl, rfl⟩)
    | (go_at_call 78; rw [HCS.out]; (with_reducible refine (HS.out).mono ?_); rintro e1 w1 ⟨a1, n1, c1, rfl, hv1, hb1⟩)
    | (go_at_call 102; refine (rlow_n hv1 bV).mono ?_; rintro e1 w2 ⟨rfl, rfl⟩))
  go_ret3
  refine ⟨ret_rnd HV.out ?_ ?_, hb1⟩
  · have := HEC.out; have := HCS.out; omega
  · have := HEC.out; have := HCS.out; exact decide_eq_decide.2 (by omega)
set_option maxRecDepth 100000 in
set_option maxHeartbeats 2000000 in
theorem rround53_Ahi (a : Option Addr) (n0 c0 : Nat) (w : World) (n e : Int) (s V : Nat) (hn : 0 ≤ n ∧ n ≤ 32000) (he : -100000 ≤ e ∧ e ≤ 2100) (hcut : (-1074) ≤ e + (n - 53)) (c : Int) (ec : n - 53 = c) (hcs : c = -(s : Int)) (hV : (V : Int) < 9007199254740992)
    (HB : Hid (Calls Try.prog 77 #[.slice a n0 c0] w fun e w' => e = .returned (.int .i64 n) ∧ w = w'))
    (HS : Hid (Calls Try.prog 78 #[.slice a n0 c0, .int .i64 (s : Int)] w (OneOk w V))) (bV : bl V ≤ 64000) :
    Calls Try.prog 98 #[.slice a n0 c0, .int .i64 e, .int .i64 53, .int .i64 (-1074), .int .i64 971] w fun x w' => x = .returned (.tuple #[.int .u64 (V : Int), .int .i64 (e - (s : Int)), .bool (decide (971 < e - (s : Int)))]) ∧ Below w.heap.size w w' := by
  have s0 : (0 : Int) ≤ s := Int.natCast_nonneg s
  have s1 : (s : Int) ≤ 300000 := by omega
  have HV := Lib.hid (show ((V % 18446744073709551616 : Nat) : Int) = V by omega)
  have HEC := Lib.hid (show n - 53 = -(s : Int) by omega)
  have cpos : c ≤ 0 := by omega
  have cneg : -300000 ≤ c := by omega
  have HCS := Lib.hid (show -c = (s : Int) by omega)
  clear hcs hV s0 s1
  go_enter Try.func98, Try.ntmps98
  go_wp2_with (first
    | (go_at_call 77; (with_reducible refine (HB.out).mono ?_); rintro e1 w1 ⟨rfl, rfl⟩)
    | (go_at_call 78; rw [HCS.out]; (with_reducible refine (HS.out).mono ?_); rintro e1 w1 ⟨a1, n1, c1, rfl, hv1, hb1⟩)
    | (go_at_call 102; refine (rlow_n hv1 bV).mono ?_; rintro e1 w2 ⟨rfl, rfl⟩))
  go_ret3
  refine ⟨ret_rnd HV.out ?_ ?_, hb1⟩
  · have := HEC.out; have := HCS.out; omega
  · have := HEC.out; have := HCS.out; exact decide_eq_decide.2 (by omega)
set_option maxRecDepth 100000 in
set_option maxHeartbeats 2000000 in
theorem rround24_Alo (a : Option Addr) (n0 c0 : Nat) (w : World) (n e : Int) (s V : Nat) (hn : 0 ≤ n ∧ n ≤ 32000) (he : -100000 ≤ e ∧ e ≤ 2100) (hcut : e + (n - 24) < (-149)) (c : Int) (ec : (-149) - e = c) (hcs : c = -(s : Int)) (hV : (V : Int) < 16777216)
    (HB : Hid (Calls Try.prog 77 #[.slice a n0 c0] w fun e w' => e = .returned (.int .i64 n) ∧ w = w'))
    (HS : Hid (Calls Try.prog 78 #[.slice a n0 c0, .int .i64 (s : Int)] w (OneOk w V))) (bV : bl V ≤ 64000) :
    Calls Try.prog 98 #[.slice a n0 c0, .int .i64 e, .int .i64 24, .int .i64 (-149), .int .i64 104] w fun x w' => x = .returned (.tuple #[.int .u64 (V : Int), .int .i64 (e - (s : Int)), .bool (decide (104 < e - (s : Int)))]) ∧ Below w.heap.size w w' := by
  have s0 : (0 : Int) ≤ s := Int.natCast_nonneg s
  have s1 : (s : Int) ≤ 300000 := by omega
  have HV := Lib.hid (show ((V % 18446744073709551616 : Nat) : Int) = V by omega)
  have HEC := Lib.hid (show (-149) - e = -(s : Int) by omega)
  have cpos : c ≤ 0 := by omega
  have cneg : -300000 ≤ c := by omega
  have HCS := Lib.hid (show -c = (s : Int) by omega)
  clear hcs hV s0 s1
  go_enter Try.func98, Try.ntmps98
  go_wp2_with (first
    | (go_at_call 77; (with_reducible refine (HB.out).mono ?_); rintro e1 w1 ⟨rfl, rfl⟩)
    | (go_at_call 78; rw [HCS.out]; (with_reducible refine (HS.out).mono ?_); rintro e1 w1 ⟨a1, n1, c1, rfl, hv1, hb1⟩)
    | (go_at_call 102; refine (rlow_n hv1 bV).mono ?_; rintro e1 w2 ⟨rfl, rfl⟩))
  go_ret3
  refine ⟨ret_rnd HV.out ?_ ?_, hb1⟩
  · have := HEC.out; have := HCS.out; omega
  · have := HEC.out; have := HCS.out; exact decide_eq_decide.2 (by omega)
set_option maxRecDepth 100000 in
set_option maxHeartbeats 2000000 in
theorem rround24_Ahi (a : Option Addr) (n0 c0 : Nat) (w : World) (n e : Int) (s V : Nat) (hn : 0 ≤ n ∧ n ≤ 32000) (he : -100000 ≤ e ∧ e ≤ 2100) (hcut : (-149) ≤ e + (n - 24)) (c : Int) (ec : n - 24 = c) (hcs : c = -(s : Int)) (hV : (V : Int) < 16777216)
    (HB : Hid (Calls Try.prog 77 #[.slice a n0 c0] w fun e w' => e = .returned (.int .i64 n) ∧ w = w'))
    (HS : Hid (Calls Try.prog 78 #[.slice a n0 c0, .int .i64 (s : Int)] w (OneOk w V))) (bV : bl V ≤ 64000) :
    Calls Try.prog 98 #[.slice a n0 c0, .int .i64 e, .int .i64 24, .int .i64 (-149), .int .i64 104] w fun x w' => x = .returned (.tuple #[.int .u64 (V : Int), .int .i64 (e - (s : Int)), .bool (decide (104 < e - (s : Int)))]) ∧ Below w.heap.size w w' := by
  have s0 : (0 : Int) ≤ s := Int.natCast_nonneg s
  have s1 : (s : Int) ≤ 300000 := by omega
  have HV := Lib.hid (show ((V % 18446744073709551616 : Nat) : Int) = V by omega)
  have HEC := Lib.hid (show n - 24 = -(s : Int) by omega)
  have cpos : c ≤ 0 := by omega
  have cneg : -300000 ≤ c := by omega
  have HCS := Lib.hid (show -c = (s : Int) by omega)
  clear hcs hV s0 s1
  go_enter Try.func98, Try.ntmps98
  go_wp2_with (first
    | (go_at_call 77; (with_reducible refine (HB.out).mono ?_); rintro e1 w1 ⟨rfl, rfl⟩)
    | (go_at_call 78; rw [HCS.out]; (with_reducible refine (HS.out).mono ?_); rintro e1 w1 ⟨a1, n1, c1, rfl, hv1, hb1⟩)
    | (go_at_call 102; refine (rlow_n hv1 bV).mono ?_; rintro e1 w2 ⟨rfl, rfl⟩))
  go_ret3
  refine ⟨ret_rnd HV.out ?_ ?_, hb1⟩
  · have := HEC.out; have := HCS.out; omega
  · have := HEC.out; have := HCS.out; exact decide_eq_decide.2 (by omega)
set_option maxRecDepth 100000 in
set_option maxHeartbeats 2000000 in
theorem rround53_Blo_gt0 (a : Option Addr) (n0 c0 : Nat) (w : World) (n e C t Kz : Int) (K Bk Rt Hf : Nat) (hn : 0 ≤ n ∧ n ≤ 32000) (he : -100000 ≤ e ∧ e ≤ 2100) (hcut : e + (n - 53) < (-1074)) (ec : (-1074) - e = C) (hC : 0 < C ∧ C ≤ 40000) (hK : 0 ≤ Kz ∧ Kz ≤ 9007199254740992) (ht : 0 < t) (hz : (Kz + 1 == 9007199254740992) = false)
    (HB : Hid (Calls Try.prog 77 #[.slice a n0 c0] w fun e w' => e = .returned (.int .i64 n) ∧ w = w'))
    (HS1 : Hid (Calls Try.prog 78 #[.slice a n0 c0, .int .i64 (-C)] w (OneOk w K)))
    (HS2 : Hid (∀ (w1 : World) (a1 : Option Addr) (n1 c1 : Nat), Nw w1 (.slice a1 n1 c1) K → Calls Try.prog 78 #[.slice a1 n1 c1, .int .i64 C] w1 (OneOk w1 Bk)))
    (HSub : Hid (∀ (w1 : World) (a1 : Option Addr) (n1 c1 : Nat), Below w.heap.size w w1 → Nw w1 (.slice a1 n1 c1) Bk → Calls Try.prog 87 #[.slice a n0 c0, .slice a1 n1 c1] w1 (OneOk w1 Rt)))
    (HOf : Hid (∀ w1, Calls Try.prog 83 #[.int .u64 1] w1 (One w1 1)))
    (HS3 : Hid (∀ (w1 : World) (a1 : Option Addr) (n1 c1 : Nat), Nw w1 (.slice a1 n1 c1) 1 → Calls Try.prog 78 #[.slice a1 n1 c1, .int .i64 (C - 1)] w1 (OneOk w1 Hf)))
    (HC : Hid (∀ (w1 : World) (a1 : Option Addr) (n1 c1 : Nat) (a2 : Option Addr) (n2 c2 : Nat), Nw w1 (.slice a1 n1 c1) Rt → Nw w1 (.slice a2 n2 c2) Hf → Calls Try.prog 81 #[.slice a1 n1 c1, .slice a2 n2 c2] w1 fun e w' => e = .returned (.int .i64 t) ∧ Below w1.heap.size w1 w'))
    (HL : Hid (∀ (w1 : World) (a1 : Option Addr) (n1 c1 : Nat), Nw w1 (.slice a1 n1 c1) K → Calls Try.prog 102 #[.slice a1 n1 c1] w1 fun e w' => e = .returned (.int .u64 Kz) ∧ w1 = w')) :
    Calls Try.prog 98 #[.slice a n0 c0, .int .i64 e, .int .i64 53, .int .i64 (-1074), .int .i64 971] w fun x w' => x = .returned (.tuple #[.int .u64 (Kz + 1), .int .i64 (e + C), .bool (decide (971 < e + C))]) ∧ Below w.heap.size w w' := by
  have HEC := Lib.hid ec
  go_enter Try.func98, Try.ntmps98
  go_wp2_with (first
    | (go_at_call 77; (with_reducible refine (HB.out).mono ?_); rintro e1 w1 ⟨rfl, rfl⟩)
    | (go_at_call 78; (with_reducible refine (HS1.out).mono ?_); rintro e1 w1 ⟨a1, n1, c1, rfl, hv1, hb1⟩)
    | (go_at_call 78; (with_reducible refine (HS2.out _ _ _ _ hv1).mono ?_); rintro e1 w2 ⟨a2, n2, c2, rfl, hv2, hb2⟩)
    | (go_at_call 87; (with_reducible refine (HSub.out _ _ _ _ (btn hb1 hb2) hv2).mono ?_); rintro e1 w3 ⟨a3, n3, c3, rfl, hv3, hb3⟩)
    | (go_at_call 83; (with_reducible refine (HOf.out _).mono ?_); rintro e1 w4 ⟨a4, n4, c4, rfl, hv4, hb4⟩)
    | (go_at_call 78; (with_reducible refine (HS3.out _ _ _ _ hv4).mono ?_); rintro e1 w5 ⟨a5, n5, c5, rfl, hv5, hb5⟩)
    | (go_at_call 81; (with_reducible refine (HC.out _ _ _ _ _ _ _ (hv3.below (btn hb4 hb5)) hv5).mono ?_); rintro e1 w6 ⟨rfl, hb6⟩)
    | (go_at_call 102; (with_reducible refine (HL.out _ _ _ _ (hv1.below (btn hb2 (btn hb3 (btn hb4 (btn hb5 hb6)))))).mono ?_); rintro e1 w7 ⟨rfl, rfl⟩))
  go_ret3
  refine ⟨ret_rnd ?_ ?_ ?_, btn hb1 (btn hb2 (btn hb3 (btn hb4 (btn hb5 hb6))))⟩
  · first | rfl | omega
  · have := HEC.out; omega
  · have := HEC.out; exact decide_eq_decide.2 (by omega)
set_option maxRecDepth 100000 in
set_option maxHeartbeats 2000000 in
theorem rround53_Blo_gt1 (a : Option Addr) (n0 c0 : Nat) (w : World) (n e C t Kz : Int) (K Bk Rt Hf : Nat) (hn : 0 ≤ n ∧ n ≤ 32000) (he : -100000 ≤ e ∧ e ≤ 2100) (hcut : e + (n - 53) < (-1074)) (ec : (-1074) - e = C) (hC : 0 < C ∧ C ≤ 40000) (hK : 0 ≤ Kz ∧ Kz ≤ 9007199254740992) (ht : 0 < t) (hz : (Kz + 1 == 9007199254740992) = true)
    (HB : Hid (Calls Try.prog 77 #[.slice a n0 c0] w fun e w' => e = .returned (.int .i64 n) ∧ w = w'))
    (HS1 : Hid (Calls Try.prog 78 #[.slice a n0 c0, .int .i64 (-C)] w (OneOk w K)))
    (HS2 : Hid (∀ (w1 : World) (a1 : Option Addr) (n1 c1 : Nat), Nw w1 (.slice a1 n1 c1) K → Calls Try.prog 78 #[.slice a1 n1 c1, .int .i64 C] w1 (OneOk w1 Bk)))
    (HSub : Hid (∀ (w1 : World) (a1 : Option Addr) (n1 c1 : Nat), Below w.heap.size w w1 → Nw w1 (.slice a1 n1 c1) Bk → Calls Try.prog 87 #[.slice a n0 c0, .slice a1 n1 c1] w1 (OneOk w1 Rt)))
    (HOf : Hid (∀ w1, Calls Try.prog 83 #[.int .u64 1] w1 (One w1 1)))
    (HS3 : Hid (∀ (w1 : World) (a1 : Option Addr) (n1 c1 : Nat), Nw w1 (.slice a1 n1 c1) 1 → Calls Try.prog 78 #[.slice a1 n1 c1, .int .i64 (C - 1)] w1 (OneOk w1 Hf)))
    (HC : Hid (∀ (w1 : World) (a1 : Option Addr) (n1 c1 : Nat) (a2 : Option Addr) (n2 c2 : Nat), Nw w1 (.slice a1 n1 c1) Rt → Nw w1 (.slice a2 n2 c2) Hf → Calls Try.prog 81 #[.slice a1 n1 c1, .slice a2 n2 c2] w1 fun e w' => e = .returned (.int .i64 t) ∧ Below w1.heap.size w1 w'))
    (HL : Hid (∀ (w1 : World) (a1 : Option Addr) (n1 c1 : Nat), Nw w1 (.slice a1 n1 c1) K → Calls Try.prog 102 #[.slice a1 n1 c1] w1 fun e w' => e = .returned (.int .u64 Kz) ∧ w1 = w')) :
    Calls Try.prog 98 #[.slice a n0 c0, .int .i64 e, .int .i64 53, .int .i64 (-1074), .int .i64 971] w fun x w' => x = .returned (.tuple #[.int .u64 ((Kz + 1) / 2), .int .i64 (e + C + 1), .bool (decide (971 < e + C + 1))]) ∧ Below w.heap.size w w' := by
  have HEC := Lib.hid ec
  go_enter Try.func98, Try.ntmps98
  go_wp2_with (first
    | (go_at_call 77; (with_reducible refine (HB.out).mono ?_); rintro e1 w1 ⟨rfl, rfl⟩)
    | (go_at_call 78; (with_reducible refine (HS1.out).mono ?_); rintro e1 w1 ⟨a1, n1, c1, rfl, hv1, hb1⟩)
    | (go_at_call 78; (with_reducible refine (HS2.out _ _ _ _ hv1).mono ?_); rintro e1 w2 ⟨a2, n2, c2, rfl, hv2, hb2⟩)
    | (go_at_call 87; (with_reducible refine (HSub.out _ _ _ _ (btn hb1 hb2) hv2).mono ?_); rintro e1 w3 ⟨a3, n3, c3, rfl, hv3, hb3⟩)
    | (go_at_call 83; (with_reducible refine (HOf.out _).mono ?_); rintro e1 w4 ⟨a4, n4, c4, rfl, hv4, hb4⟩)
    | (go_at_call 78; (with_reducible refine (HS3.out _ _ _ _ hv4).mono ?_); rintro e1 w5 ⟨a5, n5, c5, rfl, hv5, hb5⟩)
    | (go_at_call 81; (with_reducible refine (HC.out _ _ _ _ _ _ _ (hv3.below (btn hb4 hb5)) hv5).mono ?_); rintro e1 w6 ⟨rfl, hb6⟩)
    | (go_at_call 102; (with_reducible refine (HL.out _ _ _ _ (hv1.below (btn hb2 (btn hb3 (btn hb4 (btn hb5 hb6)))))).mono ?_); rintro e1 w7 ⟨rfl, rfl⟩))
  go_ret3
  refine ⟨ret_rnd ?_ ?_ ?_, btn hb1 (btn hb2 (btn hb3 (btn hb4 (btn hb5 hb6))))⟩
  · first | rfl | omega
  · have := HEC.out; omega
  · have := HEC.out; exact decide_eq_decide.2 (by omega)
set_option maxRecDepth 100000 in
set_option maxHeartbeats 2000000 in
theorem rround53_Blo_odd0 (a : Option Addr) (n0 c0 : Nat) (w : World) (n e C t Kz : Int) (K Bk Rt Hf : Nat) (hn : 0 ≤ n ∧ n ≤ 32000) (he : -100000 ≤ e ∧ e ≤ 2100) (hcut : e + (n - 53) < (-1074)) (ec : (-1074) - e = C) (hC : 0 < C ∧ C ≤ 40000) (hK : 0 ≤ Kz ∧ Kz ≤ 9007199254740992) (ht : t = 0) (ho : (bits .and .u64 Kz 1 == 1) = true) (hz : (Kz + 1 == 9007199254740992) = false)
    (HB : Hid (Calls Try.prog 77 #[.slice a n0 c0] w fun e w' => e = .returned (.int .i64 n) ∧ w = w'))
    (HS1 : Hid (Calls Try.prog 78 #[.slice a n0 c0, .int .i64 (-C)] w (OneOk w K)))
    (HS2 : Hid (∀ (w1 : World) (a1 : Option Addr) (n1 c1 : Nat), Nw w1 (.slice a1 n1 c1) K → Calls Try.prog 78 #[.slice a1 n1 c1, .int .i64 C] w1 (OneOk w1 Bk)))
    (HSub : Hid (∀ (w1 : World) (a1 : Option Addr) (n1 c1 : Nat), Below w.heap.size w w1 → Nw w1 (.slice a1 n1 c1) Bk → Calls Try.prog 87 #[.slice a n0 c0, .slice a1 n1 c1] w1 (OneOk w1 Rt)))
    (HOf : Hid (∀ w1, Calls Try.prog 83 #[.int .u64 1] w1 (One w1 1)))
    (HS3 : Hid (∀ (w1 : World) (a1 : Option Addr) (n1 c1 : Nat), Nw w1 (.slice a1 n1 c1) 1 → Calls Try.prog 78 #[.slice a1 n1 c1, .int .i64 (C - 1)] w1 (OneOk w1 Hf)))
    (HC : Hid (∀ (w1 : World) (a1 : Option Addr) (n1 c1 : Nat) (a2 : Option Addr) (n2 c2 : Nat), Nw w1 (.slice a1 n1 c1) Rt → Nw w1 (.slice a2 n2 c2) Hf → Calls Try.prog 81 #[.slice a1 n1 c1, .slice a2 n2 c2] w1 fun e w' => e = .returned (.int .i64 t) ∧ Below w1.heap.size w1 w'))
    (HL : Hid (∀ (w1 : World) (a1 : Option Addr) (n1 c1 : Nat), Nw w1 (.slice a1 n1 c1) K → Calls Try.prog 102 #[.slice a1 n1 c1] w1 fun e w' => e = .returned (.int .u64 Kz) ∧ w1 = w')) :
    Calls Try.prog 98 #[.slice a n0 c0, .int .i64 e, .int .i64 53, .int .i64 (-1074), .int .i64 971] w fun x w' => x = .returned (.tuple #[.int .u64 (Kz + 1), .int .i64 (e + C), .bool (decide (971 < e + C))]) ∧ Below w.heap.size w w' := by
  have HEC := Lib.hid ec
  go_enter Try.func98, Try.ntmps98
  go_wp2_with (first
    | (go_at_call 77; (with_reducible refine (HB.out).mono ?_); rintro e1 w1 ⟨rfl, rfl⟩)
    | (go_at_call 78; (with_reducible refine (HS1.out).mono ?_); rintro e1 w1 ⟨a1, n1, c1, rfl, hv1, hb1⟩)
    | (go_at_call 78; (with_reducible refine (HS2.out _ _ _ _ hv1).mono ?_); rintro e1 w2 ⟨a2, n2, c2, rfl, hv2, hb2⟩)
    | (go_at_call 87; (with_reducible refine (HSub.out _ _ _ _ (btn hb1 hb2) hv2).mono ?_); rintro e1 w3 ⟨a3, n3, c3, rfl, hv3, hb3⟩)
    | (go_at_call 83; (with_reducible refine (HOf.out _).mono ?_); rintro e1 w4 ⟨a4, n4, c4, rfl, hv4, hb4⟩)
    | (go_at_call 78; (with_reducible refine (HS3.out _ _ _ _ hv4).mono ?_); rintro e1 w5 ⟨a5, n5, c5, rfl, hv5, hb5⟩)
    | (go_at_call 81; (with_reducible refine (HC.out _ _ _ _ _ _ _ (hv3.below (btn hb4 hb5)) hv5).mono ?_); rintro e1 w6 ⟨rfl, hb6⟩)
    | (go_at_call 102; (with_reducible refine (HL.out _ _ _ _ (hv1.below (btn hb2 (btn hb3 (btn hb4 (btn hb5 hb6)))))).mono ?_); rintro e1 w7 ⟨rfl, rfl⟩))
  go_ret3
  refine ⟨ret_rnd ?_ ?_ ?_, btn hb1 (btn hb2 (btn hb3 (btn hb4 (btn hb5 hb6))))⟩
  · first | rfl | omega
  · have := HEC.out; omega
  · have := HEC.out; exact decide_eq_decide.2 (by omega)
set_option maxRecDepth 100000 in
set_option maxHeartbeats 2000000 in
theorem rround53_Blo_odd1 (a : Option Addr) (n0 c0 : Nat) (w : World) (n e C t Kz : Int) (K Bk Rt Hf : Nat) (hn : 0 ≤ n ∧ n ≤ 32000) (he : -100000 ≤ e ∧ e ≤ 2100) (hcut : e + (n - 53) < (-1074)) (ec : (-1074) - e = C) (hC : 0 < C ∧ C ≤ 40000) (hK : 0 ≤ Kz ∧ Kz ≤ 9007199254740992) (ht : t = 0) (ho : (bits .and .u64 Kz 1 == 1) = true) (hz : (Kz + 1 == 9007199254740992) = true)
    (HB : Hid (Calls Try.prog 77 #[.slice a n0 c0] w fun e w' => e = .returned (.int .i64 n) ∧ w = w'))
    (HS1 : Hid (Calls Try.prog 78 #[.slice a n0 c0, .int .i64 (-C)] w (OneOk w K)))
    (HS2 : Hid (∀ (w1 : World) (a1 : Option Addr) (n1 c1 : Nat), Nw w1 (.slice a1 n1 c1) K → Calls Try.prog 78 #[.slice a1 n1 c1, .int .i64 C] w1 (OneOk w1 Bk)))
    (HSub : Hid (∀ (w1 : World) (a1 : Option Addr) (n1 c1 : Nat), Below w.heap.size w w1 → Nw w1 (.slice a1 n1 c1) Bk → Calls Try.prog 87 #[.slice a n0 c0, .slice a1 n1 c1] w1 (OneOk w1 Rt)))
    (HOf : Hid (∀ w1, Calls Try.prog 83 #[.int .u64 1] w1 (One w1 1)))
    (HS3 : Hid (∀ (w1 : World) (a1 : Option Addr) (n1 c1 : Nat), Nw w1 (.slice a1 n1 c1) 1 → Calls Try.prog 78 #[.slice a1 n1 c1, .int .i64 (C - 1)] w1 (OneOk w1 Hf)))
    (HC : Hid (∀ (w1 : World) (a1 : Option Addr) (n1 c1 : Nat) (a2 : Option Addr) (n2 c2 : Nat), Nw w1 (.slice a1 n1 c1) Rt → Nw w1 (.slice a2 n2 c2) Hf → Calls Try.prog 81 #[.slice a1 n1 c1, .slice a2 n2 c2] w1 fun e w' => e = .returned (.int .i64 t) ∧ Below w1.heap.size w1 w'))
    (HL : Hid (∀ (w1 : World) (a1 : Option Addr) (n1 c1 : Nat), Nw w1 (.slice a1 n1 c1) K → Calls Try.prog 102 #[.slice a1 n1 c1] w1 fun e w' => e = .returned (.int .u64 Kz) ∧ w1 = w')) :
    Calls Try.prog 98 #[.slice a n0 c0, .int .i64 e, .int .i64 53, .int .i64 (-1074), .int .i64 971] w fun x w' => x = .returned (.tuple #[.int .u64 ((Kz + 1) / 2), .int .i64 (e + C + 1), .bool (decide (971 < e + C + 1))]) ∧ Below w.heap.size w w' := by
  have HEC := Lib.hid ec
  go_enter Try.func98, Try.ntmps98
  go_wp2_with (first
    | (go_at_call 77; (with_reducible refine (HB.out).mono ?_); rintro e1 w1 ⟨rfl, rfl⟩)
    | (go_at_call 78; (with_reducible refine (HS1.out).mono ?_); rintro e1 w1 ⟨a1, n1, c1, rfl, hv1, hb1⟩)
    | (go_at_call 78; (with_reducible refine (HS2.out _ _ _ _ hv1).mono ?_); rintro e1 w2 ⟨a2, n2, c2, rfl, hv2, hb2⟩)
    | (go_at_call 87; (with_reducible refine (HSub.out _ _ _ _ (btn hb1 hb2) hv2).mono ?_); rintro e1 w3 ⟨a3, n3, c3, rfl, hv3, hb3⟩)
    | (go_at_call 83; (with_reducible refine (HOf.out _).mono ?_); rintro e1 w4 ⟨a4, n4, c4, rfl, hv4, hb4⟩)
    | (go_at_call 78; (with_reducible refine (HS3.out _ _ _ _ hv4).mono ?_); rintro e1 w5 ⟨a5, n5, c5, rfl, hv5, hb5⟩)
    | (go_at_call 81; (with_reducible refine (HC.out _ _ _ _ _ _ _ (hv3.below (btn hb4 hb5)) hv5).mono ?_); rintro e1 w6 ⟨rfl, hb6⟩)
    | (go_at_call 102; (with_reducible refine (HL.out _ _ _ _ (hv1.below (btn hb2 (btn hb3 (btn hb4 (btn hb5 hb6)))))).mono ?_); rintro e1 w7 ⟨rfl, rfl⟩))
  go_ret3
  refine ⟨ret_rnd ?_ ?_ ?_, btn hb1 (btn hb2 (btn hb3 (btn hb4 (btn hb5 hb6))))⟩
  · first | rfl | omega
  · have := HEC.out; omega
  · have := HEC.out; exact decide_eq_decide.2 (by omega)
set_option maxRecDepth 100000 in
set_option maxHeartbeats 2000000 in
theorem rround53_Blo_even0 (a : Option Addr) (n0 c0 : Nat) (w : World) (n e C t Kz : Int) (K Bk Rt Hf : Nat) (hn : 0 ≤ n ∧ n ≤ 32000) (he : -100000 ≤ e ∧ e ≤ 2100) (hcut : e + (n - 53) < (-1074)) (ec : (-1074) - e = C) (hC : 0 < C ∧ C ≤ 40000) (hK : 0 ≤ Kz ∧ Kz ≤ 9007199254740992) (ht : t = 0) (ho : (bits .and .u64 Kz 1 == 1) = false) (hz : (Kz == 9007199254740992) = false)
    (HB : Hid (Calls Try.prog 77 #[.slice a n0 c0] w fun e w' => e = .returned (.int .i64 n) ∧ w = w'))
    (HS1 : Hid (Calls Try.prog 78 #[.slice a n0 c0, .int .i64 (-C)] w (OneOk w K)))
    (HS2 : Hid (∀ (w1 : World) (a1 : Option Addr) (n1 c1 : Nat), Nw w1 (.slice a1 n1 c1) K → Calls Try.prog 78 #[.slice a1 n1 c1, .int .i64 C] w1 (OneOk w1 Bk)))
    (HSub : Hid (∀ (w1 : World) (a1 : Option Addr) (n1 c1 : Nat), Below w.heap.size w w1 → Nw w1 (.slice a1 n1 c1) Bk → Calls Try.prog 87 #[.slice a n0 c0, .slice a1 n1 c1] w1 (OneOk w1 Rt)))
    (HOf : Hid (∀ w1, Calls Try.prog 83 #[.int .u64 1] w1 (One w1 1)))
    (HS3 : Hid (∀ (w1 : World) (a1 : Option Addr) (n1 c1 : Nat), Nw w1 (.slice a1 n1 c1) 1 → Calls Try.prog 78 #[.slice a1 n1 c1, .int .i64 (C - 1)] w1 (OneOk w1 Hf)))
    (HC : Hid (∀ (w1 : World) (a1 : Option Addr) (n1 c1 : Nat) (a2 : Option Addr) (n2 c2 : Nat), Nw w1 (.slice a1 n1 c1) Rt → Nw w1 (.slice a2 n2 c2) Hf → Calls Try.prog 81 #[.slice a1 n1 c1, .slice a2 n2 c2] w1 fun e w' => e = .returned (.int .i64 t) ∧ Below w1.heap.size w1 w'))
    (HL : Hid (∀ (w1 : World) (a1 : Option Addr) (n1 c1 : Nat), Nw w1 (.slice a1 n1 c1) K → Calls Try.prog 102 #[.slice a1 n1 c1] w1 fun e w' => e = .returned (.int .u64 Kz) ∧ w1 = w')) :
    Calls Try.prog 98 #[.slice a n0 c0, .int .i64 e, .int .i64 53, .int .i64 (-1074), .int .i64 971] w fun x w' => x = .returned (.tuple #[.int .u64 (Kz), .int .i64 (e + C), .bool (decide (971 < e + C))]) ∧ Below w.heap.size w w' := by
  have HEC := Lib.hid ec
  go_enter Try.func98, Try.ntmps98
  go_wp2_with (first
    | (go_at_call 77; (with_reducible refine (HB.out).mono ?_); rintro e1 w1 ⟨rfl, rfl⟩)
    | (go_at_call 78; (with_reducible refine (HS1.out).mono ?_); rintro e1 w1 ⟨a1, n1, c1, rfl, hv1, hb1⟩)
    | (go_at_call 78; (with_reducible refine (HS2.out _ _ _ _ hv1).mono ?_); rintro e1 w2 ⟨a2, n2, c2, rfl, hv2, hb2⟩)
    | (go_at_call 87; (with_reducible refine (HSub.out _ _ _ _ (btn hb1 hb2) hv2).mono ?_); rintro e1 w3 ⟨a3, n3, c3, rfl, hv3, hb3⟩)
    | (go_at_call 83; (with_reducible refine (HOf.out _).mono ?_); rintro e1 w4 ⟨a4, n4, c4, rfl, hv4, hb4⟩)
    | (go_at_call 78; (with_reducible refine (HS3.out _ _ _ _ hv4).mono ?_); rintro e1 w5 ⟨a5, n5, c5, rfl, hv5, hb5⟩)
    | (go_at_call 81; (with_reducible refine (HC.out _ _ _ _ _ _ _ (hv3.below (btn hb4 hb5)) hv5).mono ?_); rintro e1 w6 ⟨rfl, hb6⟩)
    | (go_at_call 102; (with_reducible refine (HL.out _ _ _ _ (hv1.below (btn hb2 (btn hb3 (btn hb4 (btn hb5 hb6)))))).mono ?_); rintro e1 w7 ⟨rfl, rfl⟩))
  go_ret3
  refine ⟨ret_rnd ?_ ?_ ?_, btn hb1 (btn hb2 (btn hb3 (btn hb4 (btn hb5 hb6))))⟩
  · first | rfl | omega
  · have := HEC.out; omega
  · have := HEC.out; exact decide_eq_decide.2 (by omega)
set_option maxRecDepth 100000 in
set_option maxHeartbeats 2000000 in
theorem rround53_Blo_even1 (a : Option Addr) (n0 c0 : Nat) (w : World) (n e C t Kz : Int) (K Bk Rt Hf : Nat) (hn : 0 ≤ n ∧ n ≤ 32000) (he : -100000 ≤ e ∧ e ≤ 2100) (hcut : e + (n - 53) < (-1074)) (ec : (-1074) - e = C) (hC : 0 < C ∧ C ≤ 40000) (hK : 0 ≤ Kz ∧ Kz ≤ 9007199254740992) (ht : t = 0) (ho : (bits .and .u64 Kz 1 == 1) = false) (hz : (Kz == 9007199254740992) = true)
    (HB : Hid (Calls Try.prog 77 #[.slice a n0 c0] w fun e w' => e = .returned (.int .i64 n) ∧ w = w'))
    (HS1 : Hid (Calls Try.prog 78 #[.slice a n0 c0, .int .i64 (-C)] w (OneOk w K)))
    (HS2 : Hid (∀ (w1 : World) (a1 : Option Addr) (n1 c1 : Nat), Nw w1 (.slice a1 n1 c1) K → Calls Try.prog 78 #[.slice a1 n1 c1, .int .i64 C] w1 (OneOk w1 Bk)))
    (HSub : Hid (∀ (w1 : World) (a1 : Option Addr) (n1 c1 : Nat), Below w.heap.size w w1 → Nw w1 (.slice a1 n1 c1) Bk → Calls Try.prog 87 #[.slice a n0 c0, .slice a1 n1 c1] w1 (OneOk w1 Rt)))
    (HOf : Hid (∀ w1, Calls Try.prog 83 #[.int .u64 1] w1 (One w1 1)))
    (HS3 : Hid (∀ (w1 : World) (a1 : Option Addr) (n1 c1 : Nat), Nw w1 (.slice a1 n1 c1) 1 → Calls Try.prog 78 #[.slice a1 n1 c1, .int .i64 (C - 1)] w1 (OneOk w1 Hf)))
    (HC : Hid (∀ (w1 : World) (a1 : Option Addr) (n1 c1 : Nat) (a2 : Option Addr) (n2 c2 : Nat), Nw w1 (.slice a1 n1 c1) Rt → Nw w1 (.slice a2 n2 c2) Hf → Calls Try.prog 81 #[.slice a1 n1 c1, .slice a2 n2 c2] w1 fun e w' => e = .returned (.int .i64 t) ∧ Below w1.heap.size w1 w'))
    (HL : Hid (∀ (w1 : World) (a1 : Option Addr) (n1 c1 : Nat), Nw w1 (.slice a1 n1 c1) K → Calls Try.prog 102 #[.slice a1 n1 c1] w1 fun e w' => e = .returned (.int .u64 Kz) ∧ w1 = w')) :
    Calls Try.prog 98 #[.slice a n0 c0, .int .i64 e, .int .i64 53, .int .i64 (-1074), .int .i64 971] w fun x w' => x = .returned (.tuple #[.int .u64 ((Kz) / 2), .int .i64 (e + C + 1), .bool (decide (971 < e + C + 1))]) ∧ Below w.heap.size w w' := by
  have HEC := Lib.hid ec
  go_enter Try.func98, Try.ntmps98
  go_wp2_with (first
    | (go_at_call 77; (with_reducible refine (HB.out).mono ?_); rintro e1 w1 ⟨rfl, rfl⟩)
    | (go_at_call 78; (with_reducible refine (HS1.out).mono ?_); rintro e1 w1 ⟨a1, n1, c1, rfl, hv1, hb1⟩)
    | (go_at_call 78; (with_reducible refine (HS2.out _ _ _ _ hv1).mono ?_); rintro e1 w2 ⟨a2, n2, c2, rfl, hv2, hb2⟩)
    | (go_at_call 87; (with_reducible refine (HSub.out _ _ _ _ (btn hb1 hb2) hv2).mono ?_); rintro e1 w3 ⟨a3, n3, c3, rfl, hv3, hb3⟩)
    | (go_at_call 83; (with_reducible refine (HOf.out _).mono ?_); rintro e1 w4 ⟨a4, n4, c4, rfl, hv4, hb4⟩)
    | (go_at_call 78; (with_reducible refine (HS3.out _ _ _ _ hv4).mono ?_); rintro e1 w5 ⟨a5, n5, c5, rfl, hv5, hb5⟩)
    | (go_at_call 81; (with_reducible refine (HC.out _ _ _ _ _ _ _ (hv3.below (btn hb4 hb5)) hv5).mono ?_); rintro e1 w6 ⟨rfl, hb6⟩)
    | (go_at_call 102; (with_reducible refine (HL.out _ _ _ _ (hv1.below (btn hb2 (btn hb3 (btn hb4 (btn hb5 hb6)))))).mono ?_); rintro e1 w7 ⟨rfl, rfl⟩))
  go_ret3
  refine ⟨ret_rnd ?_ ?_ ?_, btn hb1 (btn hb2 (btn hb3 (btn hb4 (btn hb5 hb6))))⟩
  · first | rfl | omega
  · have := HEC.out; omega
  · have := HEC.out; exact decide_eq_decide.2 (by omega)
set_option maxRecDepth 100000 in
set_option maxHeartbeats 2000000 in
theorem rround53_Blo_lt0 (a : Option Addr) (n0 c0 : Nat) (w : World) (n e C t Kz : Int) (K Bk Rt Hf : Nat) (hn : 0 ≤ n ∧ n ≤ 32000) (he : -100000 ≤ e ∧ e ≤ 2100) (hcut : e + (n - 53) < (-1074)) (ec : (-1074) - e = C) (hC : 0 < C ∧ C ≤ 40000) (hK : 0 ≤ Kz ∧ Kz ≤ 9007199254740992) (ht : t < 0) (hz : (Kz == 9007199254740992) = false)
    (HB : Hid (Calls Try.prog 77 #[.slice a n0 c0] w fun e w' => e = .returned (.int .i64 n) ∧ w = w'))
    (HS1 : Hid (Calls Try.prog 78 #[.slice a n0 c0, .int .i64 (-C)] w (OneOk w K)))
    (HS2 : Hid (∀ (w1 : World) (a1 : Option Addr) (n1 c1 : Nat), Nw w1 (.slice a1 n1 c1) K → Calls Try.prog 78 #[.slice a1 n1 c1, .int .i64 C] w1 (OneOk w1 Bk)))
    (HSub : Hid (∀ (w1 : World) (a1 : Option Addr) (n1 c1 : Nat), Below w.heap.size w w1 → Nw w1 (.slice a1 n1 c1) Bk → Calls Try.prog 87 #[.slice a n0 c0, .slice a1 n1 c1] w1 (OneOk w1 Rt)))
    (HOf : Hid (∀ w1, Calls Try.prog 83 #[.int .u64 1] w1 (One w1 1)))
    (HS3 : Hid (∀ (w1 : World) (a1 : Option Addr) (n1 c1 : Nat), Nw w1 (.slice a1 n1 c1) 1 → Calls Try.prog 78 #[.slice a1 n1 c1, .int .i64 (C - 1)] w1 (OneOk w1 Hf)))
    (HC : Hid (∀ (w1 : World) (a1 : Option Addr) (n1 c1 : Nat) (a2 : Option Addr) (n2 c2 : Nat), Nw w1 (.slice a1 n1 c1) Rt → Nw w1 (.slice a2 n2 c2) Hf → Calls Try.prog 81 #[.slice a1 n1 c1, .slice a2 n2 c2] w1 fun e w' => e = .returned (.int .i64 t) ∧ Below w1.heap.size w1 w'))
    (HL : Hid (∀ (w1 : World) (a1 : Option Addr) (n1 c1 : Nat), Nw w1 (.slice a1 n1 c1) K → Calls Try.prog 102 #[.slice a1 n1 c1] w1 fun e w' => e = .returned (.int .u64 Kz) ∧ w1 = w')) :
    Calls Try.prog 98 #[.slice a n0 c0, .int .i64 e, .int .i64 53, .int .i64 (-1074), .int .i64 971] w fun x w' => x = .returned (.tuple #[.int .u64 (Kz), .int .i64 (e + C), .bool (decide (971 < e + C))]) ∧ Below w.heap.size w w' := by
  have HEC := Lib.hid ec
  go_enter Try.func98, Try.ntmps98
  go_wp2_with (first
    | (go_at_call 77; (with_reducible refine (HB.out).mono ?_); rintro e1 w1 ⟨rfl, rfl⟩)
    | (go_at_call 78; (with_reducible refine (HS1.out).mono ?_); rintro e1 w1 ⟨a1, n1, c1, rfl, hv1, hb1⟩)
    | (go_at_call 78; (with_reducible refine (HS2.out _ _ _ _ hv1).mono ?_); rintro e1 w2 ⟨a2, n2, c2, rfl, hv2, hb2⟩)
    | (go_at_call 87; (with_reducible refine (HSub.out _ _ _ _ (btn hb1 hb2) hv2).mono ?_); rintro e1 w3 ⟨a3, n3, c3, rfl, hv3, hb3⟩)
    | (go_at_call 83; (with_reducible refine (HOf.out _).mono ?_); rintro e1 w4 ⟨a4, n4, c4, rfl, hv4, hb4⟩)
    | (go_at_call 78; (with_reducible refine (HS3.out _ _ _ _ hv4).mono ?_); rintro e1 w5 ⟨a5, n5, c5, rfl, hv5, hb5⟩)
    | (go_at_call 81; (with_reducible refine (HC.out _ _ _ _ _ _ _ (hv3.below (btn hb4 hb5)) hv5).mono ?_); rintro e1 w6 ⟨rfl, hb6⟩)
    | (go_at_call 102; (with_reducible refine (HL.out _ _ _ _ (hv1.below (btn hb2 (btn hb3 (btn hb4 (btn hb5 hb6)))))).mono ?_); rintro e1 w7 ⟨rfl, rfl⟩))
  go_ret3
  refine ⟨ret_rnd ?_ ?_ ?_, btn hb1 (btn hb2 (btn hb3 (btn hb4 (btn hb5 hb6))))⟩
  · first | rfl | omega
  · have := HEC.out; omega
  · have := HEC.out; exact decide_eq_decide.2 (by omega)
set_option maxRecDepth 100000 in
set_option maxHeartbeats 2000000 in
theorem rround53_Blo_lt1 (a : Option Addr) (n0 c0 : Nat) (w : World) (n e C t Kz : Int) (K Bk Rt Hf : Nat) (hn : 0 ≤ n ∧ n ≤ 32000) (he : -100000 ≤ e ∧ e ≤ 2100) (hcut : e + (n - 53) < (-1074)) (ec : (-1074) - e = C) (hC : 0 < C ∧ C ≤ 40000) (hK : 0 ≤ Kz ∧ Kz ≤ 9007199254740992) (ht : t < 0) (hz : (Kz == 9007199254740992) = true)
    (HB : Hid (Calls Try.prog 77 #[.slice a n0 c0] w fun e w' => e = .returned (.int .i64 n) ∧ w = w'))
    (HS1 : Hid (Calls Try.prog 78 #[.slice a n0 c0, .int .i64 (-C)] w (OneOk w K)))
    (HS2 : Hid (∀ (w1 : World) (a1 : Option Addr) (n1 c1 : Nat), Nw w1 (.slice a1 n1 c1) K → Calls Try.prog 78 #[.slice a1 n1 c1, .int .i64 C] w1 (OneOk w1 Bk)))
    (HSub : Hid (∀ (w1 : World) (a1 : Option Addr) (n1 c1 : Nat), Below w.heap.size w w1 → Nw w1 (.slice a1 n1 c1) Bk → Calls Try.prog 87 #[.slice a n0 c0, .slice a1 n1 c1] w1 (OneOk w1 Rt)))
    (HOf : Hid (∀ w1, Calls Try.prog 83 #[.int .u64 1] w1 (One w1 1)))
    (HS3 : Hid (∀ (w1 : World) (a1 : Option Addr) (n1 c1 : Nat), Nw w1 (.slice a1 n1 c1) 1 → Calls Try.prog 78 #[.slice a1 n1 c1, .int .i64 (C - 1)] w1 (OneOk w1 Hf)))
    (HC : Hid (∀ (w1 : World) (a1 : Option Addr) (n1 c1 : Nat) (a2 : Option Addr) (n2 c2 : Nat), Nw w1 (.slice a1 n1 c1) Rt → Nw w1 (.slice a2 n2 c2) Hf → Calls Try.prog 81 #[.slice a1 n1 c1, .slice a2 n2 c2] w1 fun e w' => e = .returned (.int .i64 t) ∧ Below w1.heap.size w1 w'))
    (HL : Hid (∀ (w1 : World) (a1 : Option Addr) (n1 c1 : Nat), Nw w1 (.slice a1 n1 c1) K → Calls Try.prog 102 #[.slice a1 n1 c1] w1 fun e w' => e = .returned (.int .u64 Kz) ∧ w1 = w')) :
    Calls Try.prog 98 #[.slice a n0 c0, .int .i64 e, .int .i64 53, .int .i64 (-1074), .int .i64 971] w fun x w' => x = .returned (.tuple #[.int .u64 ((Kz) / 2), .int .i64 (e + C + 1), .bool (decide (971 < e + C + 1))]) ∧ Below w.heap.size w w' := by
  have HEC := Lib.hid ec
  go_enter Try.func98, Try.ntmps98
  go_wp2_with (first
    | (go_at_call 77; (with_reducible refine (HB.out).mono ?_); rintro e1 w1 ⟨rfl, rfl⟩)
    | (go_at_call 78; (with_reducible refine (HS1.out).mono ?_); rintro e1 w1 ⟨a1, n1, c1, rfl, hv1, hb1⟩)
    | (go_at_call 78; (with_reducible refine (HS2.out _ _ _ _ hv1).mono ?_); rintro e1 w2 ⟨a2, n2, c2, rfl, hv2, hb2⟩)
    | (go_at_call 87; (with_reducible refine (HSub.out _ _ _ _ (btn hb1 hb2) hv2).mono ?_); rintro e1 w3 ⟨a3, n3, c3, rfl, hv3, hb3⟩)
    | (go_at_call 83; (with_reducible refine (HOf.out _).mono ?_); rintro e1 w4 ⟨a4, n4, c4, rfl, hv4, hb4⟩)
    | (go_at_call 78; (with_reducible refine (HS3.out _ _ _ _ hv4).mono ?_); rintro e1 w5 ⟨a5, n5, c5, rfl, hv5, hb5⟩)
    | (go_at_call 81; (with_reducible refine (HC.out _ _ _ _ _ _ _ (hv3.below (btn hb4 hb5)) hv5).mono ?_); rintro e1 w6 ⟨rfl, hb6⟩)
    | (go_at_call 102; (with_reducible refine (HL.out _ _ _ _ (hv1.below (btn hb2 (btn hb3 (btn hb4 (btn hb5 hb6)))))).mono ?_); rintro e1 w7 ⟨rfl, rfl⟩))
  go_ret3
  refine ⟨ret_rnd ?_ ?_ ?_, btn hb1 (btn hb2 (btn hb3 (btn hb4 (btn hb5 hb6))))⟩
  · first | rfl | omega
  · have := HEC.out; omega
  · have := HEC.out; exact decide_eq_decide.2 (by omega)
set_option maxRecDepth 100000 in
set_option maxHeartbeats 2000000 in
theorem rround53_Bhi_gt0 (a : Option Addr) (n0 c0 : Nat) (w : World) (n e C t Kz : Int) (K Bk Rt Hf : Nat) (hn : 0 ≤ n ∧ n ≤ 32000) (he : -100000 ≤ e ∧ e ≤ 2100) (hcut : (-1074) ≤ e + (n - 53)) (ec : n - 53 = C) (hC : 0 < C ∧ C ≤ 40000) (hK : 0 ≤ Kz ∧ Kz ≤ 9007199254740992) (ht : 0 < t) (hz : (Kz + 1 == 9007199254740992) = false)
    (HB : Hid (Calls Try.prog 77 #[.slice a n0 c0] w fun e w' => e = .returned (.int .i64 n) ∧ w = w'))
    (HS1 : Hid (Calls Try.prog 78 #[.slice a n0 c0, .int .i64 (-C)] w (OneOk w K)))
    (HS2 : Hid (∀ (w1 : World) (a1 : Option Addr) (n1 c1 : Nat), Nw w1 (.slice a1 n1 c1) K → Calls Try.prog 78 #[.slice a1 n1 c1, .int .i64 C] w1 (OneOk w1 Bk)))
    (HSub : Hid (∀ (w1 : World) (a1 : Option Addr) (n1 c1 : Nat), Below w.heap.size w w1 → Nw w1 (.slice a1 n1 c1) Bk → Calls Try.prog 87 #[.slice a n0 c0, .slice a1 n1 c1] w1 (OneOk w1 Rt)))
    (HOf : Hid (∀ w1, Calls Try.prog 83 #[.int .u64 1] w1 (One w1 1)))
    (HS3 : Hid (∀ (w1 : World) (a1 : Option Addr) (n1 c1 : Nat), Nw w1 (.slice a1 n1 c1) 1 → Calls Try.prog 78 #[.slice a1 n1 c1, .int .i64 (C - 1)] w1 (OneOk w1 Hf)))
    (HC : Hid (∀ (w1 : World) (a1 : Option Addr) (n1 c1 : Nat) (a2 : Option Addr) (n2 c2 : Nat), Nw w1 (.slice a1 n1 c1) Rt → Nw w1 (.slice a2 n2 c2) Hf → Calls Try.prog 81 #[.slice a1 n1 c1, .slice a2 n2 c2] w1 fun e w' => e = .returned (.int .i64 t) ∧ Below w1.heap.size w1 w'))
    (HL : Hid (∀ (w1 : World) (a1 : Option Addr) (n1 c1 : Nat), Nw w1 (.slice a1 n1 c1) K → Calls Try.prog 102 #[.slice a1 n1 c1] w1 fun e w' => e = .returned (.int .u64 Kz) ∧ w1 = w')) :
    Calls Try.prog 98 #[.slice a n0 c0, .int .i64 e, .int .i64 53, .int .i64 (-1074), .int .i64 971] w fun x w' => x = .returned (.tuple #[.int .u64 (Kz + 1), .int .i64 (e + C), .bool (decide (971 < e + C))]) ∧ Below w.heap.size w w' := by
  have HEC := Lib.hid ec
  go_enter Try.func98, Try.ntmps98
  go_wp2_with (first
    | (go_at_call 77; (with_reducible refine (HB.out).mono ?_); rintro e1 w1 ⟨rfl, rfl⟩)
    | (go_at_call 78; (with_reducible refine (HS1.out).mono ?_); rintro e1 w1 ⟨a1, n1, c1, rfl, hv1, hb1⟩)
    | (go_at_call 78; (with_reducible refine (HS2.out _ _ _ _ hv1).mono ?_); rintro e1 w2 ⟨a2, n2, c2, rfl, hv2, hb2⟩)
    | (go_at_call 87; (with_reducible refine (HSub.out _ _ _ _ (btn hb1 hb2) hv2).mono ?_); rintro e1 w3 ⟨a3, n3, c3, rfl, hv3, hb3⟩)
    | (go_at_call 83; (with_reducible refine (HOf.out _).mono ?_); rintro e1 w4 ⟨a4, n4, c4, rfl, hv4, hb4⟩)
    | (go_at_call 78; (with_reducible refine (HS3.out _ _ _ _ hv4).mono ?_); rintro e1 w5 ⟨a5, n5, c5, rfl, hv5, hb5⟩)
    | (go_at_call 81; (with_reducible refine (HC.out _ _ _ _ _ _ _ (hv3.below (btn hb4 hb5)) hv5).mono ?_); rintro e1 w6 ⟨rfl, hb6⟩)
    | (go_at_call 102; (with_reducible refine (HL.out _ _ _ _ (hv1.below (btn hb2 (btn hb3 (btn hb4 (btn hb5 hb6)))))).mono ?_); rintro e1 w7 ⟨rfl, rfl⟩))
  go_ret3
  refine ⟨ret_rnd ?_ ?_ ?_, btn hb1 (btn hb2 (btn hb3 (btn hb4 (btn hb5 hb6))))⟩
  · first | rfl | omega
  · have := HEC.out; omega
  · have := HEC.out; exact decide_eq_decide.2 (by omega)
set_option maxRecDepth 100000 in
set_option maxHeartbeats 2000000 in
theorem rround53_Bhi_gt1 (a : Option Addr) (n0 c0 : Nat) (w : World) (n e C t Kz : Int) (K Bk Rt Hf : Nat) (hn : 0 ≤ n ∧ n ≤ 32000) (he : -100000 ≤ e ∧ e ≤ 2100) (hcut : (-1074) ≤ e + (n - 53)) (ec : n - 53 = C) (hC : 0 < C ∧ C ≤ 40000) (hK : 0 ≤ Kz ∧ Kz ≤ 9007199254740992) (ht : 0 < t) (hz : (Kz + 1 == 9007199254740992) = true)
    (HB : Hid (Calls Try.prog 77 #[.slice a n0 c0] w fun e w' => e = .returned (.int .i64 n) ∧ w = w'))
    (HS1 : Hid (Calls Try.prog 78 #[.slice a n0 c0, .int .i64 (-C)] w (OneOk w K)))
    (HS2 : Hid (∀ (w1 : World) (a1 : Option Addr) (n1 c1 : Nat), Nw w1 (.slice a1 n1 c1) K → Calls Try.prog 78 #[.slice a1 n1 c1, .int .i64 C] w1 (OneOk w1 Bk)))
    (HSub : Hid (∀ (w1 : World) (a1 : Option Addr) (n1 c1 : Nat), Below w.heap.size w w1 → Nw w1 (.slice a1 n1 c1) Bk → Calls Try.prog 87 #[.slice a n0 c0, .slice a1 n1 c1] w1 (OneOk w1 Rt)))
    (HOf : Hid (∀ w1, Calls Try.prog 83 #[.int .u64 1] w1 (One w1 1)))
    (HS3 : Hid (∀ (w1 : World) (a1 : Option Addr) (n1 c1 : Nat), Nw w1 (.slice a1 n1 c1) 1 → Calls Try.prog 78 #[.slice a1 n1 c1, .int .i64 (C - 1)] w1 (OneOk w1 Hf)))
    (HC : Hid (∀ (w1 : World) (a1 : Option Addr) (n1 c1 : Nat) (a2 : Option Addr) (n2 c2 : Nat), Nw w1 (.slice a1 n1 c1) Rt → Nw w1 (.slice a2 n2 c2) Hf → Calls Try.prog 81 #[.slice a1 n1 c1, .slice a2 n2 c2] w1 fun e w' => e = .returned (.int .i64 t) ∧ Below w1.heap.size w1 w'))
    (HL : Hid (∀ (w1 : World) (a1 : Option Addr) (n1 c1 : Nat), Nw w1 (.slice a1 n1 c1) K → Calls Try.prog 102 #[.slice a1 n1 c1] w1 fun e w' => e = .returned (.int .u64 Kz) ∧ w1 = w')) :
    Calls Try.prog 98 #[.slice a n0 c0, .int .i64 e, .int .i64 53, .int .i64 (-1074), .int .i64 971] w fun x w' => x = .returned (.tuple #[.int .u64 ((Kz + 1) / 2), .int .i64 (e + C + 1), .bool (decide (971 < e + C + 1))]) ∧ Below w.heap.size w w' := by
  have HEC := Lib.hid ec
  go_enter Try.func98, Try.ntmps98
  go_wp2_with (first
    | (go_at_call 77; (with_reducible refine (HB.out).mono ?_); rintro e1 w1 ⟨rfl, rfl⟩)
    | (go_at_call 78; (with_reducible refine (HS1.out).mono ?_); rintro e1 w1 ⟨a1, n1, c1, rfl, hv1, hb1⟩)
    | (go_at_call 78; (with_reducible refine (HS2.out _ _ _ _ hv1).mono ?_); rintro e1 w2 ⟨a2, n2, c2, rfl, hv2, hb2⟩)
    | (go_at_call 87; (with_reducible refine (HSub.out _ _ _ _ (btn hb1 hb2) hv2).mono ?_); rintro e1 w3 ⟨a3, n3, c3, rfl, hv3, hb3⟩)
    | (go_at_call 83; (with_reducible refine (HOf.out _).mono ?_); rintro e1 w4 ⟨a4, n4, c4, rfl, hv4, hb4⟩)
    | (go_at_call 78; (with_reducible refine (HS3.out _ _ _ _ hv4).mono ?_); rintro e1 w5 ⟨a5, n5, c5, rfl, hv5, hb5⟩)
    | (go_at_call 81; (with_reducible refine (HC.out _ _ _ _ _ _ _ (hv3.below (btn hb4 hb5)) hv5).mono ?_); rintro e1 w6 ⟨rfl, hb6⟩)
    | (go_at_call 102; (with_reducible refine (HL.out _ _ _ _ (hv1.below (btn hb2 (btn hb3 (btn hb4 (btn hb5 hb6)))))).mono ?_); rintro e1 w7 ⟨rfl, rfl⟩))
  go_ret3
  refine ⟨ret_rnd ?_ ?_ ?_, btn hb1 (btn hb2 (btn hb3 (btn hb4 (btn hb5 hb6))))⟩
  · first | rfl | omega
  · have := HEC.out; omega
  · have := HEC.out; exact decide_eq_decide.2 (by omega)
set_option maxRecDepth 100000 in
set_option maxHeartbeats 2000000 in
theorem rround53_Bhi_odd0 (a : Option Addr) (n0 c0 : Nat) (w : World) (n e C t Kz : Int) (K Bk Rt Hf : Nat) (hn : 0 ≤ n ∧ n ≤ 32000) (he : -100000 ≤ e ∧ e ≤ 2100) (hcut : (-1074) ≤ e + (n - 53)) (ec : n - 53 = C) (hC : 0 < C ∧ C ≤ 40000) (hK : 0 ≤ Kz ∧ Kz ≤ 9007199254740992) (ht : t = 0) (ho : (bits .and .u64 Kz 1 == 1) = true) (hz : (Kz + 1 == 9007199254740992) = false)
    (HB : Hid (Calls Try.prog 77 #[.slice a n0 c0] w fun e w' => e = .returned (.int .i64 n) ∧ w = w'))
    (HS1 : Hid (Calls Try.prog 78 #[.slice a n0 c0, .int .i64 (-C)] w (OneOk w K)))
    (HS2 : Hid (∀ (w1 : World) (a1 : Option Addr) (n1 c1 : Nat), Nw w1 (.slice a1 n1 c1) K → Calls Try.prog 78 #[.slice a1 n1 c1, .int .i64 C] w1 (OneOk w1 Bk)))
    (HSub : Hid (∀ (w1 : World) (a1 : Option Addr) (n1 c1 : Nat), Below w.heap.size w w1 → Nw w1 (.slice a1 n1 c1) Bk → Calls Try.prog 87 #[.slice a n0 c0, .slice a1 n1 c1] w1 (OneOk w1 Rt)))
    (HOf : Hid (∀ w1, Calls Try.prog 83 #[.int .u64 1] w1 (One w1 1)))
    (HS3 : Hid (∀ (w1 : World) (a1 : Option Addr) (n1 c1 : Nat), Nw w1 (.slice a1 n1 c1) 1 → Calls Try.prog 78 #[.slice a1 n1 c1, .int .i64 (C - 1)] w1 (OneOk w1 Hf)))
    (HC : Hid (∀ (w1 : World) (a1 : Option Addr) (n1 c1 : Nat) (a2 : Option Addr) (n2 c2 : Nat), Nw w1 (.slice a1 n1 c1) Rt → Nw w1 (.slice a2 n2 c2) Hf → Calls Try.prog 81 #[.slice a1 n1 c1, .slice a2 n2 c2] w1 fun e w' => e = .returned (.int .i64 t) ∧ Below w1.heap.size w1 w'))
    (HL : Hid (∀ (w1 : World) (a1 : Option Addr) (n1 c1 : Nat), Nw w1 (.slice a1 n1 c1) K → Calls Try.prog 102 #[.slice a1 n1 c1] w1 fun e w' => e = .returned (.int .u64 Kz) ∧ w1 = w')) :
    Calls Try.prog 98 #[.slice a n0 c0, .int .i64 e, .int .i64 53, .int .i64 (-1074), .int .i64 971] w fun x w' => x = .returned (.tuple #[.int .u64 (Kz + 1), .int .i64 (e + C), .bool (decide (971 < e + C))]) ∧ Below w.heap.size w w' := by
  have HEC := Lib.hid ec
  go_enter Try.func98, Try.ntmps98
  go_wp2_with (first
    | (go_at_call 77; (with_reducible refine (HB.out).mono ?_); rintro e1 w1 ⟨rfl, rfl⟩)
    | (go_at_call 78; (with_reducible refine (HS1.out).mono ?_); rintro e1 w1 ⟨a1, n1, c1, rfl, hv1, hb1⟩)
    | (go_at_call 78; (with_reducible refine (HS2.out _ _ _ _ hv1).mono ?_); rintro e1 w2 ⟨a2, n2, c2, rfl, hv2, hb2⟩)
    | (go_at_call 87; (with_reducible refine (HSub.out _ _ _ _ (btn hb1 hb2) hv2).mono ?_); rintro e1 w3 ⟨a3, n3, c3, rfl, hv3, hb3⟩)
    | (go_at_call 83; (with_reducible refine (HOf.out _).mono ?_); rintro e1 w4 ⟨a4, n4, c4, rfl, hv4, hb4⟩)
    | (go_at_call 78; (with_reducible refine (HS3.out _ _ _ _ hv4).mono ?_); rintro e1 w5 ⟨a5, n5, c5, rfl, hv5, hb5⟩)
    | (go_at_call 81; (with_reducible refine (HC.out _ _ _ _ _ _ _ (hv3.below (btn hb4 hb5)) hv5).mono ?_); rintro e1 w6 ⟨rfl, hb6⟩)
    | (go_at_call 102; (with_reducible refine (HL.out _ _ _ _ (hv1.below (btn hb2 (btn hb3 (btn hb4 (btn hb5 hb6)))))).mono ?_); rintro e1 w7 ⟨rfl, rfl⟩))
  go_ret3
  refine ⟨ret_rnd ?_ ?_ ?_, btn hb1 (btn hb2 (btn hb3 (btn hb4 (btn hb5 hb6))))⟩
  · first | rfl | omega
  · have := HEC.out; omega
  · have := HEC.out; exact decide_eq_decide.2 (by omega)
set_option maxRecDepth 100000 in
set_option maxHeartbeats 2000000 in
theorem rround53_Bhi_odd1 (a : Option Addr) (n0 c0 : Nat) (w : World) (n e C t Kz : Int) (K Bk Rt Hf : Nat) (hn : 0 ≤ n ∧ n ≤ 32000) (he : -100000 ≤ e ∧ e ≤ 2100) (hcut : (-1074) ≤ e + (n - 53)) (ec : n - 53 = C) (hC : 0 < C ∧ C ≤ 40000) (hK : 0 ≤ Kz ∧ Kz ≤ 9007199254740992) (ht : t = 0) (ho : (bits .and .u64 Kz 1 == 1) = true) (hz : (Kz + 1 == 9007199254740992) = true)
    (HB : Hid (Calls Try.prog 77 #[.slice a n0 c0] w fun e w' => e = .returned (.int .i64 n) ∧ w = w'))
    (HS1 : Hid (Calls Try.prog 78 #[.slice a n0 c0, .int .i64 (-C)] w (OneOk w K)))
    (HS2 : Hid (∀ (w1 : World) (a1 : Option Addr) (n1 c1 : Nat), Nw w1 (.slice a1 n1 c1) K → Calls Try.prog 78 #[.slice a1 n1 c1, .int .i64 C] w1 (OneOk w1 Bk)))
    (HSub : Hid (∀ (w1 : World) (a1 : Option Addr) (n1 c1 : Nat), Below w.heap.size w w1 → Nw w1 (.slice a1 n1 c1) Bk → Calls Try.prog 87 #[.slice a n0 c0, .slice a1 n1 c1] w1 (OneOk w1 Rt)))
    (HOf : Hid (∀ w1, Calls Try.prog 83 #[.int .u64 1] w1 (One w1 1)))
    (HS3 : Hid (∀ (w1 : World) (a1 : Option Addr) (n1 c1 : Nat), Nw w1 (.slice a1 n1 c1) 1 → Calls Try.prog 78 #[.slice a1 n1 c1, .int .i64 (C - 1)] w1 (OneOk w1 Hf)))
    (HC : Hid (∀ (w1 : World) (a1 : Option Addr) (n1 c1 : Nat) (a2 : Option Addr) (n2 c2 : Nat), Nw w1 (.slice a1 n1 c1) Rt → Nw w1 (.slice a2 n2 c2) Hf → Calls Try.prog 81 #[.slice a1 n1 c1, .slice a2 n2 c2] w1 fun e w' => e = .returned (.int .i64 t) ∧ Below w1.heap.size w1 w'))
    (HL : Hid (∀ (w1 : World) (a1 : Option Addr) (n1 c1 : Nat), Nw w1 (.slice a1 n1 c1) K → Calls Try.prog 102 #[.slice a1 n1 c1] w1 fun e w' => e = .returned (.int .u64 Kz) ∧ w1 = w')) :
    Calls Try.prog 98 #[.slice a n0 c0, .int .i64 e, .int .i64 53, .int .i64 (-1074), .int .i64 971] w fun x w' => x = .returned (.tuple #[.int .u64 ((Kz + 1) / 2), .int .i64 (e + C + 1), .bool (decide (971 < e + C + 1))]) ∧ Below w.heap.size w w' := by
  have HEC := Lib.hid ec
  go_enter Try.func98, Try.ntmps98
  go_wp2_with (first
    | (go_at_call 77; (with_reducible refine (HB.out).mono ?_); rintro e1 w1 ⟨rfl, rfl⟩)
    | (go_at_call 78; (with_reducible refine (HS1.out).mono ?_); rintro e1 w1 ⟨a1, n1, c1, rfl, hv1, hb1⟩)
    | (go_at_call 78; (with_reducible refine (HS2.out _ _ _ _ hv1).mono ?_); rintro e1 w2 ⟨a2, n2, c2, rfl, hv2, hb2⟩)
    | (go_at_call 87; (with_reducible refine (HSub.out _ _ _ _ (btn hb1 hb2) hv2).mono ?_); rintro e1 w3 ⟨a3, n3, c3, rfl, hv3, hb3⟩)
    | (go_at_call 83; (with_reducible refine (HOf.out _).mono ?_); rintro e1 w4 ⟨a4, n4, c4, rfl, hv4, hb4⟩)
    | (go_at_call 78; (with_reducible refine (HS3.out _ _ _ _ hv4).mono ?_); rintro e1 w5 ⟨a5, n5, c5, rfl, hv5, hb5⟩)
    | (go_at_call 81; (with_reducible refine (HC.out _ _ _ _ _ _ _ (hv3.below (btn hb4 hb5)) hv5).mono ?_); rintro e1 w6 ⟨rfl, hb6⟩)
    | (go_at_call 102; (with_reducible refine (HL.out _ _ _ _ (hv1.below (btn hb2 (btn hb3 (btn hb4 (btn hb5 hb6)))))).mono ?_); rintro e1 w7 ⟨rfl, rfl⟩))
  go_ret3
  refine ⟨ret_rnd ?_ ?_ ?_, btn hb1 (btn hb2 (btn hb3 (btn hb4 (btn hb5 hb6))))⟩
  · first | rfl | omega
  · have := HEC.out; omega
  · have := HEC.out; exact decide_eq_decide.2 (by omega)
set_option maxRecDepth 100000 in
set_option maxHeartbeats 2000000 in
theorem rround53_Bhi_even0 (a : Option Addr) (n0 c0 : Nat) (w : World) (n e C t Kz : Int) (K Bk Rt Hf : Nat) (hn : 0 ≤ n ∧ n ≤ 32000) (he : -100000 ≤ e ∧ e ≤ 2100) (hcut : (-1074) ≤ e + (n - 53)) (ec : n - 53 = C) (hC : 0 < C ∧ C ≤ 40000) (hK : 0 ≤ Kz ∧ Kz ≤ 9007199254740992) (ht : t = 0) (ho : (bits .and .u64 Kz 1 == 1) = false) (hz : (Kz == 9007199254740992) = false)
    (HB : Hid (Calls Try.prog 77 #[.slice a n0 c0] w fun e w' => e = .returned (.int .i64 n) ∧ w = w'))
    (HS1 : Hid (Calls Try.prog 78 #[.slice a n0 c0, .int .i64 (-C)] w (OneOk w K)))
    (HS2 : Hid (∀ (w1 : World) (a1 : Option Addr) (n1 c1 : Nat), Nw w1 (.slice a1 n1 c1) K → Calls Try.prog 78 #[.slice a1 n1 c1, .int .i64 C] w1 (OneOk w1 Bk)))
    (HSub : Hid (∀ (w1 : World) (a1 : Option Addr) (n1 c1 : Nat), Below w.heap.size w w1 → Nw w1 (.slice a1 n1 c1) Bk → Calls Try.prog 87 #[.slice a n0 c0, .slice a1 n1 c1] w1 (OneOk w1 Rt)))
    (HOf : Hid (∀ w1, Calls Try.prog 83 #[.int .u64 1] w1 (One w1 1)))
    (HS3 : Hid (∀ (w1 : World) (a1 : Option Addr) (n1 c1 : Nat), Nw w1 (.slice a1 n1 c1) 1 → Calls Try.prog 78 #[.slice a1 n1 c1, .int .i64 (C - 1)] w1 (OneOk w1 Hf)))
    (HC : Hid (∀ (w1 : World) (a1 : Option Addr) (n1 c1 : Nat) (a2 : Option Addr) (n2 c2 : Nat), Nw w1 (.slice a1 n1 c1) Rt → Nw w1 (.slice a2 n2 c2) Hf → Calls Try.prog 81 #[.slice a1 n1 c1, .slice a2 n2 c2] w1 fun e w' => e = .returned (.int .i64 t) ∧ Below w1.heap.size w1 w'))
    (HL : Hid (∀ (w1 : World) (a1 : Option Addr) (n1 c1 : Nat), Nw w1 (.slice a1 n1 c1) K → Calls Try.prog 102 #[.slice a1 n1 c1] w1 fun e w' => e = .returned (.int .u64 Kz) ∧ w1 = w')) :
    Calls Try.prog 98 #[.slice a n0 c0, .int .i64 e, .int .i64 53, .int .i64 (-1074), .int .i64 971] w fun x w' => x = .returned (.tuple #[.int .u64 (Kz), .int .i64 (e + C), .bool (decide (971 < e + C))]) ∧ Below w.heap.size w w' := by
  have HEC := Lib.hid ec
  go_enter Try.func98, Try.ntmps98
  go_wp2_with (first
    | (go_at_call 77; (with_reducible refine (HB.out).mono ?_); rintro e1 w1 ⟨rfl, rfl⟩)
    | (go_at_call 78; (with_reducible refine (HS1.out).mono ?_); rintro e1 w1 ⟨a1, n1, c1, rfl, hv1, hb1⟩)
    | (go_at_call 78; (with_reducible refine (HS2.out _ _ _ _ hv1).mono ?_); rintro e1 w2 ⟨a2, n2, c2, rfl, hv2, hb2⟩)
    | (go_at_call 87; (with_reducible refine (HSub.out _ _ _ _ (btn hb1 hb2) hv2).mono ?_); rintro e1 w3 ⟨a3, n3, c3, rfl, hv3, hb3⟩)
    | (go_at_call 83; (with_reducible refine (HOf.out _).mono ?_); rintro e1 w4 ⟨a4, n4, c4, rfl, hv4, hb4⟩)
    | (go_at_call 78; (with_reducible refine (HS3.out _ _ _ _ hv4).mono ?_); rintro e1 w5 ⟨a5, n5, c5, rfl, hv5, hb5⟩)
    | (go_at_call 81; (with_reducible refine (HC.out _ _ _ _ _ _ _ (hv3.below (btn hb4 hb5)) hv5).mono ?_); rintro e1 w6 ⟨rfl, hb6⟩)
    | (go_at_call 102; (with_reducible refine (HL.out _ _ _ _ (hv1.below (btn hb2 (btn hb3 (btn hb4 (btn hb5 hb6)))))).mono ?_); rintro e1 w7 ⟨rfl, rfl⟩))
  go_ret3
  refine ⟨ret_rnd ?_ ?_ ?_, btn hb1 (btn hb2 (btn hb3 (btn hb4 (btn hb5 hb6))))⟩
  · first | rfl | omega
  · have := HEC.out; omega
  · have := HEC.out; exact decide_eq_decide.2 (by omega)
set_option maxRecDepth 100000 in
set_option maxHeartbeats 2000000 in
theorem rround53_Bhi_even1 (a : Option Addr) (n0 c0 : Nat) (w : World) (n e C t Kz : Int) (K Bk Rt Hf : Nat) (hn : 0 ≤ n ∧ n ≤ 32000) (he : -100000 ≤ e ∧ e ≤ 2100) (hcut : (-1074) ≤ e + (n - 53)) (ec : n - 53 = C) (hC : 0 < C ∧ C ≤ 40000) (hK : 0 ≤ Kz ∧ Kz ≤ 9007199254740992) (ht : t = 0) (ho : (bits .and .u64 Kz 1 == 1) = false) (hz : (Kz == 9007199254740992) = true)
    (HB : Hid (Calls Try.prog 77 #[.slice a n0 c0] w fun e w' => e = .returned (.int .i64 n) ∧ w = w'))
    (HS1 : Hid (Calls Try.prog 78 #[.slice a n0 c0, .int .i64 (-C)] w (OneOk w K)))
    (HS2 : Hid (∀ (w1 : World) (a1 : Option Addr) (n1 c1 : Nat), Nw w1 (.slice a1 n1 c1) K → Calls Try.prog 78 #[.slice a1 n1 c1, .int .i64 C] w1 (OneOk w1 Bk)))
    (HSub : Hid (∀ (w1 : World) (a1 : Option Addr) (n1 c1 : Nat), Below w.heap.size w w1 → Nw w1 (.slice a1 n1 c1) Bk → Calls Try.prog 87 #[.slice a n0 c0, .slice a1 n1 c1] w1 (OneOk w1 Rt)))
    (HOf : Hid (∀ w1, Calls Try.prog 83 #[.int .u64 1] w1 (One w1 1)))
    (HS3 : Hid (∀ (w1 : World) (a1 : Option Addr) (n1 c1 : Nat), Nw w1 (.slice a1 n1 c1) 1 → Calls Try.prog 78 #[.slice a1 n1 c1, .int .i64 (C - 1)] w1 (OneOk w1 Hf)))
    (HC : Hid (∀ (w1 : World) (a1 : Option Addr) (n1 c1 : Nat) (a2 : Option Addr) (n2 c2 : Nat), Nw w1 (.slice a1 n1 c1) Rt → Nw w1 (.slice a2 n2 c2) Hf → Calls Try.prog 81 #[.slice a1 n1 c1, .slice a2 n2 c2] w1 fun e w' => e = .returned (.int .i64 t) ∧ Below w1.heap.size w1 w'))
    (HL : Hid (∀ (w1 : World) (a1 : Option Addr) (n1 c1 : Nat), Nw w1 (.slice a1 n1 c1) K → Calls Try.prog 102 #[.slice a1 n1 c1] w1 fun e w' => e = .returned (.int .u64 Kz) ∧ w1 = w')) :
    Calls Try.prog 98 #[.slice a n0 c0, .int .i64 e, .int .i64 53, .int .i64 (-1074), .int .i64 971] w fun x w' => x = .returned (.tuple #[.int .u64 ((Kz) / 2), .int .i64 (e + C + 1), .bool (decide (971 < e + C + 1))]) ∧ Below w.heap.size w w' := by
  have HEC := Lib.hid ec
  go_enter Try.func98, Try.ntmps98
  go_wp2_with (first
    | (go_at_call 77; (with_reducible refine (HB.out).mono ?_); rintro e1 w1 ⟨rfl, rfl⟩)
    | (go_at_call 78; (with_reducible refine (HS1.out).mono ?_); rintro e1 w1 ⟨a1, n1, c1, rfl, hv1, hb1⟩)
    | (go_at_call 78; (with_reducible refine (HS2.out _ _ _ _ hv1).mono ?_); rintro e1 w2 ⟨a2, n2, c2, rfl, hv2, hb2⟩)
    | (go_at_call 87; (with_reducible refine (HSub.out _ _ _ _ (btn hb1 hb2) hv2).mono ?_); rintro e1 w3 ⟨a3, n3, c3, rfl, hv3, hb3⟩)
    | (go_at_call 83; (with_reducible refine (HOf.out _).mono ?_); rintro e1 w4 ⟨a4, n4, c4, rfl, hv4, hb4⟩)
    | (go_at_call 78; (with_reducible refine (HS3.out _ _ _ _ hv4).mono ?_); rintro e1 w5 ⟨a5, n5, c5, rfl, hv5, hb5⟩)
    | (go_at_call 81; (with_reducible refine (HC.out _ _ _ _ _ _ _ (hv3.below (btn hb4 hb5)) hv5).mono ?_); rintro e1 w6 ⟨rfl, hb6⟩)
    | (go_at_call 102; (with_reducible refine (HL.out _ _ _ _ (hv1.below (btn hb2 (btn hb3 (btn hb4 (btn hb5 hb6)))))).mono ?_); rintro e1 w7 ⟨rfl, rfl⟩))
  go_ret3
  refine ⟨ret_rnd ?_ ?_ ?_, btn hb1 (btn hb2 (btn hb3 (btn hb4 (btn hb5 hb6))))⟩
  · first | rfl | omega
  · have := HEC.out; omega
  · have := HEC.out; exact decide_eq_decide.2 (by omega)
set_option maxRecDepth 100000 in
set_option maxHeartbeats 2000000 in
theorem rround53_Bhi_lt0 (a : Option Addr) (n0 c0 : Nat) (w : World) (n e C t Kz : Int) (K Bk Rt Hf : Nat) (hn : 0 ≤ n ∧ n ≤ 32000) (he : -100000 ≤ e ∧ e ≤ 2100) (hcut : (-1074) ≤ e + (n - 53)) (ec : n - 53 = C) (hC : 0 < C ∧ C ≤ 40000) (hK : 0 ≤ Kz ∧ Kz ≤ 9007199254740992) (ht : t < 0) (hz : (Kz == 9007199254740992) = false)
    (HB : Hid (Calls Try.prog 77 #[.slice a n0 c0] w fun e w' => e = .returned (.int .i64 n) ∧ w = w'))
    (HS1 : Hid (Calls Try.prog 78 #[.slice a n0 c0, .int .i64 (-C)] w (OneOk w K)))
    (HS2 : Hid (∀ (w1 : World) (a1 : Option Addr) (n1 c1 : Nat), Nw w1 (.slice a1 n1 c1) K → Calls Try.prog 78 #[.slice a1 n1 c1, .int .i64 C] w1 (OneOk w1 Bk)))
    (HSub : Hid (∀ (w1 : World) (a1 : Option Addr) (n1 c1 : Nat), Below w.heap.size w w1 → Nw w1 (.slice a1 n1 c1) Bk → Calls Try.prog 87 #[.slice a n0 c0, .slice a1 n1 c1] w1 (OneOk w1 Rt)))
    (HOf : Hid (∀ w1, Calls Try.prog 83 #[.int .u64 1] w1 (One w1 1)))
    (HS3 : Hid (∀ (w1 : World) (a1 : Option Addr) (n1 c1 : Nat), Nw w1 (.slice a1 n1 c1) 1 → Calls Try.prog 78 #[.slice a1 n1 c1, .int .i64 (C - 1)] w1 (OneOk w1 Hf)))
    (HC : Hid (∀ (w1 : World) (a1 : Option Addr) (n1 c1 : Nat) (a2 : Option Addr) (n2 c2 : Nat), Nw w1 (.slice a1 n1 c1) Rt → Nw w1 (.slice a2 n2 c2) Hf → Calls Try.prog 81 #[.slice a1 n1 c1, .slice a2 n2 c2] w1 fun e w' => e = .returned (.int .i64 t) ∧ Below w1.heap.size w1 w'))
    (HL : Hid (∀ (w1 : World) (a1 : Option Addr) (n1 c1 : Nat), Nw w1 (.slice a1 n1 c1) K → Calls Try.prog 102 #[.slice a1 n1 c1] w1 fun e w' => e = .returned (.int .u64 Kz) ∧ w1 = w')) :
    Calls Try.prog 98 #[.slice a n0 c0, .int .i64 e, .int .i64 53, .int .i64 (-1074), .int .i64 971] w fun x w' => x = .returned (.tuple #[.int .u64 (Kz), .int .i64 (e + C), .bool (decide (971 < e + C))]) ∧ Below w.heap.size w w' := by
  have HEC := Lib.hid ec
  go_enter Try.func98, Try.ntmps98
  go_wp2_with (first
    | (go_at_call 77; (with_reducible refine (HB.out).mono ?_); rintro e1 w1 ⟨rfl, rfl⟩)
    | (go_at_call 78; (with_reducible refine (HS1.out).mono ?_); rintro e1 w1 ⟨a1, n1, c1, rfl, hv1, hb1⟩)
    | (go_at_call 78; (with_reducible refine (HS2.out _ _ _ _ hv1).mono ?_); rintro e1 w2 ⟨a2, n2, c2, rfl, hv2, hb2⟩)
    | (go_at_call 87; (with_reducible refine (HSub.out _ _ _ _ (btn hb1 hb2) hv2).mono ?_); rintro e1 w3 ⟨a3, n3, c3, rfl, hv3, hb3⟩)
    | (go_at_call 83; (with_reducible refine (HOf.out _).mono ?_); rintro e1 w4 ⟨a4, n4, c4, rfl, hv4, hb4⟩)
    | (go_at_call 78; (with_reducible refine (HS3.out _ _ _ _ hv4).mono ?_); rintro e1 w5 ⟨a5, n5, c5, rfl, hv5, hb5⟩)
    | (go_at_call 81; (with_reducible refine (HC.out _ _ _ _ _ _ _ (hv3.below (btn hb4 hb5)) hv5).mono ?_); rintro e1 w6 ⟨rfl, hb6⟩)
    | (go_at_call 102; (with_reducible refine (HL.out _ _ _ _ (hv1.below (btn hb2 (btn hb3 (btn hb4 (btn hb5 hb6)))))).mono ?_); rintro e1 w7 ⟨rfl, rfl⟩))
  go_ret3
  refine ⟨ret_rnd ?_ ?_ ?_, btn hb1 (btn hb2 (btn hb3 (btn hb4 (btn hb5 hb6))))⟩
  · first | rfl | omega
  · have := HEC.out; omega
  · have := HEC.out; exact decide_eq_decide.2 (by omega)
set_option maxRecDepth 100000 in
set_option maxHeartbeats 2000000 in
theorem rround53_Bhi_lt1 (a : Option Addr) (n0 c0 : Nat) (w : World) (n e C t Kz : Int) (K Bk Rt Hf : Nat) (hn : 0 ≤ n ∧ n ≤ 32000) (he : -100000 ≤ e ∧ e ≤ 2100) (hcut : (-1074) ≤ e + (n - 53)) (ec : n - 53 = C) (hC : 0 < C ∧ C ≤ 40000) (hK : 0 ≤ Kz ∧ Kz ≤ 9007199254740992) (ht : t < 0) (hz : (Kz == 9007199254740992) = true)
    (HB : Hid (Calls Try.prog 77 #[.slice a n0 c0] w fun e w' => e = .returned (.int .i64 n) ∧ w = w'))
    (HS1 : Hid (Calls Try.prog 78 #[.slice a n0 c0, .int .i64 (-C)] w (OneOk w K)))
    (HS2 : Hid (∀ (w1 : World) (a1 : Option Addr) (n1 c1 : Nat), Nw w1 (.slice a1 n1 c1) K → Calls Try.prog 78 #[.slice a1 n1 c1, .int .i64 C] w1 (OneOk w1 Bk)))
    (HSub : Hid (∀ (w1 : World) (a1 : Option Addr) (n1 c1 : Nat), Below w.heap.size w w1 → Nw w1 (.slice a1 n1 c1) Bk → Calls Try.prog 87 #[.slice a n0 c0, .slice a1 n1 c1] w1 (OneOk w1 Rt)))
    (HOf : Hid (∀ w1, Calls Try.prog 83 #[.int .u64 1] w1 (One w1 1)))
    (HS3 : Hid (∀ (w1 : World) (a1 : Option Addr) (n1 c1 : Nat), Nw w1 (.slice a1 n1 c1) 1 → Calls Try.prog 78 #[.slice a1 n1 c1, .int .i64 (C - 1)] w1 (OneOk w1 Hf)))
    (HC : Hid (∀ (w1 : World) (a1 : Option Addr) (n1 c1 : Nat) (a2 : Option Addr) (n2 c2 : Nat), Nw w1 (.slice a1 n1 c1) Rt → Nw w1 (.slice a2 n2 c2) Hf → Calls Try.prog 81 #[.slice a1 n1 c1, .slice a2 n2 c2] w1 fun e w' => e = .returned (.int .i64 t) ∧ Below w1.heap.size w1 w'))
    (HL : Hid (∀ (w1 : World) (a1 : Option Addr) (n1 c1 : Nat), Nw w1 (.slice a1 n1 c1) K → Calls Try.prog 102 #[.slice a1 n1 c1] w1 fun e w' => e = .returned (.int .u64 Kz) ∧ w1 = w')) :
    Calls Try.prog 98 #[.slice a n0 c0, .int .i64 e, .int .i64 53, .int .i64 (-1074), .int .i64 971] w fun x w' => x = .returned (.tuple #[.int .u64 ((Kz) / 2), .int .i64 (e + C + 1), .bool (decide (971 < e + C + 1))]) ∧ Below w.heap.size w w' := by
  have HEC := Lib.hid ec
  go_enter Try.func98, Try.ntmps98
  go_wp2_with (first
    | (go_at_call 77; (with_reducible refine (HB.out).mono ?_); rintro e1 w1 ⟨rfl, rfl⟩)
    | (go_at_call 78; (with_reducible refine (HS1.out).mono ?_); rintro e1 w1 ⟨a1, n1, c1, rfl, hv1, hb1⟩)
    | (go_at_call 78; (with_reducible refine (HS2.out _ _ _ _ hv1).mono ?_); rintro e1 w2 ⟨a2, n2, c2, rfl, hv2, hb2⟩)
    | (go_at_call 87; (with_reducible refine (HSub.out _ _ _ _ (btn hb1 hb2) hv2).mono ?_); rintro e1 w3 ⟨a3, n3, c3, rfl, hv3, hb3⟩)
    | (go_at_call 83; (with_reducible refine (HOf.out _).mono ?_); rintro e1 w4 ⟨a4, n4, c4, rfl, hv4, hb4⟩)
    | (go_at_call 78; (with_reducible refine (HS3.out _ _ _ _ hv4).mono ?_); rintro e1 w5 ⟨a5, n5, c5, rfl, hv5, hb5⟩)
    | (go_at_call 81; (with_reducible refine (HC.out _ _ _ _ _ _ _ (hv3.below (btn hb4 hb5)) hv5).mono ?_); rintro e1 w6 ⟨rfl, hb6⟩)
    | (go_at_call 102; (with_reducible refine (HL.out _ _ _ _ (hv1.below (btn hb2 (btn hb3 (btn hb4 (btn hb5 hb6)))))).mono ?_); rintro e1 w7 ⟨rfl, rfl⟩))
  go_ret3
  refine ⟨ret_rnd ?_ ?_ ?_, btn hb1 (btn hb2 (btn hb3 (btn hb4 (btn hb5 hb6))))⟩
  · first | rfl | omega
  · have := HEC.out; omega
  · have := HEC.out; exact decide_eq_decide.2 (by omega)
set_option maxRecDepth 100000 in
set_option maxHeartbeats 2000000 in
theorem rround24_Blo_gt0 (a : Option Addr) (n0 c0 : Nat) (w : World) (n e C t Kz : Int) (K Bk Rt Hf : Nat) (hn : 0 ≤ n ∧ n ≤ 32000) (he : -100000 ≤ e ∧ e ≤ 2100) (hcut : e + (n - 24) < (-149)) (ec : (-149) - e = C) (hC : 0 < C ∧ C ≤ 40000) (hK : 0 ≤ Kz ∧ Kz ≤ 16777216) (ht : 0 < t) (hz : (Kz + 1 == 16777216) = false)
    (HB : Hid (Calls Try.prog 77 #[.slice a n0 c0] w fun e w' => e = .returned (.int .i64 n) ∧ w = w'))
    (HS1 : Hid (Calls Try.prog 78 #[.slice a n0 c0, .int .i64 (-C)] w (OneOk w K)))
    (HS2 : Hid (∀ (w1 : World) (a1 : Option Addr) (n1 c1 : Nat), Nw w1 (.slice a1 n1 c1) K → Calls Try.prog 78 #[.slice a1 n1 c1, .int .i64 C] w1 (OneOk w1 Bk)))
    (HSub : Hid (∀ (w1 : World) (a1 : Option Addr) (n1 c1 : Nat), Below w.heap.size w w1 → Nw w1 (.slice a1 n1 c1) Bk → Calls Try.prog 87 #[.slice a n0 c0, .slice a1 n1 c1] w1 (OneOk w1 Rt)))
    (HOf : Hid (∀ w1, Calls Try.prog 83 #[.int .u64 1] w1 (One w1 1)))
    (HS3 : Hid (∀ (w1 : World) (a1 : Option Addr) (n1 c1 : Nat), Nw w1 (.slice a1 n1 c1) 1 → Calls Try.prog 78 #[.slice a1 n1 c1, .int .i64 (C - 1)] w1 (OneOk w1 Hf)))
    (HC : Hid (∀ (w1 : World) (a1 : Option Addr) (n1 c1 : Nat) (a2 : Option Addr) (n2 c2 : Nat), Nw w1 (.slice a1 n1 c1) Rt → Nw w1 (.slice a2 n2 c2) Hf → Calls Try.prog 81 #[.slice a1 n1 c1, .slice a2 n2 c2] w1 fun e w' => e = .returned (.int .i64 t) ∧ Below w1.heap.size w1 w'))
    (HL : Hid (∀ (w1 : World) (a1 : Option Addr) (n1 c1 : Nat), Nw w1 (.slice a1 n1 c1) K → Calls Try.prog 102 #[.slice a1 n1 c1] w1 fun e w' => e = .returned (.int .u64 Kz) ∧ w1 = w')) :
    Calls Try.prog 98 #[.slice a n0 c0, .int .i64 e, .int .i64 24, .int .i64 (-149), .int .i64 104] w fun x w' => x = .returned (.tuple #[.int .u64 (Kz + 1), .int .i64 (e + C), .bool (decide (104 < e + C))]) ∧ Below w.heap.size w w' := by
  have HEC := Lib.hid ec
  go_enter Try.func98, Try.ntmps98
  go_wp2_with (first
    | (go_at_call 77; (with_reducible refine (HB.out).mono ?_); rintro e1 w1 ⟨rfl, rfl⟩)
    | (go_at_call 78; (with_reducible refine (HS1.out).mono ?_); rintro e1 w1 ⟨a1, n1, c1, rfl, hv1, hb1⟩)
    | (go_at_call 78; (with_reducible refine (HS2.out _ _ _ _ hv1).mono ?_); rintro e1 w2 ⟨a2, n2, c2, rfl, hv2, hb2⟩)
    | (go_at_call 87; (with_reducible refine (HSub.out _ _ _ _ (btn hb1 hb2) hv2).mono ?_); rintro e1 w3 ⟨a3, n3, c3, rfl, hv3, hb3⟩)
    | (go_at_call 83; (with_reducible refine (HOf.out _).mono ?_); rintro e1 w4 ⟨a4, n4, c4, rfl, hv4, hb4⟩)
    | (go_at_call 78; (with_reducible refine (HS3.out _ _ _ _ hv4).mono ?_); rintro e1 w5 ⟨a5, n5, c5, rfl, hv5, hb5⟩)
    | (go_at_call 81; (with_reducible refine (HC.out _ _ _ _ _ _ _ (hv3.below (btn hb4 hb5)) hv5).mono ?_); rintro e1 w6 ⟨rfl, hb6⟩)
    | (go_at_call 102; (with_reducible refine (HL.out _ _ _ _ (hv1.below (btn hb2 (btn hb3 (btn hb4 (btn hb5 hb6)))))).mono ?_); rintro e1 w7 ⟨rfl, rfl⟩))
  go_ret3
  refine ⟨ret_rnd ?_ ?_ ?_, btn hb1 (btn hb2 (btn hb3 (btn hb4 (btn hb5 hb6))))⟩
  · first | rfl | omega
  · have := HEC.out; omega
  · have := HEC.out; exact decide_eq_decide.2 (by omega)
set_option maxRecDepth 100000 in
set_option maxHeartbeats 2000000 in
theorem rround24_Blo_gt1 (a : Option Addr) (n0 c0 : Nat) (w : World) (n e C t Kz : Int) (K Bk Rt Hf : Nat) (hn : 0 ≤ n ∧ n ≤ 32000) (he : -100000 ≤ e ∧ e ≤ 2100) (hcut : e + (n - 24) < (-149)) (ec : (-149) - e = C) (hC : 0 < C ∧ C ≤ 40000) (hK : 0 ≤ Kz ∧ Kz ≤ 16777216) (ht : 0 < t) (hz : (Kz + 1 == 16777216) = true)
    (HB : Hid (Calls Try.prog 77 #[.slice a n0 c0] w fun e w' => e = .returned (.int .i64 n) ∧ w = w'))
    (HS1 : Hid (Calls Try.prog 78 #[.slice a n0 c0, .int .i64 (-C)] w (OneOk w K)))
    (HS2 : Hid (∀ (w1 : World) (a1 : Option Addr) (n1 c1 : Nat), Nw w1 (.slice a1 n1 c1) K → Calls Try.prog 78 #[.slice a1 n1 c1, .int .i64 C] w1 (OneOk w1 Bk)))
    (HSub : Hid (∀ (w1 : World) (a1 : Option Addr) (n1 c1 : Nat), Below w.heap.size w w1 → Nw w1 (.slice a1 n1 c1) Bk → Calls Try.prog 87 #[.slice a n0 c0, .slice a1 n1 c1] w1 (OneOk w1 Rt)))
    (HOf : Hid (∀ w1, Calls Try.prog 83 #[.int .u64 1] w1 (One w1 1)))
    (HS3 : Hid (∀ (w1 : World) (a1 : Option Addr) (n1 c1 : Nat), Nw w1 (.slice a1 n1 c1) 1 → Calls Try.prog 78 #[.slice a1 n1 c1, .int .i64 (C - 1)] w1 (OneOk w1 Hf)))
    (HC : Hid (∀ (w1 : World) (a1 : Option Addr) (n1 c1 : Nat) (a2 : Option Addr) (n2 c2 : Nat), Nw w1 (.slice a1 n1 c1) Rt → Nw w1 (.slice a2 n2 c2) Hf → Calls Try.prog 81 #[.slice a1 n1 c1, .slice a2 n2 c2] w1 fun e w' => e = .returned (.int .i64 t) ∧ Below w1.heap.size w1 w'))
    (HL : Hid (∀ (w1 : World) (a1 : Option Addr) (n1 c1 : Nat), Nw w1 (.slice a1 n1 c1) K → Calls Try.prog 102 #[.slice a1 n1 c1] w1 fun e w' => e = .returned (.int .u64 Kz) ∧ w1 = w')) :
    Calls Try.prog 98 #[.slice a n0 c0, .int .i64 e, .int .i64 24, .int .i64 (-149), .int .i64 104] w fun x w' => x = .returned (.tuple #[.int .u64 ((Kz + 1) / 2), .int .i64 (e + C + 1), .bool (decide (104 < e + C + 1))]) ∧ Below w.heap.size w w' := by
  have HEC := Lib.hid ec
  go_enter Try.func98, Try.ntmps98
  go_wp2_with (first
    | (go_at_call 77; (with_reducible refine (HB.out).mono ?_); rintro e1 w1 ⟨rfl, rfl⟩)
    | (go_at_call 78; (with_reducible refine (HS1.out).mono ?_); rintro e1 w1 ⟨a1, n1, c1, rfl, hv1, hb1⟩)
    | (go_at_call 78; (with_reducible refine (HS2.out _ _ _ _ hv1).mono ?_); rintro e1 w2 ⟨a2, n2, c2, rfl, hv2, hb2⟩)
    | (go_at_call 87; (with_reducible refine (HSub.out _ _ _ _ (btn hb1 hb2) hv2).mono ?_); rintro e1 w3 ⟨a3, n3, c3, rfl, hv3, hb3⟩)
    | (go_at_call 83; (with_reducible refine (HOf.out _).mono ?_); rintro e1 w4 ⟨a4, n4, c4, rfl, hv4, hb4⟩)
    | (go_at_call 78; (with_reducible refine (HS3.out _ _ _ _ hv4).mono ?_); rintro e1 w5 ⟨a5, n5, c5, rfl, hv5, hb5⟩)
    | (go_at_call 81; (with_reducible refine (HC.out _ _ _ _ _ _ _ (hv3.below (btn hb4 hb5)) hv5).mono ?_); rintro e1 w6 ⟨rfl, hb6⟩)
    | (go_at_call 102; (with_reducible refine (HL.out _ _ _ _ (hv1.below (btn hb2 (btn hb3 (btn hb4 (btn hb5 hb6)))))).mono ?_); rintro e1 w7 ⟨rfl, rfl⟩))
  go_ret3
  refine ⟨ret_rnd ?_ ?_ ?_, btn hb1 (btn hb2 (btn hb3 (btn hb4 (btn hb5 hb6))))⟩
  · first | rfl | omega
  · have := HEC.out; omega
  · have := HEC.out; exact decide_eq_decide.2 (by omega)
set_option maxRecDepth 100000 in
set_option maxHeartbeats 2000000 in
theorem rround24_Blo_odd0 (a : Option Addr) (n0 c0 : Nat) (w : World) (n e C t Kz : Int) (K Bk Rt Hf : Nat) (hn : 0 ≤ n ∧ n ≤ 32000) (he : -100000 ≤ e ∧ e ≤ 2100) (hcut : e + (n - 24) < (-149)) (ec : (-149) - e = C) (hC : 0 < C ∧ C ≤ 40000) (hK : 0 ≤ Kz ∧ Kz ≤ 16777216) (ht : t = 0) (ho : (bits .and .u64 Kz 1 == 1) = true) (hz : (Kz + 1 == 16777216) = false)
    (HB : Hid (Calls Try.prog 77 #[.slice a n0 c0] w fun e w' => e = .returned (.int .i64 n) ∧ w = w'))
    (HS1 : Hid (Calls Try.prog 78 #[.slice a n0 c0, .int .i64 (-C)] w (OneOk w K)))
    (HS2 : Hid (∀ (w1 : World) (a1 : Option Addr) (n1 c1 : Nat), Nw w1 (.slice a1 n1 c1) K → Calls Try.prog 78 #[.slice a1 n1 c1, .int .i64 C] w1 (OneOk w1 Bk)))
    (HSub : Hid (∀ (w1 : World) (a1 : Option Addr) (n1 c1 : Nat), Below w.heap.size w w1 → Nw w1 (.slice a1 n1 c1) Bk → Calls Try.prog 87 #[.slice a n0 c0, .slice a1 n1 c1] w1 (OneOk w1 Rt)))
    (HOf : Hid (∀ w1, Calls Try.prog 83 #[.int .u64 1] w1 (One w1 1)))
    (HS3 : Hid (∀ (w1 : World) (a1 : Option Addr) (n1 c1 : Nat), Nw w1 (.slice a1 n1 c1) 1 → Calls Try.prog 78 #[.slice a1 n1 c1, .int .i64 (C - 1)] w1 (OneOk w1 Hf)))
    (HC : Hid (∀ (w1 : World) (a1 : Option Addr) (n1 c1 : Nat) (a2 : Option Addr) (n2 c2 : Nat), Nw w1 (.slice a1 n1 c1) Rt → Nw w1 (.slice a2 n2 c2) Hf → Calls Try.prog 81 #[.slice a1 n1 c1, .slice a2 n2 c2] w1 fun e w' => e = .returned (.int .i64 t) ∧ Below w1.heap.size w1 w'))
    (HL : Hid (∀ (w1 : World) (a1 : Option Addr) (n1 c1 : Nat), Nw w1 (.slice a1 n1 c1) K → Calls Try.prog 102 #[.slice a1 n1 c1] w1 fun e w' => e = .returned (.int .u64 Kz) ∧ w1 = w')) :
    Calls Try.prog 98 #[.slice a n0 c0, .int .i64 e, .int .i64 24, .int .i64 (-149), .int .i64 104] w fun x w' => x = .returned (.tuple #[.int .u64 (Kz + 1), .int .i64 (e + C), .bool (decide (104 < e + C))]) ∧ Below w.heap.size w w' := by
  have HEC := Lib.hid ec
  go_enter Try.func98, Try.ntmps98
  go_wp2_with (first
    | (go_at_call 77; (with_reducible refine (HB.out).mono ?_); rintro e1 w1 ⟨rfl, rfl⟩)
    | (go_at_call 78; (with_reducible refine (HS1.out).mono ?_); rintro e1 w1 ⟨a1, n1, c1, rfl, hv1, hb1⟩)
    | (go_at_call 78; (with_reducible refine (HS2.out _ _ _ _ hv1).mono ?_); rintro e1 w2 ⟨a2, n2, c2, rfl, hv2, hb2⟩)
    | (go_at_call 87; (with_reducible refine (HSub.out _ _ _ _ (btn hb1 hb2) hv2).mono ?_); rintro e1 w3 ⟨a3, n3, c3, rfl, hv3, hb3⟩)
    | (go_at_call 83; (with_reducible refine (HOf.out _).mono ?_); rintro e1 w4 ⟨a4, n4, c4, rfl, hv4, hb4⟩)
    | (go_at_call 78; (with_reducible refine (HS3.out _ _ _ _ hv4).mono ?_); rintro e1 w5 ⟨a5, n5, c5, rfl, hv5, hb5⟩)
    | (go_at_call 81; (with_reducible refine (HC.out _ _ _ _ _ _ _ (hv3.below (btn hb4 hb5)) hv5).mono ?_); rintro e1 w6 ⟨rfl, hb6⟩)
    | (go_at_call 102; (with_reducible refine (HL.out _ _ _ _ (hv1.below (btn hb2 (btn hb3 (btn hb4 (btn hb5 hb6)))))).mono ?_); rintro e1 w7 ⟨rfl, rfl⟩))
  go_ret3
  refine ⟨ret_rnd ?_ ?_ ?_, btn hb1 (btn hb2 (btn hb3 (btn hb4 (btn hb5 hb6))))⟩
  · first | rfl | omega
  · have := HEC.out; omega
  · have := HEC.out; exact decide_eq_decide.2 (by omega)
set_option maxRecDepth 100000 in
set_option maxHeartbeats 2000000 in
theorem rround24_Blo_odd1 (a : Option Addr) (n0 c0 : Nat) (w : World) (n e C t Kz : Int) (K Bk Rt Hf : Nat) (hn : 0 ≤ n ∧ n ≤ 32000) (he : -100000 ≤ e ∧ e ≤ 2100) (hcut : e + (n - 24) < (-149)) (ec : (-149) - e = C) (hC : 0 < C ∧ C ≤ 40000) (hK : 0 ≤ Kz ∧ Kz ≤ 16777216) (ht : t = 0) (ho : (bits .and .u64 Kz 1 == 1) = true) (hz : (Kz + 1 == 16777216) = true)
    (HB : Hid (Calls Try.prog 77 #[.slice a n0 c0] w fun e w' => e = .returned (.int .i64 n) ∧ w = w'))
    (HS1 : Hid (Calls Try.prog 78 #[.slice a n0 c0, .int .i64 (-C)] w (OneOk w K)))
    (HS2 : Hid (∀ (w1 : World) (a1 : Option Addr) (n1 c1 : Nat), Nw w1 (.slice a1 n1 c1) K → Calls Try.prog 78 #[.slice a1 n1 c1, .int .i64 C] w1 (OneOk w1 Bk)))
    (HSub : Hid (∀ (w1 : World) (a1 : Option Addr) (n1 c1 : Nat), Below w.heap.size w w1 → Nw w1 (.slice a1 n1 c1) Bk → Calls Try.prog 87 #[.slice a n0 c0, .slice a1 n1 c1] w1 (OneOk w1 Rt)))
    (HOf : Hid (∀ w1, Calls Try.prog 83 #[.int .u64 1] w1 (One w1 1)))
    (HS3 : Hid (∀ (w1 : World) (a1 : Option Addr) (n1 c1 : Nat), Nw w1 (.slice a1 n1 c1) 1 → Calls Try.prog 78 #[.slice a1 n1 c1, .int .i64 (C - 1)] w1 (OneOk w1 Hf)))
    (HC : Hid (∀ (w1 : World) (a1 : Option Addr) (n1 c1 : Nat) (a2 : Option Addr) (n2 c2 : Nat), Nw w1 (.slice a1 n1 c1) Rt → Nw w1 (.slice a2 n2 c2) Hf → Calls Try.prog 81 #[.slice a1 n1 c1, .slice a2 n2 c2] w1 fun e w' => e = .returned (.int .i64 t) ∧ Below w1.heap.size w1 w'))
    (HL : Hid (∀ (w1 : World) (a1 : Option Addr) (n1 c1 : Nat), Nw w1 (.slice a1 n1 c1) K → Calls Try.prog 102 #[.slice a1 n1 c1] w1 fun e w' => e = .returned (.int .u64 Kz) ∧ w1 = w')) :
    Calls Try.prog 98 #[.slice a n0 c0, .int .i64 e, .int .i64 24, .int .i64 (-149), .int .i64 104] w fun x w' => x = .returned (.tuple #[.int .u64 ((Kz + 1) / 2), .int .i64 (e + C + 1), .bool (decide (104 < e + C + 1))]) ∧ Below w.heap.size w w' := by
  have HEC := Lib.hid ec
  go_enter Try.func98, Try.ntmps98
  go_wp2_with (first
    | (go_at_call 77; (with_reducible refine (HB.out).mono ?_); rintro e1 w1 ⟨rfl, rfl⟩)
    | (go_at_call 78; (with_reducible refine (HS1.out).mono ?_); rintro e1 w1 ⟨a1, n1, c1, rfl, hv1, hb1⟩)
    | (go_at_call 78; (with_reducible refine (HS2.out _ _ _ _ hv1).mono ?_); rintro e1 w2 ⟨a2, n2, c2, rfl, hv2, hb2⟩)
    | (go_at_call 87; (with_reducible refine (HSub.out _ _ _ _ (btn hb1 hb2) hv2).mono ?_); rintro e1 w3 ⟨a3, n3, c3, rfl, hv3, hb3⟩)
    | (go_at_call 83; (with_reducible refine (HOf.out _).mono ?_); rintro e1 w4 ⟨a4, n4, c4, rfl, hv4, hb4⟩)
    | (go_at_call 78; (with_reducible refine (HS3.out _ _ _ _ hv4).mono ?_); rintro e1 w5 ⟨a5, n5, c5, rfl, hv5, hb5⟩)
    | (go_at_call 81; (with_reducible refine (HC.out _ _ _ _ _ _ _ (hv3.below (btn hb4 hb5)) hv5).mono ?_); rintro e1 w6 ⟨rfl, hb6⟩)
    | (go_at_call 102; (with_reducible refine (HL.out _ _ _ _ (hv1.below (btn hb2 (btn hb3 (btn hb4 (btn hb5 hb6)))))).mono ?_); rintro e1 w7 ⟨rfl, rfl⟩))
  go_ret3
  refine ⟨ret_rnd ?_ ?_ ?_, btn hb1 (btn hb2 (btn hb3 (btn hb4 (btn hb5 hb6))))⟩
  · first | rfl | omega
  · have := HEC.out; omega
  · have := HEC.out; exact decide_eq_decide.2 (by omega)
set_option maxRecDepth 100000 in
set_option maxHeartbeats 2000000 in
theorem rround24_Blo_even0 (a : Option Addr) (n0 c0 : Nat) (w : World) (n e C t Kz : Int) (K Bk Rt Hf : Nat) (hn : 0 ≤ n ∧ n ≤ 32000) (he : -100000 ≤ e ∧ e ≤ 2100) (hcut : e + (n - 24) < (-149)) (ec : (-149) - e = C) (hC : 0 < C ∧ C ≤ 40000) (hK : 0 ≤ Kz ∧ Kz ≤ 16777216) (ht : t = 0) (ho : (bits .and .u64 Kz 1 == 1) = false) (hz : (Kz == 16777216) = false)
    (HB : Hid (Calls Try.prog 77 #[.slice a n0 c0] w fun e w' => e = .returned (.int .i64 n) ∧ w = w'))
    (HS1 : Hid (Calls Try.prog 78 #[.slice a n0 c0, .int .i64 (-C)] w (OneOk w K)))
    (HS2 : Hid (∀ (w1 : World) (a1 : Option Addr) (n1 c1 : Nat), Nw w1 (.slice a1 n1 c1) K → Calls Try.prog 78 #[.slice a1 n1 c1, .int .i64 C] w1 (OneOk w1 Bk)))
    (HSub : Hid (∀ (w1 : World) (a1 : Option Addr) (n1 c1 : Nat), Below w.heap.size w w1 → Nw w1 (.slice a1 n1 c1) Bk → Calls Try.prog 87 #[.slice a n0 c0, .slice a1 n1 c1] w1 (OneOk w1 Rt)))
    (HOf : Hid (∀ w1, Calls Try.prog 83 #[.int .u64 1] w1 (One w1 1)))
    (HS3 : Hid (∀ (w1 : World) (a1 : Option Addr) (n1 c1 : Nat), Nw w1 (.slice a1 n1 c1) 1 → Calls Try.prog 78 #[.slice a1 n1 c1, .int .i64 (C - 1)] w1 (OneOk w1 Hf)))
    (HC : Hid (∀ (w1 : World) (a1 : Option Addr) (n1 c1 : Nat) (a2 : Option Addr) (n2 c2 : Nat), Nw w1 (.slice a1 n1 c1) Rt → Nw w1 (.slice a2 n2 c2) Hf → Calls Try.prog 81 #[.slice a1 n1 c1, .slice a2 n2 c2] w1 fun e w' => e = .returned (.int .i64 t) ∧ Below w1.heap.size w1 w'))
    (HL : Hid (∀ (w1 : World) (a1 : Option Addr) (n1 c1 : Nat), Nw w1 (.slice a1 n1 c1) K → Calls Try.prog 102 #[.slice a1 n1 c1] w1 fun e w' => e = .returned (.int .u64 Kz) ∧ w1 = w')) :
    Calls Try.prog 98 #[.slice a n0 c0, .int .i64 e, .int .i64 24, .int .i64 (-149), .int .i64 104] w fun x w' => x = .returned (.tuple #[.int .u64 (Kz), .int .i64 (e + C), .bool (decide (104 < e + C))]) ∧ Below w.heap.size w w' := by
  have HEC := Lib.hid ec
  go_enter Try.func98, Try.ntmps98
  go_wp2_with (first
    | (go_at_call 77; (with_reducible refine (HB.out).mono ?_); rintro e1 w1 ⟨rfl, rfl⟩)
    | (go_at_call 78; (with_reducible refine (HS1.out).mono ?_); rintro e1 w1 ⟨a1, n1, c1, rfl, hv1, hb1⟩)
    | (go_at_call 78; (with_reducible refine (HS2.out _ _ _ _ hv1).mono ?_); rintro e1 w2 ⟨a2, n2, c2, rfl, hv2, hb2⟩)
    | (go_at_call 87; (with_reducible refine (HSub.out _ _ _ _ (btn hb1 hb2) hv2).mono ?_); rintro e1 w3 ⟨a3, n3, c3, rfl, hv3, hb3⟩)
    | (go_at_call 83; (with_reducible refine (HOf.out _).mono ?_); rintro e1 w4 ⟨a4, n4, c4, rfl, hv4, hb4⟩)
    | (go_at_call 78; (with_reducible refine (HS3.out _ _ _ _ hv4).mono ?_); rintro e1 w5 ⟨a5, n5, c5, rfl, hv5, hb5⟩)
    | (go_at_call 81; (with_reducible refine (HC.out _ _ _ _ _ _ _ (hv3.below (btn hb4 hb5)) hv5).mono ?_); rintro e1 w6 ⟨rfl, hb6⟩)
    | (go_at_call 102; (with_reducible refine (HL.out _ _ _ _ (hv1.below (btn hb2 (btn hb3 (btn hb4 (btn hb5 hb6)))))).mono ?_); rintro e1 w7 ⟨rfl, rfl⟩))
  go_ret3
  refine ⟨ret_rnd ?_ ?_ ?_, btn hb1 (btn hb2 (btn hb3 (btn hb4 (btn hb5 hb6))))⟩
  · first | rfl | omega
  · have := HEC.out; omega
  · have := HEC.out; exact decide_eq_decide.2 (by omega)
set_option maxRecDepth 100000 in
set_option maxHeartbeats 2000000 in
theorem rround24_Blo_even1 (a : Option Addr) (n0 c0 : Nat) (w : World) (n e C t Kz : Int) (K Bk Rt Hf : Nat) (hn : 0 ≤ n ∧ n ≤ 32000) (he : -100000 ≤ e ∧ e ≤ 2100) (hcut : e + (n - 24) < (-149)) (ec : (-149) - e = C) (hC : 0 < C ∧ C ≤ 40000) (hK : 0 ≤ Kz ∧ Kz ≤ 16777216) (ht : t = 0) (ho : (bits .and .u64 Kz 1 == 1) = false) (hz : (Kz == 16777216) = true)
    (HB : Hid (Calls Try.prog 77 #[.slice a n0 c0] w fun e w' => e = .returned (.int .i64 n) ∧ w = w'))
    (HS1 : Hid (Calls Try.prog 78 #[.slice a n0 c0, .int .i64 (-C)] w (OneOk w K)))
    (HS2 : Hid (∀ (w1 : World) (a1 : Option Addr) (n1 c1 : Nat), Nw w1 (.slice a1 n1 c1) K → Calls Try.prog 78 #[.slice a1 n1 c1, .int .i64 C] w1 (OneOk w1 Bk)))
    (HSub : Hid (∀ (w1 : World) (a1 : Option Addr) (n1 c1 : Nat), Below w.heap.size w w1 → Nw w1 (.slice a1 n1 c1) Bk → Calls Try.prog 87 #[.slice a n0 c0, .slice a1 n1 c1] w1 (OneOk w1 Rt)))
    (HOf : Hid (∀ w1, Calls Try.prog 83 #[.int .u64 1] w1 (One w1 1)))
    (HS3 : Hid (∀ (w1 : World) (a1 : Option Addr) (n1 c1 : Nat), Nw w1 (.slice a1 n1 c1) 1 → Calls Try.prog 78 #[.slice a1 n1 c1, .int .i64 (C - 1)] w1 (OneOk w1 Hf)))
    (HC : Hid (∀ (w1 : World) (a1 : Option Addr) (n1 c1 : Nat) (a2 : Option Addr) (n2 c2 : Nat), Nw w1 (.slice a1 n1 c1) Rt → Nw w1 (.slice a2 n2 c2) Hf → Calls Try.prog 81 #[.slice a1 n1 c1, .slice a2 n2 c2] w1 fun e w' => e = .returned (.int .i64 t) ∧ Below w1.heap.size w1 w'))
    (HL : Hid (∀ (w1 : World) (a1 : Option Addr) (n1 c1 : Nat), Nw w1 (.slice a1 n1 c1) K → Calls Try.prog 102 #[.slice a1 n1 c1] w1 fun e w' => e = .returned (.int .u64 Kz) ∧ w1 = w')) :
    Calls Try.prog 98 #[.slice a n0 c0, .int .i64 e, .int .i64 24, .int .i64 (-149), .int .i64 104] w fun x w' => x = .returned (.tuple #[.int .u64 ((Kz) / 2), .int .i64 (e + C + 1), .bool (decide (104 < e + C + 1))]) ∧ Below w.heap.size w w' := by
  have HEC := Lib.hid ec
  go_enter Try.func98, Try.ntmps98
  go_wp2_with (first
    | (go_at_call 77; (with_reducible refine (HB.out).mono ?_); rintro e1 w1 ⟨rfl, rfl⟩)
    | (go_at_call 78; (with_reducible refine (HS1.out).mono ?_); rintro e1 w1 ⟨a1, n1, c1, rfl, hv1, hb1⟩)
    | (go_at_call 78; (with_reducible refine (HS2.out _ _ _ _ hv1).mono ?_); rintro e1 w2 ⟨a2, n2, c2, rfl, hv2, hb2⟩)
    | (go_at_call 87; (with_reducible refine (HSub.out _ _ _ _ (btn hb1 hb2) hv2).mono ?_); rintro e1 w3 ⟨a3, n3, c3, rfl, hv3, hb3⟩)
    | (go_at_call 83; (with_reducible refine (HOf.out _).mono ?_); rintro e1 w4 ⟨a4, n4, c4, rfl, hv4, hb4⟩)
    | (go_at_call 78; (with_reducible refine (HS3.out _ _ _ _ hv4).mono ?_); rintro e1 w5 ⟨a5, n5, c5, rfl, hv5, hb5⟩)
    | (go_at_call 81; (with_reducible refine (HC.out _ _ _ _ _ _ _ (hv3.below (btn hb4 hb5)) hv5).mono ?_); rintro e1 w6 ⟨rfl, hb6⟩)
    | (go_at_call 102; (with_reducible refine (HL.out _ _ _ _ (hv1.below (btn hb2 (btn hb3 (btn hb4 (btn hb5 hb6)))))).mono ?_); rintro e1 w7 ⟨rfl, rfl⟩))
  go_ret3
  refine ⟨ret_rnd ?_ ?_ ?_, btn hb1 (btn hb2 (btn hb3 (btn hb4 (btn hb5 hb6))))⟩
  · first | rfl | omega
  · have := HEC.out; omega
  · have := HEC.out; exact decide_eq_decide.2 (by omega)
set_option maxRecDepth 100000 in
set_option maxHeartbeats 2000000 in
theorem rround24_Blo_lt0 (a : Option Addr) (n0 c0 : Nat) (w : World) (n e C t Kz : Int) (K Bk Rt Hf : Nat) (hn : 0 ≤ n ∧ n ≤ 32000) (he : -100000 ≤ e ∧ e ≤ 2100) (hcut : e + (n - 24) < (-149)) (ec : (-149) - e = C) (hC : 0 < C ∧ C ≤ 40000) (hK : 0 ≤ Kz ∧ Kz ≤ 16777216) (ht : t < 0) (hz : (Kz == 16777216) = false)
    (HB : Hid (Calls Try.prog 77 #[.slice a n0 c0] w fun e w' => e = .returned (.int .i64 n) ∧ w = w'))
    (HS1 : Hid (Calls Try.prog 78 #[.slice a n0 c0, .int .i64 (-C)] w (OneOk w K)))
    (HS2 : Hid (∀ (w1 : World) (a1 : Option Addr) (n1 c1 : Nat), Nw w1 (.slice a1 n1 c1) K → Calls Try.prog 78 #[.slice a1 n1 c1, .int .i64 C] w1 (OneOk w1 Bk)))
    (HSub : Hid (∀ (w1 : World) (a1 : Option Addr) (n1 c1 : Nat), Below w.heap.size w w1 → Nw w1 (.slice a1 n1 c1) Bk → Calls Try.prog 87 #[.slice a n0 c0, .slice a1 n1 c1] w1 (OneOk w1 Rt)))
    (HOf : Hid (∀ w1, Calls Try.prog 83 #[.int .u64 1] w1 (One w1 1)))
    (HS3 : Hid (∀ (w1 : World) (a1 : Option Addr) (n1 c1 : Nat), Nw w1 (.slice a1 n1 c1) 1 → Calls Try.prog 78 #[.slice a1 n1 c1, .int .i64 (C - 1)] w1 (OneOk w1 Hf)))
    (HC : Hid (∀ (w1 : World) (a1 : Option Addr) (n1 c1 : Nat) (a2 : Option Addr) (n2 c2 : Nat), Nw w1 (.slice a1 n1 c1) Rt → Nw w1 (.slice a2 n2 c2) Hf → Calls Try.prog 81 #[.slice a1 n1 c1, .slice a2 n2 c2] w1 fun e w' => e = .returned (.int .i64 t) ∧ Below w1.heap.size w1 w'))
    (HL : Hid (∀ (w1 : World) (a1 : Option Addr) (n1 c1 : Nat), Nw w1 (.slice a1 n1 c1) K → Calls Try.prog 102 #[.slice a1 n1 c1] w1 fun e w' => e = .returned (.int .u64 Kz) ∧ w1 = w')) :
    Calls Try.prog 98 #[.slice a n0 c0, .int .i64 e, .int .i64 24, .int .i64 (-149), .int .i64 104] w fun x w' => x = .returned (.tuple #[.int .u64 (Kz), .int .i64 (e + C), .bool (decide (104 < e + C))]) ∧ Below w.heap.size w w' := by
  have HEC := Lib.hid ec
  go_enter Try.func98, Try.ntmps98
  go_wp2_with (first
    | (go_at_call 77; (with_reducible refine (HB.out).mono ?_); rintro e1 w1 ⟨rfl, rfl⟩)
    | (go_at_call 78; (with_reducible refine (HS1.out).mono ?_); rintro e1 w1 ⟨a1, n1, c1, rfl, hv1, hb1⟩)
    | (go_at_call 78; (with_reducible refine (HS2.out _ _ _ _ hv1).mono ?_); rintro e1 w2 ⟨a2, n2, c2, rfl, hv2, hb2⟩)
    | (go_at_call 87; (with_reducible refine (HSub.out _ _ _ _ (btn hb1 hb2) hv2).mono ?_); rintro e1 w3 ⟨a3, n3, c3, rfl, hv3, hb3⟩)
    | (go_at_call 83; (with_reducible refine (HOf.out _).mono ?_); rintro e1 w4 ⟨a4, n4, c4, rfl, hv4, hb4⟩)
    | (go_at_call 78; (with_reducible refine (HS3.out _ _ _ _ hv4).mono ?_); rintro e1 w5 ⟨a5, n5, c5, rfl, hv5, hb5⟩)
    | (go_at_call 81; (with_reducible refine (HC.out _ _ _ _ _ _ _ (hv3.below (btn hb4 hb5)) hv5).mono ?_); rintro e1 w6 ⟨rfl, hb6⟩)
    | (go_at_call 102; (with_reducible refine (HL.out _ _ _ _ (hv1.below (btn hb2 (btn hb3 (btn hb4 (btn hb5 hb6)))))).mono ?_); rintro e1 w7 ⟨rfl, rfl⟩))
  go_ret3
  refine ⟨ret_rnd ?_ ?_ ?_, btn hb1 (btn hb2 (btn hb3 (btn hb4 (btn hb5 hb6))))⟩
  · first | rfl | omega
  · have := HEC.out; omega
  · have := HEC.out; exact decide_eq_decide.2 (by omega)
set_option maxRecDepth 100000 in
set_option maxHeartbeats 2000000 in
theorem rround24_Blo_lt1 (a : Option Addr) (n0 c0 : Nat) (w : World) (n e C t Kz : Int) (K Bk Rt Hf : Nat) (hn : 0 ≤ n ∧ n ≤ 32000) (he : -100000 ≤ e ∧ e ≤ 2100) (hcut : e + (n - 24) < (-149)) (ec : (-149) - e = C) (hC : 0 < C ∧ C ≤ 40000) (hK : 0 ≤ Kz ∧ Kz ≤ 16777216) (ht : t < 0) (hz : (Kz == 16777216) = true)
    (HB : Hid (Calls Try.prog 77 #[.slice a n0 c0] w fun e w' => e = .returned (.int .i64 n) ∧ w = w'))
    (HS1 : Hid (Calls Try.prog 78 #[.slice a n0 c0, .int .i64 (-C)] w (OneOk w K)))
    (HS2 : Hid (∀ (w1 : World) (a1 : Option Addr) (n1 c1 : Nat), Nw w1 (.slice a1 n1 c1) K → Calls Try.prog 78 #[.slice a1 n1 c1, .int .i64 C] w1 (OneOk w1 Bk)))
    (HSub : Hid (∀ (w1 : World) (a1 : Option Addr) (n1 c1 : Nat), Below w.heap.size w w1 → Nw w1 (.slice a1 n1 c1) Bk → Calls Try.prog 87 #[.slice a n0 c0, .slice a1 n1 c1] w1 (OneOk w1 Rt)))
    (HOf : Hid (∀ w1, Calls Try.prog 83 #[.int .u64 1] w1 (One w1 1)))
    (HS3 : Hid (∀ (w1 : World) (a1 : Option Addr) (n1 c1 : Nat), Nw w1 (.slice a1 n1 c1) 1 → Calls Try.prog 78 #[.slice a1 n1 c1, .int .i64 (C - 1)] w1 (OneOk w1 Hf)))
    (HC : Hid (∀ (w1 : World) (a1 : Option Addr) (n1 c1 : Nat) (a2 : Option Addr) (n2 c2 : Nat), Nw w1 (.slice a1 n1 c1) Rt → Nw w1 (.slice a2 n2 c2) Hf → Calls Try.prog 81 #[.slice a1 n1 c1, .slice a2 n2 c2] w1 fun e w' => e = .returned (.int .i64 t) ∧ Below w1.heap.size w1 w'))
    (HL : Hid (∀ (w1 : World) (a1 : Option Addr) (n1 c1 : Nat), Nw w1 (.slice a1 n1 c1) K → Calls Try.prog 102 #[.slice a1 n1 c1] w1 fun e w' => e = .returned (.int .u64 Kz) ∧ w1 = w')) :
    Calls Try.prog 98 #[.slice a n0 c0, .int .i64 e, .int .i64 24, .int .i64 (-149), .int .i64 104] w fun x w' => x = .returned (.tuple #[.int .u64 ((Kz) / 2), .int .i64 (e + C + 1), .bool (decide (104 < e + C + 1))]) ∧ Below w.heap.size w w' := by
  have HEC := Lib.hid ec
  go_enter Try.func98, Try.ntmps98
  go_wp2_with (first
    | (go_at_call 77; (with_reducible refine (HB.out).mono ?_); rintro e1 w1 ⟨rfl, rfl⟩)
    | (go_at_call 78; (with_reducible refine (HS1.out).mono ?_); rintro e1 w1 ⟨a1, n1, c1, rfl, hv1, hb1⟩)
    | (go_at_call 78; (with_reducible refine (HS2.out _ _ _ _ hv1).mono ?_); rintro e1 w2 ⟨a2, n2, c2, rfl, hv2, hb2⟩)
    | (go_at_call 87; (with_reducible refine (HSub.out _ _ _ _ (btn hb1 hb2) hv2).mono ?_); rintro e1 w3 ⟨a3, n3, c3, rfl, hv3, hb3⟩)
    | (go_at_call 83; (with_reducible refine (HOf.out _).mono ?_); rintro e1 w4 ⟨a4, n4, c4, rfl, hv4, hb4⟩)
    | (go_at_call 78; (with_reducible refine (HS3.out _ _ _ _ hv4).mono ?_); rintro e1 w5 ⟨a5, n5, c5, rfl, hv5, hb5⟩)
    | (go_at_call 81; (with_reducible refine (HC.out _ _ _ _ _ _ _ (hv3.below (btn hb4 hb5)) hv5).mono ?_); rintro e1 w6 ⟨rfl, hb6⟩)
    | (go_at_call 102; (with_reducible refine (HL.out _ _ _ _ (hv1.below (btn hb2 (btn hb3 (btn hb4 (btn hb5 hb6)))))).mono ?_); rintro e1 w7 ⟨rfl, rfl⟩))
  go_ret3
  refine ⟨ret_rnd ?_ ?_ ?_, btn hb1 (btn hb2 (btn hb3 (btn hb4 (btn hb5 hb6))))⟩
  · first | rfl | omega
  · have := HEC.out; omega
  · have := HEC.out; exact decide_eq_decide.2 (by omega)
set_option maxRecDepth 100000 in
set_option maxHeartbeats 2000000 in
theorem rround24_Bhi_gt0 (a : Option Addr) (n0 c0 : Nat) (w : World) (n e C t Kz : Int) (K Bk Rt Hf : Nat) (hn : 0 ≤ n ∧ n ≤ 32000) (he : -100000 ≤ e ∧ e ≤ 2100) (hcut : (-149) ≤ e + (n - 24)) (ec : n - 24 = C) (hC : 0 < C ∧ C ≤ 40000) (hK : 0 ≤ Kz ∧ Kz ≤ 16777216) (ht : 0 < t) (hz : (Kz + 1 == 16777216) = false)
    (HB : Hid (Calls Try.prog 77 #[.slice a n0 c0] w fun e w' => e = .returned (.int .i64 n) ∧ w = w'))
    (HS1 : Hid (Calls Try.prog 78 #[.slice a n0 c0, .int .i64 (-C)] w (OneOk w K)))
    (HS2 : Hid (∀ (w1 : World) (a1 : Option Addr) (n1 c1 : Nat), Nw w1 (.slice a1 n1 c1) K → Calls Try.prog 78 #[.slice a1 n1 c1, .int .i64 C] w1 (OneOk w1 Bk)))
    (HSub : Hid (∀ (w1 : World) (a1 : Option Addr) (n1 c1 : Nat), Below w.heap.size w w1 → Nw w1 (.slice a1 n1 c1) Bk → Calls Try.prog 87 #[.slice a n0 c0, .slice a1 n1 c1] w1 (OneOk w1 Rt)))
    (HOf : Hid (∀ w1, Calls Try.prog 83 #[.int .u64 1] w1 (One w1 1)))
    (HS3 : Hid (∀ (w1 : World) (a1 : Option Addr) (n1 c1 : Nat), Nw w1 (.slice a1 n1 c1) 1 → Calls Try.prog 78 #[.slice a1 n1 c1, .int .i64 (C - 1)] w1 (OneOk w1 Hf)))
    (HC : Hid (∀ (w1 : World) (a1 : Option Addr) (n1 c1 : Nat) (a2 : Option Addr) (n2 c2 : Nat), Nw w1 (.slice a1 n1 c1) Rt → Nw w1 (.slice a2 n2 c2) Hf → Calls Try.prog 81 #[.slice a1 n1 c1, .slice a2 n2 c2] w1 fun e w' => e = .returned (.int .i64 t) ∧ Below w1.heap.size w1 w'))
    (HL : Hid (∀ (w1 : World) (a1 : Option Addr) (n1 c1 : Nat), Nw w1 (.slice a1 n1 c1) K → Calls Try.prog 102 #[.slice a1 n1 c1] w1 fun e w' => e = .returned (.int .u64 Kz) ∧ w1 = w')) :
    Calls Try.prog 98 #[.slice a n0 c0, .int .i64 e, .int .i64 24, .int .i64 (-149), .int .i64 104] w fun x w' => x = .returned (.tuple #[.int .u64 (Kz + 1), .int .i64 (e + C), .bool (decide (104 < e + C))]) ∧ Below w.heap.size w w' := by
  have HEC := Lib.hid ec
  go_enter Try.func98, Try.ntmps98
  go_wp2_with (first
    | (go_at_call 77; (with_reducible refine (HB.out).mono ?_); rintro e1 w1 ⟨rfl, rfl⟩)
    | (go_at_call 78; (with_reducible refine (HS1.out).mono ?_); rintro e1 w1 ⟨a1, n1, c1, rfl, hv1, hb1⟩)
    | (go_at_call 78; (with_reducible refine (HS2.out _ _ _ _ hv1).mono ?_); rintro e1 w2 ⟨a2, n2, c2, rfl, hv2, hb2⟩)
    | (go_at_call 87; (with_reducible refine (HSub.out _ _ _ _ (btn hb1 hb2) hv2).mono ?_); rintro e1 w3 ⟨a3, n3, c3, rfl, hv3, hb3⟩)
    | (go_at_call 83; (with_reducible refine (HOf.out _).mono ?_); rintro e1 w4 ⟨a4, n4, c4, rfl, hv4, hb4⟩)
    | (go_at_call 78; (with_reducible refine (HS3.out _ _ _ _ hv4).mono ?_); rintro e1 w5 ⟨a5, n5, c5, rfl, hv5, hb5⟩)
    | (go_at_call 81; (with_reducible refine (HC.out _ _ _ _ _ _ _ (hv3.below (btn hb4 hb5)) hv5).mono ?_); rintro e1 w6 ⟨rfl, hb6⟩)
    | (go_at_call 102; (with_reducible refine (HL.out _ _ _ _ (hv1.below (btn hb2 (btn hb3 (btn hb4 (btn hb5 hb6)))))).mono ?_); rintro e1 w7 ⟨rfl, rfl⟩))
  go_ret3
  refine ⟨ret_rnd ?_ ?_ ?_, btn hb1 (btn hb2 (btn hb3 (btn hb4 (btn hb5 hb6))))⟩
  · first | rfl | omega
  · have := HEC.out; omega
  · have := HEC.out; exact decide_eq_decide.2 (by omega)
set_option maxRecDepth 100000 in
set_option maxHeartbeats 2000000 in
theorem rround24_Bhi_gt1 (a : Option Addr) (n0 c0 : Nat) (w : World) (n e C t Kz : Int) (K Bk Rt Hf : Nat) (hn : 0 ≤ n ∧ n ≤ 32000) (he : -100000 ≤ e ∧ e ≤ 2100) (hcut : (-149) ≤ e + (n - 24)) (ec : n - 24 = C) (hC : 0 < C ∧ C ≤ 40000) (hK : 0 ≤ Kz ∧ Kz ≤ 16777216) (ht : 0 < t) (hz : (Kz + 1 == 16777216) = true)
    (HB : Hid (Calls Try.prog 77 #[.slice a n0 c0] w fun e w' => e = .returned (.int .i64 n) ∧ w = w'))
    (HS1 : Hid (Calls Try.prog 78 #[.slice a n0 c0, .int .i64 (-C)] w (OneOk w K)))
    (HS2 : Hid (∀ (w1 : World) (a1 : Option Addr) (n1 c1 : Nat), Nw w1 (.slice a1 n1 c1) K → Calls Try.prog 78 #[.slice a1 n1 c1, .int .i64 C] w1 (OneOk w1 Bk)))
    (HSub : Hid (∀ (w1 : World) (a1 : Option Addr) (n1 c1 : Nat), Below w.heap.size w w1 → Nw w1 (.slice a1 n1 c1) Bk → Calls Try.prog 87 #[.slice a n0 c0, .slice a1 n1 c1] w1 (OneOk w1 Rt)))
    (HOf : Hid (∀ w1, Calls Try.prog 83 #[.int .u64 1] w1 (One w1 1)))
    (HS3 : Hid (∀ (w1 : World) (a1 : Option Addr) (n1 c1 : Nat), Nw w1 (.slice a1 n1 c1) 1 → Calls Try.prog 78 #[.slice a1 n1 c1, .int .i64 (C - 1)] w1 (OneOk w1 Hf)))
    (HC : Hid (∀ (w1 : World) (a1 : Option Addr) (n1 c1 : Nat) (a2 : Option Addr) (n2 c2 : Nat), Nw w1 (.slice a1 n1 c1) Rt → Nw w1 (.slice a2 n2 c2) Hf → Calls Try.prog 81 #[.slice a1 n1 c1, .slice a2 n2 c2] w1 fun e w' => e = .returned (.int .i64 t) ∧ Below w1.heap.size w1 w'))
    (HL : Hid (∀ (w1 : World) (a1 : Option Addr) (n1 c1 : Nat), Nw w1 (.slice a1 n1 c1) K → Calls Try.prog 102 #[.slice a1 n1 c1] w1 fun e w' => e = .returned (.int .u64 Kz) ∧ w1 = w')) :
    Calls Try.prog 98 #[.slice a n0 c0, .int .i64 e, .int .i64 24, .int .i64 (-149), .int .i64 104] w fun x w' => x = .returned (.tuple #[.int .u64 ((Kz + 1) / 2), .int .i64 (e + C + 1), .bool (decide (104 < e + C + 1))]) ∧ Below w.heap.size w w' := by
  have HEC := Lib.hid ec
  go_enter Try.func98, Try.ntmps98
  go_wp2_with (first
    | (go_at_call 77; (with_reducible refine (HB.out).mono ?_); rintro e1 w1 ⟨rfl, rfl⟩)
    | (go_at_call 78; (with_reducible refine (HS1.out).mono ?_); rintro e1 w1 ⟨a1, n1, c1, rfl, hv1, hb1⟩)
    | (go_at_call 78; (with_reducible refine (HS2.out _ _ _ _ hv1).mono ?_); rintro e1 w2 ⟨a2, n2, c2, rfl, hv2, hb2⟩)
    | (go_at_call 87; (with_reducible refine (HSub.out _ _ _ _ (btn hb1 hb2) hv2).mono ?_); rintro e1 w3 ⟨a3, n3, c3, rfl, hv3, hb3⟩)
    | (go_at_call 83; (with_reducible refine (HOf.out _).mono ?_); rintro e1 w4 ⟨a4, n4, c4, rfl, hv4, hb4⟩)
    | (go_at_call 78; (with_reducible refine (HS3.out _ _ _ _ hv4).mono ?_); rintro e1 w5 ⟨a5, n5, c5, rfl, hv5, hb5⟩)
    | (go_at_call 81; (with_reducible refine (HC.out _ _ _ _ _ _ _ (hv3.below (btn hb4 hb5)) hv5).mono ?_); rintro e1 w6 ⟨rfl, hb6⟩)
    | (go_at_call 102; (with_reducible refine (HL.out _ _ _ _ (hv1.below (btn hb2 (btn hb3 (btn hb4 (btn hb5 hb6)))))).mono ?_); rintro e1 w7 ⟨rfl, rfl⟩))
  go_ret3
  refine ⟨ret_rnd ?_ ?_ ?_, btn hb1 (btn hb2 (btn hb3 (btn hb4 (btn hb5 hb6))))⟩
  · first | rfl | omega
  · have := HEC.out; omega
  · have := HEC.out; exact decide_eq_decide.2 (by omega)
set_option maxRecDepth 100000 in
set_option maxHeartbeats 2000000 in
theorem rround24_Bhi_odd0 (a : Option Addr) (n0 c0 : Nat) (w : World) (n e C t Kz : Int) (K Bk Rt Hf : Nat) (hn : 0 ≤ n ∧ n ≤ 32000) (he : -100000 ≤ e ∧ e ≤ 2100) (hcut : (-149) ≤ e + (n - 24)) (ec : n - 24 = C) (hC : 0 < C ∧ C ≤ 40000) (hK : 0 ≤ Kz ∧ Kz ≤ 16777216) (ht : t = 0) (ho : (bits .and .u64 Kz 1 == 1) = true) (hz : (Kz + 1 == 16777216) = false)
    (HB : Hid (Calls Try.prog 77 #[.slice a n0 c0] w fun e w' => e = .returned (.int .i64 n) ∧ w = w'))
    (HS1 : Hid (Calls Try.prog 78 #[.slice a n0 c0, .int .i64 (-C)] w (OneOk w K)))
    (HS2 : Hid (∀ (w1 : World) (a1 : Option Addr) (n1 c1 : Nat), Nw w1 (.slice a1 n1 c1) K → Calls Try.prog 78 #[.slice a1 n1 c1, .int .i64 C] w1 (OneOk w1 Bk)))
    (HSub : Hid (∀ (w1 : World) (a1 : Option Addr) (n1 c1 : Nat), Below w.heap.size w w1 → Nw w1 (.slice a1 n1 c1) Bk → Calls Try.prog 87 #[.slice a n0 c0, .slice a1 n1 c1] w1 (OneOk w1 Rt)))
    (HOf : Hid (∀ w1, Calls Try.prog 83 #[.int .u64 1] w1 (One w1 1)))
    (HS3 : Hid (∀ (w1 : World) (a1 : Option Addr) (n1 c1 : Nat), Nw w1 (.slice a1 n1 c1) 1 → Calls Try.prog 78 #[.slice a1 n1 c1, .int .i64 (C - 1)] w1 (OneOk w1 Hf)))
    (HC : Hid (∀ (w1 : World) (a1 : Option Addr) (n1 c1 : Nat) (a2 : Option Addr) (n2 c2 : Nat), Nw w1 (.slice a1 n1 c1) Rt → Nw w1 (.slice a2 n2 c2) Hf → Calls Try.prog 81 #[.slice a1 n1 c1, .slice a2 n2 c2] w1 fun e w' => e = .returned (.int .i64 t) ∧ Below w1.heap.size w1 w'))
    (HL : Hid (∀ (w1 : World) (a1 : Option Addr) (n1 c1 : Nat), Nw w1 (.slice a1 n1 c1) K → Calls Try.prog 102 #[.slice a1 n1 c1] w1 fun e w' => e = .returned (.int .u64 Kz) ∧ w1 = w')) :
    Calls Try.prog 98 #[.slice a n0 c0, .int .i64 e, .int .i64 24, .int .i64 (-149), .int .i64 104] w fun x w' => x = .returned (.tuple #[.int .u64 (Kz + 1), .int .i64 (e + C), .bool (decide (104 < e + C))]) ∧ Below w.heap.size w w' := by
  have HEC := Lib.hid ec
  go_enter Try.func98, Try.ntmps98
  go_wp2_with (first
    | (go_at_call 77; (with_reducible refine (HB.out).mono ?_); rintro e1 w1 ⟨rfl, rfl⟩)
    | (go_at_call 78; (with_reducible refine (HS1.out).mono ?_); rintro e1 w1 ⟨a1, n1, c1, rfl, hv1, hb1⟩)
    | (go_at_call 78; (with_reducible refine (HS2.out _ _ _ _ hv1).mono ?_); rintro e1 w2 ⟨a2, n2, c2, rfl, hv2, hb2⟩)
    | (go_at_call 87; (with_reducible refine (HSub.out _ _ _ _ (btn hb1 hb2) hv2).mono ?_); rintro e1 w3 ⟨a3, n3, c3, rfl, hv3, hb3⟩)
    | (go_at_call 83; (with_reducible refine (HOf.out _).mono ?_); rintro e1 w4 ⟨a4, n4, c4, rfl, hv4, hb4⟩)
    | (go_at_call 78; (with_reducible refine (HS3.out _ _ _ _ hv4).mono ?_); rintro e1 w5 ⟨a5, n5, c5, rfl, hv5, hb5⟩)
    | (go_at_call 81; (with_reducible refine (HC.out _ _ _ _ _ _ _ (hv3.below (btn hb4 hb5)) hv5).mono ?_); rintro e1 w6 ⟨rfl, hb6⟩)
    | (go_at_call 102; (with_reducible refine (HL.out _ _ _ _ (hv1.below (btn hb2 (btn hb3 (btn hb4 (btn hb5 hb6)))))).mono ?_); rintro e1 w7 ⟨rfl, rfl⟩))
  go_ret3
  refine ⟨ret_rnd ?_ ?_ ?_, btn hb1 (btn hb2 (btn hb3 (btn hb4 (btn hb5 hb6))))⟩
  · first | rfl | omega
  · have := HEC.out; omega
  · have := HEC.out; exact decide_eq_decide.2 (by omega)
set_option maxRecDepth 100000 in
set_option maxHeartbeats 2000000 in
theorem rround24_Bhi_odd1 (a : Option Addr) (n0 c0 : Nat) (w : World) (n e C t Kz : Int) (K Bk Rt Hf : Nat) (hn : 0 ≤ n ∧ n ≤ 32000) (he : -100000 ≤ e ∧ e ≤ 2100) (hcut : (-149) ≤ e + (n - 24)) (ec : n - 24 = C) (hC : 0 < C ∧ C ≤ 40000) (hK : 0 ≤ Kz ∧ Kz ≤ 16777216) (ht : t = 0) (ho : (bits .and .u64 Kz 1 == 1) = true) (hz : (Kz + 1 == 16777216) = true)
    (HB : Hid (Calls Try.prog 77 #[.slice a n0 c0] w fun e w' => e = .returned (.int .i64 n) ∧ w = w'))
    (HS1 : Hid (Calls Try.prog 78 #[.slice a n0 c0, .int .i64 (-C)] w (OneOk w K)))
    (HS2 : Hid (∀ (w1 : World) (a1 : Option Addr) (n1 c1 : Nat), Nw w1 (.slice a1 n1 c1) K → Calls Try.prog 78 #[.slice a1 n1 c1, .int .i64 C] w1 (OneOk w1 Bk)))
    (HSub : Hid (∀ (w1 : World) (a1 : Option Addr) (n1 c1 : Nat), Below w.heap.size w w1 → Nw w1 (.slice a1 n1 c1) Bk → Calls Try.prog 87 #[.slice a n0 c0, .slice a1 n1 c1] w1 (OneOk w1 Rt)))
    (HOf : Hid (∀ w1, Calls Try.prog 83 #[.int .u64 1] w1 (One w1 1)))
    (HS3 : Hid (∀ (w1 : World) (a1 : Option Addr) (n1 c1 : Nat), Nw w1 (.slice a1 n1 c1) 1 → Calls Try.prog 78 #[.slice a1 n1 c1, .int .i64 (C - 1)] w1 (OneOk w1 Hf)))
    (HC : Hid (∀ (w1 : World) (a1 : Option Addr) (n1 c1 : Nat) (a2 : Option Addr) (n2 c2 : Nat), Nw w1 (.slice a1 n1 c1) Rt → Nw w1 (.slice a2 n2 c2) Hf → Calls Try.prog 81 #[.slice a1 n1 c1, .slice a2 n2 c2] w1 fun e w' => e = .returned (.int .i64 t) ∧ Below w1.heap.size w1 w'))
    (HL : Hid (∀ (w1 : World) (a1 : Option Addr) (n1 c1 : Nat), Nw w1 (.slice a1 n1 c1) K → Calls Try.prog 102 #[.slice a1 n1 c1] w1 fun e w' => e = .returned (.int .u64 Kz) ∧ w1 = w')) :
    Calls Try.prog 98 #[.slice a n0 c0, .int .i64 e, .int .i64 24, .int .i64 (-149), .int .i64 104] w fun x w' => x = .returned (.tuple #[.int .u64 ((Kz + 1) / 2), .int .i64 (e + C + 1), .bool (decide (104 < e + C + 1))]) ∧ Below w.heap.size w w' := by
  have HEC := Lib.hid ec
  go_enter Try.func98, Try.ntmps98
  go_wp2_with (first
    | (go_at_call 77; (with_reducible refine (HB.out).mono ?_); rintro e1 w1 ⟨rfl, rfl⟩)
    | (go_at_call 78; (with_reducible refine (HS1.out).mono ?_); rintro e1 w1 ⟨a1, n1, c1, rfl, hv1, hb1⟩)
    | (go_at_call 78; (with_reducible refine (HS2.out _ _ _ _ hv1).mono ?_); rintro e1 w2 ⟨a2, n2, c2, rfl, hv2, hb2⟩)
    | (go_at_call 87; (with_reducible refine (HSub.out _ _ _ _ (btn hb1 hb2) hv2).mono ?_); rintro e1 w3 ⟨a3, n3, c3, rfl, hv3, hb3⟩)
    | (go_at_call 83; (with_reducible refine (HOf.out _).mono ?_); rintro e1 w4 ⟨a4, n4, c4, rfl, hv4, hb4⟩)
    | (go_at_call 78; (with_reducible refine (HS3.out _ _ _ _ hv4).mono ?_); rintro e1 w5 ⟨a5, n5, c5, rfl, hv5, hb5⟩)
    | (go_at_call 81; (with_reducible refine (HC.out _ _ _ _ _ _ _ (hv3.below (btn hb4 hb5)) hv5).mono ?_); rintro e1 w6 ⟨rfl, hb6⟩)
    | (go_at_call 102; (with_reducible refine (HL.out _ _ _ _ (hv1.below (btn hb2 (btn hb3 (btn hb4 (btn hb5 hb6)))))).mono ?_); rintro e1 w7 ⟨rfl, rfl⟩))
  go_ret3
  refine ⟨ret_rnd ?_ ?_ ?_, btn hb1 (btn hb2 (btn hb3 (btn hb4 (btn hb5 hb6))))⟩
  · first | rfl | omega
  · have := HEC.out; omega
  · have := HEC.out; exact decide_eq_decide.2 (by omega)
set_option maxRecDepth 100000 in
set_option maxHeartbeats 2000000 in
theorem rround24_Bhi_even0 (a : Option Addr) (n0 c0 : Nat) (w : World) (n e C t Kz : Int) (K Bk Rt Hf : Nat) (hn : 0 ≤ n ∧ n ≤ 32000) (he : -100000 ≤ e ∧ e ≤ 2100) (hcut : (-149) ≤ e + (n - 24)) (ec : n - 24 = C) (hC : 0 < C ∧ C ≤ 40000) (hK : 0 ≤ Kz ∧ Kz ≤ 16777216) (ht : t = 0) (ho : (bits .and .u64 Kz 1 == 1) = false) (hz : (Kz == 16777216) = false)
    (HB : Hid (Calls Try.prog 77 #[.slice a n0 c0] w fun e w' => e = .returned (.int .i64 n) ∧ w = w'))
    (HS1 : Hid (Calls Try.prog 78 #[.slice a n0 c0, .int .i64 (-C)] w (OneOk w K)))
    (HS2 : Hid (∀ (w1 : World) (a1 : Option Addr) (n1 c1 : Nat), Nw w1 (.slice a1 n1 c1) K → Calls Try.prog 78 #[.slice a1 n1 c1, .int .i64 C] w1 (OneOk w1 Bk)))
    (HSub : Hid (∀ (w1 : World) (a1 : Option Addr) (n1 c1 : Nat), Below w.heap.size w w1 → Nw w1 (.slice a1 n1 c1) Bk → Calls Try.prog 87 #[.slice a n0 c0, .slice a1 n1 c1] w1 (OneOk w1 Rt)))
    (HOf : Hid (∀ w1, Calls Try.prog 83 #[.int .u64 1] w1 (One w1 1)))
    (HS3 : Hid (∀ (w1 : World) (a1 : Option Addr) (n1 c1 : Nat), Nw w1 (.slice a1 n1 c1) 1 → Calls Try.prog 78 #[.slice a1 n1 c1, .int .i64 (C - 1)] w1 (OneOk w1 Hf)))
    (HC : Hid (∀ (w1 : World) (a1 : Option Addr) (n1 c1 : Nat) (a2 : Option Addr) (n2 c2 : Nat), Nw w1 (.slice a1 n1 c1) Rt → Nw w1 (.slice a2 n2 c2) Hf → Calls Try.prog 81 #[.slice a1 n1 c1, .slice a2 n2 c2] w1 fun e w' => e = .returned (.int .i64 t) ∧ Below w1.heap.size w1 w'))
    (HL : Hid (∀ (w1 : World) (a1 : Option Addr) (n1 c1 : Nat), Nw w1 (.slice a1 n1 c1) K → Calls Try.prog 102 #[.slice a1 n1 c1] w1 fun e w' => e = .returned (.int .u64 Kz) ∧ w1 = w')) :
    Calls Try.prog 98 #[.slice a n0 c0, .int .i64 e, .int .i64 24, .int .i64 (-149), .int .i64 104] w fun x w' => x = .returned (.tuple #[.int .u64 (Kz), .int .i64 (e + C), .bool (decide (104 < e + C))]) ∧ Below w.heap.size w w' := by
  have HEC := Lib.hid ec
  go_enter Try.func98, Try.ntmps98
  go_wp2_with (first
    | (go_at_call 77; (with_reducible refine (HB.out).mono ?_); rintro e1 w1 ⟨rfl, rfl⟩)
    | (go_at_call 78; (with_reducible refine (HS1.out).mono ?_); rintro e1 w1 ⟨a1, n1, c1, rfl, hv1, hb1⟩)
    | (go_at_call 78; (with_reducible refine (HS2.out _ _ _ _ hv1).mono ?_); rintro e1 w2 ⟨a2, n2, c2, rfl, hv2, hb2⟩)
    | (go_at_call 87; (with_reducible refine (HSub.out _ _ _ _ (btn hb1 hb2) hv2).mono ?_); rintro e1 w3 ⟨a3, n3, c3, rfl, hv3, hb3⟩)
    | (go_at_call 83; (with_reducible refine (HOf.out _).mono ?_); rintro e1 w4 ⟨a4, n4, c4, rfl, hv4, hb4⟩)
    | (go_at_call 78; (with_reducible refine (HS3.out _ _ _ _ hv4).mono ?_); rintro e1 w5 ⟨a5, n5, c5, rfl, hv5, hb5⟩)
    | (go_at_call 81; (with_reducible refine (HC.out _ _ _ _ _ _ _ (hv3.below (btn hb4 hb5)) hv5).mono ?_); rintro e1 w6 ⟨rfl, hb6⟩)
    | (go_at_call 102; (with_reducible refine (HL.out _ _ _ _ (hv1.below (btn hb2 (btn hb3 (btn hb4 (btn hb5 hb6)))))).mono ?_); rintro e1 w7 ⟨rfl, rfl⟩))
  go_ret3
  refine ⟨ret_rnd ?_ ?_ ?_, btn hb1 (btn hb2 (btn hb3 (btn hb4 (btn hb5 hb6))))⟩
  · first | rfl | omega
  · have := HEC.out; omega
  · have := HEC.out; exact decide_eq_decide.2 (by omega)
set_option maxRecDepth 100000 in
set_option maxHeartbeats 2000000 in
theorem rround24_Bhi_even1 (a : Option Addr) (n0 c0 : Nat) (w : World) (n e C t Kz : Int) (K Bk Rt Hf : Nat) (hn : 0 ≤ n ∧ n ≤ 32000) (he : -100000 ≤ e ∧ e ≤ 2100) (hcut : (-149) ≤ e + (n - 24)) (ec : n - 24 = C) (hC : 0 < C ∧ C ≤ 40000) (hK : 0 ≤ Kz ∧ Kz ≤ 16777216) (ht : t = 0) (ho : (bits .and .u64 Kz 1 == 1) = false) (hz : (Kz == 16777216) = true)
    (HB : Hid (Calls Try.prog 77 #[.slice a n0 c0] w fun e w' => e = .returned (.int .i64 n) ∧ w = w'))
    (HS1 : Hid (Calls Try.prog 78 #[.slice a n0 c0, .int .i64 (-C)] w (OneOk w K)))
    (HS2 : Hid (∀ (w1 : World) (a1 : Option Addr) (n1 c1 : Nat), Nw w1 (.slice a1 n1 c1) K → Calls Try.prog 78 #[.slice a1 n1 c1, .int .i64 C] w1 (OneOk w1 Bk)))
    (HSub : Hid (∀ (w1 : World) (a1 : Option Addr) (n1 c1 : Nat), Below w.heap.size w w1 → Nw w1 (.slice a1 n1 c1) Bk → Calls Try.prog 87 #[.slice a n0 c0, .slice a1 n1 c1] w1 (OneOk w1 Rt)))
    (HOf : Hid (∀ w1, Calls Try.prog 83 #[.int .u64 1] w1 (One w1 1)))
    (HS3 : Hid (∀ (w1 : World) (a1 : Option Addr) (n1 c1 : Nat), Nw w1 (.slice a1 n1 c1) 1 → Calls Try.prog 78 #[.slice a1 n1 c1, .int .i64 (C - 1)] w1 (OneOk w1 Hf)))
    (HC : Hid (∀ (w1 : World) (a1 : Option Addr) (n1 c1 : Nat) (a2 : Option Addr) (n2 c2 : Nat), Nw w1 (.slice a1 n1 c1) Rt → Nw w1 (.slice a2 n2 c2) Hf → Calls Try.prog 81 #[.slice a1 n1 c1, .slice a2 n2 c2] w1 fun e w' => e = .returned (.int .i64 t) ∧ Below w1.heap.size w1 w'))
    (HL : Hid (∀ (w1 : World) (a1 : Option Addr) (n1 c1 : Nat), Nw w1 (.slice a1 n1 c1) K → Calls Try.prog 102 #[.slice a1 n1 c1] w1 fun e w' => e = .returned (.int .u64 Kz) ∧ w1 = w')) :
    Calls Try.prog 98 #[.slice a n0 c0, .int .i64 e, .int .i64 24, .int .i64 (-149), .int .i64 104] w fun x w' => x = .returned (.tuple #[.int .u64 ((Kz) / 2), .int .i64 (e + C + 1), .bool (decide (104 < e + C + 1))]) ∧ Below w.heap.size w w' := by
  have HEC := Lib.hid ec
  go_enter Try.func98, Try.ntmps98
  go_wp2_with (first
    | (go_at_call 77; (with_reducible refine (HB.out).mono ?_); rintro e1 w1 ⟨rfl, rfl⟩)
    | (go_at_call 78; (with_reducible refine (HS1.out).mono ?_); rintro e1 w1 ⟨a1, n1, c1, rfl, hv1, hb1⟩)
    | (go_at_call 78; (with_reducible refine (HS2.out _ _ _ _ hv1).mono ?_); rintro e1 w2 ⟨a2, n2, c2, rfl, hv2, hb2⟩)
    | (go_at_call 87; (with_reducible refine (HSub.out _ _ _ _ (btn hb1 hb2) hv2).mono ?_); rintro e1 w3 ⟨a3, n3, c3, rfl, hv3, hb3⟩)
    | (go_at_call 83; (with_reducible refine (HOf.out _).mono ?_); rintro e1 w4 ⟨a4, n4, c4, rfl, hv4, hb4⟩)
    | (go_at_call 78; (with_reducible refine (HS3.out _ _ _ _ hv4).mono ?_); rintro e1 w5 ⟨a5, n5, c5, rfl, hv5, hb5⟩)
    | (go_at_call 81; (with_reducible refine (HC.out _ _ _ _ _ _ _ (hv3.below (btn hb4 hb5)) hv5).mono ?_); rintro e1 w6 ⟨rfl, hb6⟩)
    | (go_at_call 102; (with_reducible refine (HL.out _ _ _ _ (hv1.below (btn hb2 (btn hb3 (btn hb4 (btn hb5 hb6)))))).mono ?_); rintro e1 w7 ⟨rfl, rfl⟩))
  go_ret3
  refine ⟨ret_rnd ?_ ?_ ?_, btn hb1 (btn hb2 (btn hb3 (btn hb4 (btn hb5 hb6))))⟩
  · first | rfl | omega
  · have := HEC.out; omega
  · have := HEC.out; exact decide_eq_decide.2 (by omega)
set_option maxRecDepth 100000 in
set_option maxHeartbeats 2000000 in
theorem rround24_Bhi_lt0 (a : Option Addr) (n0 c0 : Nat) (w : World) (n e C t Kz : Int) (K Bk Rt Hf : Nat) (hn : 0 ≤ n ∧ n ≤ 32000) (he : -100000 ≤ e ∧ e ≤ 2100) (hcut : (-149) ≤ e + (n - 24)) (ec : n - 24 = C) (hC : 0 < C ∧ C ≤ 40000) (hK : 0 ≤ Kz ∧ Kz ≤ 16777216) (ht : t < 0) (hz : (Kz == 16777216) = false)
    (HB : Hid (Calls Try.prog 77 #[.slice a n0 c0] w fun e w' => e = .returned (.int .i64 n) ∧ w = w'))
    (HS1 : Hid (Calls Try.prog 78 #[.slice a n0 c0, .int .i64 (-C)] w (OneOk w K)))
    (HS2 : Hid (∀ (w1 : World) (a1 : Option Addr) (n1 c1 : Nat), Nw w1 (.slice a1 n1 c1) K → Calls Try.prog 78 #[.slice a1 n1 c1, .int .i64 C] w1 (OneOk w1 Bk)))
    (HSub : Hid (∀ (w1 : World) (a1 : Option Addr) (n1 c1 : Nat), Below w.heap.size w w1 → Nw w1 (.slice a1 n1 c1) Bk → Calls Try.prog 87 #[.slice a n0 c0, .slice a1 n1 c1] w1 (OneOk w1 Rt)))
    (HOf : Hid (∀ w1, Calls Try.prog 83 #[.int .u64 1] w1 (One w1 1)))
    (HS3 : Hid (∀ (w1 : World) (a1 : Option Addr) (n1 c1 : Nat), Nw w1 (.slice a1 n1 c1) 1 → Calls Try.prog 78 #[.slice a1 n1 c1, .int .i64 (C - 1)] w1 (OneOk w1 Hf)))
    (HC : Hid (∀ (w1 : World) (a1 : Option Addr) (n1 c1 : Nat) (a2 : Option Addr) (n2 c2 : Nat), Nw w1 (.slice a1 n1 c1) Rt → Nw w1 (.slice a2 n2 c2) Hf → Calls Try.prog 81 #[.slice a1 n1 c1, .slice a2 n2 c2] w1 fun e w' => e = .returned (.int .i64 t) ∧ Below w1.heap.size w1 w'))
    (HL : Hid (∀ (w1 : World) (a1 : Option Addr) (n1 c1 : Nat), Nw w1 (.slice a1 n1 c1) K → Calls Try.prog 102 #[.slice a1 n1 c1] w1 fun e w' => e = .returned (.int .u64 Kz) ∧ w1 = w')) :
    Calls Try.prog 98 #[.slice a n0 c0, .int .i64 e, .int .i64 24, .int .i64 (-149), .int .i64 104] w fun x w' => x = .returned (.tuple #[.int .u64 (Kz), .int .i64 (e + C), .bool (decide (104 < e + C))]) ∧ Below w.heap.size w w' := by
  have HEC := Lib.hid ec
  go_enter Try.func98, Try.ntmps98
  go_wp2_with (first
    | (go_at_call 77; (with_reducible refine (HB.out).mono ?_); rintro e1 w1 ⟨rfl, rfl⟩)
    | (go_at_call 78; (with_reducible refine (HS1.out).mono ?_); rintro e1 w1 ⟨a1, n1, c1, rfl, hv1, hb1⟩)
    | (go_at_call 78; (with_reducible refine (HS2.out _ _ _ _ hv1).mono ?_); rintro e1 w2 ⟨a2, n2, c2, rfl, hv2, hb2⟩)
    | (go_at_call 87; (with_reducible refine (HSub.out _ _ _ _ (btn hb1 hb2) hv2).mono ?_); rintro e1 w3 ⟨a3, n3, c3, rfl, hv3, hb3⟩)
    | (go_at_call 83; (with_reducible refine (HOf.out _).mono ?_); rintro e1 w4 ⟨a4, n4, c4, rfl, hv4, hb4⟩)
    | (go_at_call 78; (with_reducible refine (HS3.out _ _ _ _ hv4).mono ?_); rintro e1 w5 ⟨a5, n5, c5, rfl, hv5, hb5⟩)
    | (go_at_call 81; (with_reducible refine (HC.out _ _ _ _ _ _ _ (hv3.below (btn hb4 hb5)) hv5).mono ?_); rintro e1 w6 ⟨rfl, hb6⟩)
    | (go_at_call 102; (with_reducible refine (HL.out _ _ _ _ (hv1.below (btn hb2 (btn hb3 (btn hb4 (btn hb5 hb6)))))).mono ?_); rintro e1 w7 ⟨rfl, rfl⟩))
  go_ret3
  refine ⟨ret_rnd ?_ ?_ ?_, btn hb1 (btn hb2 (btn hb3 (btn hb4 (btn hb5 hb6))))⟩
  · first | rfl | omega
  · have := HEC.out; omega
  · have := HEC.out; exact decide_eq_decide.2 (by omega)
set_option maxRecDepth 100000 in
set_option maxHeartbeats 2000000 in
theorem rround24_Bhi_lt1 (a : Option Addr) (n0 c0 : Nat) (w : World) (n e C t Kz : Int) (K Bk Rt Hf : Nat) (hn : 0 ≤ n ∧ n ≤ 32000) (he : -100000 ≤ e ∧ e ≤ 2100) (hcut : (-149) ≤ e + (n - 24)) (ec : n - 24 = C) (hC : 0 < C ∧ C ≤ 40000) (hK : 0 ≤ Kz ∧ Kz ≤ 16777216) (ht : t < 0) (hz : (Kz == 16777216) = true)
    (HB : Hid (Calls Try.prog 77 #[.slice a n0 c0] w fun e w' => e = .returned (.int .i64 n) ∧ w = w'))
    (HS1 : Hid (Calls Try.prog 78 #[.slice a n0 c0, .int .i64 (-C)] w (OneOk w K)))
    (HS2 : Hid (∀ (w1 : World) (a1 : Option Addr) (n1 c1 : Nat), Nw w1 (.slice a1 n1 c1) K → Calls Try.prog 78 #[.slice a1 n1 c1, .int .i64 C] w1 (OneOk w1 Bk)))
    (HSub : Hid (∀ (w1 : World) (a1 : Option Addr) (n1 c1 : Nat), Below w.heap.size w w1 → Nw w1 (.slice a1 n1 c1) Bk → Calls Try.prog 87 #[.slice a n0 c0, .slice a1 n1 c1] w1 (OneOk w1 Rt)))
    (HOf : Hid (∀ w1, Calls Try.prog 83 #[.int .u64 1] w1 (One w1 1)))
    (HS3 : Hid (∀ (w1 : World) (a1 : Option Addr) (n1 c1 : Nat), Nw w1 (.slice a1 n1 c1) 1 → Calls Try.prog 78 #[.slice a1 n1 c1, .int .i64 (C - 1)] w1 (OneOk w1 Hf)))
    (HC : Hid (∀ (w1 : World) (a1 : Option Addr) (n1 c1 : Nat) (a2 : Option Addr) (n2 c2 : Nat), Nw w1 (.slice a1 n1 c1) Rt → Nw w1 (.slice a2 n2 c2) Hf → Calls Try.prog 81 #[.slice a1 n1 c1, .slice a2 n2 c2] w1 fun e w' => e = .returned (.int .i64 t) ∧ Below w1.heap.size w1 w'))
    (HL : Hid (∀ (w1 : World) (a1 : Option Addr) (n1 c1 : Nat), Nw w1 (.slice a1 n1 c1) K → Calls Try.prog 102 #[.slice a1 n1 c1] w1 fun e w' => e = .returned (.int .u64 Kz) ∧ w1 = w')) :
    Calls Try.prog 98 #[.slice a n0 c0, .int .i64 e, .int .i64 24, .int .i64 (-149), .int .i64 104] w fun x w' => x = .returned (.tuple #[.int .u64 ((Kz) / 2), .int .i64 (e + C + 1), .bool (decide (104 < e + C + 1))]) ∧ Below w.heap.size w w' := by
  have HEC := Lib.hid ec
  go_enter Try.func98, Try.ntmps98
  go_wp2_with (first
    | (go_at_call 77; (with_reducible refine (HB.out).mono ?_); rintro e1 w1 ⟨rfl, rfl⟩)
    | (go_at_call 78; (with_reducible refine (HS1.out).mono ?_); rintro e1 w1 ⟨a1, n1, c1, rfl, hv1, hb1⟩)
    | (go_at_call 78; (with_reducible refine (HS2.out _ _ _ _ hv1).mono ?_); rintro e1 w2 ⟨a2, n2, c2, rfl, hv2, hb2⟩)
    | (go_at_call 87; (with_reducible refine (HSub.out _ _ _ _ (btn hb1 hb2) hv2).mono ?_); rintro e1 w3 ⟨a3, n3, c3, rfl, hv3, hb3⟩)
    | (go_at_call 83; (with_reducible refine (HOf.out _).mono ?_); rintro e1 w4 ⟨a4, n4, c4, rfl, hv4, hb4⟩)
    | (go_at_call 78; (with_reducible refine (HS3.out _ _ _ _ hv4).mono ?_); rintro e1 w5 ⟨a5, n5, c5, rfl, hv5, hb5⟩)
    | (go_at_call 81; (with_reducible refine (HC.out _ _ _ _ _ _ _ (hv3.below (btn hb4 hb5)) hv5).mono ?_); rintro e1 w6 ⟨rfl, hb6⟩)
    | (go_at_call 102; (with_reducible refine (HL.out _ _ _ _ (hv1.below (btn hb2 (btn hb3 (btn hb4 (btn hb5 hb6)))))).mono ?_); rintro e1 w7 ⟨rfl, rfl⟩))
  go_ret3
  refine ⟨ret_rnd ?_ ?_ ?_, btn hb1 (btn hb2 (btn hb3 (btn hb4 (btn hb5 hb6))))⟩
  · first | rfl | omega
  · have := HEC.out; omega
  · have := HEC.out; exact decide_eq_decide.2 (by omega)
end Go.Proofs.Ytecgkhijiogggaa
