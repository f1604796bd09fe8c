/- The reference's Floor, Round, Trunc, Scale, Widen, Narrow: what they compute. -/
import Derived.Test.YtecgkhijiogggaaY8
namespace Go.Proofs.Ytecgkhijiogggaa
set_option linter.unusedVariables false
set_option linter.unusedSimpArgs false
open Go.RowKit Go.Shelf SF
theorem rwhole0_c (a : Nat) (ha : W a) (w : World) : Calls Try.prog 92 #[.int .u64 a, .int .i64 0] w fun e w' => e = .returned (.int .u64 ((wholeV 0 a : Nat) : Int)) ∧ Below w.heap.size w w' := by
  have N1 := Lib.hid (risnan_c a ha)
  have I1 := Lib.hid (risinf_c a ha)
  have Z1 := Lib.hid (riszero_c a ha)
  by_cases n1 : nan a = true
  · rw [show wholeV 0 a = NaN by simp [wholeV, n1]]; rw [n1] at N1; exact rwhole_n1 a 0 N1 w
  have n1 := Bool.eq_false_iff.2 n1; rw [n1] at N1
  by_cases i1 : inf a = true
  · rw [show wholeV 0 a = a by simp [wholeV, n1, i1]]; rw [i1] at I1; exact rwhole_i1 a 0 N1 I1 w
  have i1 := Bool.eq_false_iff.2 i1; rw [i1] at I1
  by_cases z1 : zer a = true
  · rw [show wholeV 0 a = a by simp [wholeV, n1, i1, z1]]; rw [z1] at Z1; exact rwhole_z1 a 0 N1 I1 Z1 w
  have z1 := Bool.eq_false_iff.2 z1; rw [z1] at Z1
  have SA := Lib.hid (fun w => rsplit_c a ha n1 i1 w)
  by_cases he : 0 ≤ se a
  · rw [show wholeV 0 a = a by simp [wholeV, n1, i1, z1, he]]; exact rwhole_e a 0 N1 I1 Z1 _ _ _ SA he w
  have la := se_ge a
  obtain ⟨d, hd⟩ : ∃ d : Nat, -se a = ((d + 1 : Nat) : Int) := ⟨(-se a - 1).toNat, by omega⟩
  have hd4 : d + 1 ≤ 1074 := by omega
  have hv : wholeV 0 a = sg (ng a) (pat (wq 0 (ng a) (sm a) (d + 1)) 0 false) := by
    unfold wholeV
    rw [if_neg (by rw [n1]; decide), if_neg (by rw [i1, z1]; decide), if_neg he, hd, Int.toNat_natCast]
  rw [hv]
  have bA := bl_sm a
  have hback : sm a / 2 ^ (d + 1) * 2 ^ (d + 1) ≤ sm a := Nat.div_mul_le_self _ _
  have hrest : sm a - sm a / 2 ^ (d + 1) * 2 ^ (d + 1) = sm a % 2 ^ (d + 1) := by have := Nat.div_add_mod (sm a) (2 ^ (d + 1)); rw [Nat.mul_comm] at this; omega
  have bK : bl (sm a / 2 ^ (d + 1)) ≤ 53 := bl_mono' (Nat.div_le_self _ _) bA
  have bR : bl (sm a - sm a / 2 ^ (d + 1) * 2 ^ (d + 1)) ≤ 53 := bl_mono' (Nat.sub_le _ _) bA
  have b1 : bl 1 = 1 := by decide
  have bK1 : bl (sm a / 2 ^ (d + 1) + 1) ≤ 54 := bl_addb bK (by omega)
  have eE : se a = -(((d + 1 : Nat)) : Int) := by omega
  have HS1 : Hid (∀ (w1 : World) (a1 : Option Addr) (n1 c1 : Nat), Nw w1 (.slice a1 n1 c1) (sm a) → Calls Try.prog 78 #[.slice a1 n1 c1, .int .i64 (se a)] w1 (OneOk w1 (sm a / 2 ^ (d + 1)))) := fun w1 a1 n1 c1 h => by
    rw [eE]; exact rshr_n (d + 1) h (by omega) (by omega)
  have HS2 := Lib.hid (fun (w1 : World) (a1 : Option Addr) (n1 c1 : Nat) (h : Nw w1 (.slice a1 n1 c1) (sm a / 2 ^ (d + 1))) => rshl_n (d + 1) h (by omega))
  have HD := Lib.hid (fun (w1 : World) (a1 : Option Addr) (n1 c1 : Nat) (a2 : Option Addr) (n2 c2 : Nat) (h1 : Nw w1 (.slice a1 n1 c1) (sm a)) (h2 : Nw w1 (.slice a2 n2 c2) (sm a / 2 ^ (d + 1) * 2 ^ (d + 1))) => rsub_o h1 (by omega) h2 hback)
  have HMk := fun (D : Nat) (hD : bl D ≤ 54) (w1 : World) (a1 : Option Addr) (n1 c1 : Nat) (h : Nw w1 (.slice a1 n1 c1) D) => rmake_n (ng a) h (by omega) 0 (by decide)
  have HOf : Hid (∀ w1, Calls Try.prog 83 #[.int .u64 1] w1 (One w1 1)) := fun w1 => rof_n 1 w1 (W_of (by decide))
  have HA := Lib.hid (fun (w1 : World) (a1 : Option Addr) (n1 c1 : Nat) (a2 : Option Addr) (n2 c2 : Nat) (h1 : Nw w1 (.slice a1 n1 c1) (sm a / 2 ^ (d + 1))) (h2 : Nw w1 (.slice a2 n2 c2) 1) => radd_n h1 (by omega) h2 (by omega))
  have be : -1074 ≤ se a ∧ se a < 0 := by omega
  have M0 := Lib.hid (HMk (sm a / 2 ^ (d + 1)) (by omega))
  have M1 := Lib.hid (HMk (sm a / 2 ^ (d + 1) + 1) bK1)
  rw [wq_trunc]
  exact rwhole_0t a N1 I1 Z1 _ _ _ SA be _ _ hd 0 _ _ _ HS1 HS2 HD M0 w
theorem rwhole1_c (a : Nat) (ha : W a) (w : World) : Calls Try.prog 92 #[.int .u64 a, .int .i64 1] w fun e w' => e = .returned (.int .u64 ((wholeV 1 a : Nat) : Int)) ∧ Below w.heap.size w w' := by
  have N1 := Lib.hid (risnan_c a ha)
  have I1 := Lib.hid (risinf_c a ha)
  have Z1 := Lib.hid (riszero_c a ha)
  by_cases n1 : nan a = true
  · rw [show wholeV 1 a = NaN by simp [wholeV, n1]]; rw [n1] at N1; exact rwhole_n1 a 1 N1 w
  have n1 := Bool.eq_false_iff.2 n1; rw [n1] at N1
  by_cases i1 : inf a = true
  · rw [show wholeV 1 a = a by simp [wholeV, n1, i1]]; rw [i1] at I1; exact rwhole_i1 a 1 N1 I1 w
  have i1 := Bool.eq_false_iff.2 i1; rw [i1] at I1
  by_cases z1 : zer a = true
  · rw [show wholeV 1 a = a by simp [wholeV, n1, i1, z1]]; rw [z1] at Z1; exact rwhole_z1 a 1 N1 I1 Z1 w
  have z1 := Bool.eq_false_iff.2 z1; rw [z1] at Z1
  have SA := Lib.hid (fun w => rsplit_c a ha n1 i1 w)
  by_cases he : 0 ≤ se a
  · rw [show wholeV 1 a = a by simp [wholeV, n1, i1, z1, he]]; exact rwhole_e a 1 N1 I1 Z1 _ _ _ SA he w
  have la := se_ge a
  obtain ⟨d, hd⟩ : ∃ d : Nat, -se a = ((d + 1 : Nat) : Int) := ⟨(-se a - 1).toNat, by omega⟩
  have hd4 : d + 1 ≤ 1074 := by omega
  have hv : wholeV 1 a = sg (ng a) (pat (wq 1 (ng a) (sm a) (d + 1)) 0 false) := by
    unfold wholeV
    rw [if_neg (by rw [n1]; decide), if_neg (by rw [i1, z1]; decide), if_neg he, hd, Int.toNat_natCast]
  rw [hv]
  have bA := bl_sm a
  have hback : sm a / 2 ^ (d + 1) * 2 ^ (d + 1) ≤ sm a := Nat.div_mul_le_self _ _
  have hrest : sm a - sm a / 2 ^ (d + 1) * 2 ^ (d + 1) = sm a % 2 ^ (d + 1) := by have := Nat.div_add_mod (sm a) (2 ^ (d + 1)); rw [Nat.mul_comm] at this; omega
  have bK : bl (sm a / 2 ^ (d + 1)) ≤ 53 := bl_mono' (Nat.div_le_self _ _) bA
  have bR : bl (sm a - sm a / 2 ^ (d + 1) * 2 ^ (d + 1)) ≤ 53 := bl_mono' (Nat.sub_le _ _) bA
  have b1 : bl 1 = 1 := by decide
  have bK1 : bl (sm a / 2 ^ (d + 1) + 1) ≤ 54 := bl_addb bK (by omega)
  have eE : se a = -(((d + 1 : Nat)) : Int) := by omega
  have HS1 : Hid (∀ (w1 : World) (a1 : Option Addr) (n1 c1 : Nat), Nw w1 (.slice a1 n1 c1) (sm a) → Calls Try.prog 78 #[.slice a1 n1 c1, .int .i64 (se a)] w1 (OneOk w1 (sm a / 2 ^ (d + 1)))) := fun w1 a1 n1 c1 h => by
    rw [eE]; exact rshr_n (d + 1) h (by omega) (by omega)
  have HS2 := Lib.hid (fun (w1 : World) (a1 : Option Addr) (n1 c1 : Nat) (h : Nw w1 (.slice a1 n1 c1) (sm a / 2 ^ (d + 1))) => rshl_n (d + 1) h (by omega))
  have HD := Lib.hid (fun (w1 : World) (a1 : Option Addr) (n1 c1 : Nat) (a2 : Option Addr) (n2 c2 : Nat) (h1 : Nw w1 (.slice a1 n1 c1) (sm a)) (h2 : Nw w1 (.slice a2 n2 c2) (sm a / 2 ^ (d + 1) * 2 ^ (d + 1))) => rsub_o h1 (by omega) h2 hback)
  have HMk := fun (D : Nat) (hD : bl D ≤ 54) (w1 : World) (a1 : Option Addr) (n1 c1 : Nat) (h : Nw w1 (.slice a1 n1 c1) D) => rmake_n (ng a) h (by omega) 0 (by decide)
  have HOf : Hid (∀ w1, Calls Try.prog 83 #[.int .u64 1] w1 (One w1 1)) := fun w1 => rof_n 1 w1 (W_of (by decide))
  have HA := Lib.hid (fun (w1 : World) (a1 : Option Addr) (n1 c1 : Nat) (a2 : Option Addr) (n2 c2 : Nat) (h1 : Nw w1 (.slice a1 n1 c1) (sm a / 2 ^ (d + 1))) (h2 : Nw w1 (.slice a2 n2 c2) 1) => radd_n h1 (by omega) h2 (by omega))
  have be : -1074 ≤ se a ∧ se a < 0 := by omega
  have M0 := Lib.hid (HMk (sm a / 2 ^ (d + 1)) (by omega))
  have M1 := Lib.hid (HMk (sm a / 2 ^ (d + 1) + 1) bK1)
  obtain ⟨g, hg⟩ : ∃ g, ng a = g := ⟨_, rfl⟩
  rw [hg] at SA M0 M1 ⊢
  cases g
  · rw [show wq 1 false (sm a) (d + 1) = sm a / 2 ^ (d + 1) by unfold wq; rw [if_neg (by decide), if_neg (fun h => absurd h.2.1 (by decide))]]
    exact rwhole_1f a N1 I1 Z1 _ _ SA be _ _ hd 0 _ _ _ HS1 HS2 HD M0 w
  · by_cases hr : sm a % 2 ^ (d + 1) = 0
    · rw [show wq 1 true (sm a) (d + 1) = sm a / 2 ^ (d + 1) by unfold wq; rw [if_neg (by decide), if_neg (fun h => h.2.2 hr)]]
      exact rwhole_1z a N1 I1 Z1 _ _ SA be _ _ hd 0 _ _ _ HS1 HS2 HD (by rw [hrest]; exact hr) M0 w
    · rw [show wq 1 true (sm a) (d + 1) = sm a / 2 ^ (d + 1) + 1 by unfold wq; rw [if_neg (by decide), if_pos ⟨rfl, rfl, hr⟩]]
      exact rwhole_1u a N1 I1 Z1 _ _ SA be _ _ hd 0 _ _ _ HS1 HS2 HD (by rw [hrest]; exact hr) HOf HA M1 w
theorem rwhole2_c (a : Nat) (ha : W a) (w : World) : Calls Try.prog 92 #[.int .u64 a, .int .i64 2] w fun e w' => e = .returned (.int .u64 ((wholeV 2 a : Nat) : Int)) ∧ Below w.heap.size w w' := by
  have N1 := Lib.hid (risnan_c a ha)
  have I1 := Lib.hid (risinf_c a ha)
  have Z1 := Lib.hid (riszero_c a ha)
  by_cases n1 : nan a = true
  · rw [show wholeV 2 a = NaN by simp [wholeV, n1]]; rw [n1] at N1; exact rwhole_n1 a 2 N1 w
  have n1 := Bool.eq_false_iff.2 n1; rw [n1] at N1
  by_cases i1 : inf a = true
  · rw [show wholeV 2 a = a by simp [wholeV, n1, i1]]; rw [i1] at I1; exact rwhole_i1 a 2 N1 I1 w
  have i1 := Bool.eq_false_iff.2 i1; rw [i1] at I1
  by_cases z1 : zer a = true
  · rw [show wholeV 2 a = a by simp [wholeV, n1, i1, z1]]; rw [z1] at Z1; exact rwhole_z1 a 2 N1 I1 Z1 w
  have z1 := Bool.eq_false_iff.2 z1; rw [z1] at Z1
  have SA := Lib.hid (fun w => rsplit_c a ha n1 i1 w)
  by_cases he : 0 ≤ se a
  · rw [show wholeV 2 a = a by simp [wholeV, n1, i1, z1, he]]; exact rwhole_e a 2 N1 I1 Z1 _ _ _ SA he w
  have la := se_ge a
  obtain ⟨d, hd⟩ : ∃ d : Nat, -se a = ((d + 1 : Nat) : Int) := ⟨(-se a - 1).toNat, by omega⟩
  have hd4 : d + 1 ≤ 1074 := by omega
  have hv : wholeV 2 a = sg (ng a) (pat (wq 2 (ng a) (sm a) (d + 1)) 0 false) := by
    unfold wholeV
    rw [if_neg (by rw [n1]; decide), if_neg (by rw [i1, z1]; decide), if_neg he, hd, Int.toNat_natCast]
  rw [hv]
  have bA := bl_sm a
  have hback : sm a / 2 ^ (d + 1) * 2 ^ (d + 1) ≤ sm a := Nat.div_mul_le_self _ _
  have hrest : sm a - sm a / 2 ^ (d + 1) * 2 ^ (d + 1) = sm a % 2 ^ (d + 1) := by have := Nat.div_add_mod (sm a) (2 ^ (d + 1)); rw [Nat.mul_comm] at this; omega
  have bK : bl (sm a / 2 ^ (d + 1)) ≤ 53 := bl_mono' (Nat.div_le_self _ _) bA
  have bR : bl (sm a - sm a / 2 ^ (d + 1) * 2 ^ (d + 1)) ≤ 53 := bl_mono' (Nat.sub_le _ _) bA
  have b1 : bl 1 = 1 := by decide
  have bK1 : bl (sm a / 2 ^ (d + 1) + 1) ≤ 54 := bl_addb bK (by omega)
  have eE : se a = -(((d + 1 : Nat)) : Int) := by omega
  have HS1 : Hid (∀ (w1 : World) (a1 : Option Addr) (n1 c1 : Nat), Nw w1 (.slice a1 n1 c1) (sm a) → Calls Try.prog 78 #[.slice a1 n1 c1, .int .i64 (se a)] w1 (OneOk w1 (sm a / 2 ^ (d + 1)))) := fun w1 a1 n1 c1 h => by
    rw [eE]; exact rshr_n (d + 1) h (by omega) (by omega)
  have HS2 := Lib.hid (fun (w1 : World) (a1 : Option Addr) (n1 c1 : Nat) (h : Nw w1 (.slice a1 n1 c1) (sm a / 2 ^ (d + 1))) => rshl_n (d + 1) h (by omega))
  have HD := Lib.hid (fun (w1 : World) (a1 : Option Addr) (n1 c1 : Nat) (a2 : Option Addr) (n2 c2 : Nat) (h1 : Nw w1 (.slice a1 n1 c1) (sm a)) (h2 : Nw w1 (.slice a2 n2 c2) (sm a / 2 ^ (d + 1) * 2 ^ (d + 1))) => rsub_o h1 (by omega) h2 hback)
  have HMk := fun (D : Nat) (hD : bl D ≤ 54) (w1 : World) (a1 : Option Addr) (n1 c1 : Nat) (h : Nw w1 (.slice a1 n1 c1) D) => rmake_n (ng a) h (by omega) 0 (by decide)
  have HOf : Hid (∀ w1, Calls Try.prog 83 #[.int .u64 1] w1 (One w1 1)) := fun w1 => rof_n 1 w1 (W_of (by decide))
  have HA := Lib.hid (fun (w1 : World) (a1 : Option Addr) (n1 c1 : Nat) (a2 : Option Addr) (n2 c2 : Nat) (h1 : Nw w1 (.slice a1 n1 c1) (sm a / 2 ^ (d + 1))) (h2 : Nw w1 (.slice a2 n2 c2) 1) => radd_n h1 (by omega) h2 (by omega))
  have be : -1074 ≤ se a ∧ se a < 0 := by omega
  have M0 := Lib.hid (HMk (sm a / 2 ^ (d + 1)) (by omega))
  have M1 := Lib.hid (HMk (sm a / 2 ^ (d + 1) + 1) bK1)
  have hw : wq 2 (ng a) (sm a) (d + 1) = rne (sm a) (d + 1) false := by unfold wq; rw [if_pos rfl]
  have hn := rne_cmp (sm a) (d + 1) (by omega)
  rw [Nat.add_sub_cancel] at hn
  rw [hw, hn]
  have HS3 : Hid (∀ (w1 : World) (a1 : Option Addr) (n1 c1 : Nat), Nw w1 (.slice a1 n1 c1) 1 → Calls Try.prog 78 #[.slice a1 n1 c1, .int .i64 (((d + 1 : Nat) : Int) - 1)] w1 (OneOk w1 (2 ^ d))) := fun w1 a1 n1 c1 h => by
    have := rshl_n d h (by omega)
    rw [Nat.one_mul] at this
    rw [show (((d + 1 : Nat) : Int) - 1) = (d : Int) by omega]
    exact this
  have b2 : bl (2 ^ d) ≤ 1074 := by have := bl_shl 1 d; rw [Nat.one_mul] at this; omega
  have HC := fun (w1 : World) (a1 : Option Addr) (n1 c1 : Nat) (a2 : Option Addr) (n2 c2 : Nat) (h1 : Nw w1 (.slice a1 n1 c1) (sm a - sm a / 2 ^ (d + 1) * 2 ^ (d + 1))) (h2 : Nw w1 (.slice a2 n2 c2) (2 ^ d)) => rcmp_n h1 (by omega) h2 (by omega)
  have HL := fun (w1 : World) (a1 : Option Addr) (n1 c1 : Nat) (h : Nw w1 (.slice a1 n1 c1) (sm a / 2 ^ (d + 1))) => rlow_n h (by omega)
  have ls := sm_lt a
  have lq := Nat.div_le_self (sm a) (2 ^ (d + 1))
  rw [show sm a / 2 ^ (d + 1) % 18446744073709551616 = sm a / 2 ^ (d + 1) from Nat.mod_eq_of_lt (by omega)] at HL
  have HL := Lib.hid HL
  have HB1 := band1 (a := ((sm a / 2 ^ (d + 1) : Nat) : Int)) (Int.natCast_nonneg _) (by omega)
  obtain ⟨Rt, hRt⟩ : ∃ Rt, sm a - sm a / 2 ^ (d + 1) * 2 ^ (d + 1) = Rt := ⟨_, rfl⟩
  rw [hRt] at HC HD ⊢
  have key : ∀ (t : Int), cmpI (Rt : Int) ((2 ^ d : Nat) : Int) = t → (0 < t ↔ 2 ^ d < Rt) ∧ (t = 0 ↔ Rt = 2 ^ d) := by
    intro t ht; subst ht; unfold cmpI; constructor <;> (split <;> (try split) <;> omega)
  obtain ⟨t, ht⟩ : ∃ t, cmpI (Rt : Int) ((2 ^ d : Nat) : Int) = t := ⟨_, rfl⟩
  have key := key t ht
  rw [ht] at HC
  have HC := Lib.hid HC
  by_cases ht1 : 0 < t
  · rw [if_pos (.inl (key.1.1 ht1))]
    exact rwhole_2gt a N1 I1 Z1 _ _ _ SA be _ _ hd _ _ _ _ HS1 HS2 HD _ t ht1 HOf HS3 HC HL HA M1 w
  · by_cases ht2 : t = 0
    · by_cases hodd : sm a / 2 ^ (d + 1) % 2 = 1
      · rw [if_pos (.inr ⟨key.2.1 ht2, hodd⟩)]
        exact rwhole_2odd a N1 I1 Z1 _ _ _ SA be _ _ hd _ _ _ _ HS1 HS2 HD _ t ht2 (by rw [HB1]; exact beq_of (by omega)) HOf HS3 HC HL HA M1 w
      · rw [if_neg (by rintro (h | ⟨h, h2⟩) <;> omega)]
        exact rwhole_2even a N1 I1 Z1 _ _ _ SA be _ _ hd _ _ _ _ HS1 HS2 HD _ t ht2 (by rw [HB1]; exact beq_no (by omega)) HOf HS3 HC HL M0 w
    · rw [if_neg (by rintro (h | ⟨h, h2⟩) <;> omega)]
      exact rwhole_2lt a N1 I1 Z1 _ _ _ SA be _ _ hd _ _ _ _ HS1 HS2 HD _ t (by omega) HOf HS3 HC HL M0 w
theorem rFloor_c (a : Nat) (ha : W a) (w : World) : Calls Try.prog 37 #[.int .u64 a] w fun e w' => e = .returned (.int .u64 ((wholeV 1 a : Nat) : Int)) ∧ Below w.heap.size w w' := by
  have HW := Lib.hid (rwhole1_c a ha)
  go_enter Try.func37, Try.ntmps37
  go_wp2_with (first
    | (go_at_call 92; (with_reducible refine (HW.out _).mono ?_); rintro e1 w1 ⟨rfl, hb1⟩))
  go_ret
  exact ⟨rfl, hb1⟩
theorem rTrunc_c (a : Nat) (ha : W a) (w : World) : Calls Try.prog 41 #[.int .u64 a] w fun e w' => e = .returned (.int .u64 ((wholeV 0 a : Nat) : Int)) ∧ Below w.heap.size w w' := by
  have HW := Lib.hid (rwhole0_c a ha)
  go_enter Try.func41, Try.ntmps41
  go_wp2_with (first
    | (go_at_call 92; (with_reducible refine (HW.out _).mono ?_); rintro e1 w1 ⟨rfl, hb1⟩))
  go_ret
  exact ⟨rfl, hb1⟩
theorem rRound_c (a : Nat) (ha : W a) (w : World) : Calls Try.prog 39 #[.int .u64 a] w fun e w' => e = .returned (.int .u64 ((wholeV 2 a : Nat) : Int)) ∧ Below w.heap.size w w' := by
  have HW := Lib.hid (rwhole2_c a ha)
  go_enter Try.func39, Try.ntmps39
  go_wp2_with (first
    | (go_at_call 92; (with_reducible refine (HW.out _).mono ?_); rintro e1 w1 ⟨rfl, hb1⟩))
  go_ret
  exact ⟨rfl, hb1⟩
set_option maxRecDepth 100000 in
set_option maxHeartbeats 2000000 in
theorem rScale_n1 (a : Nat) (n : Int) (N1 : Hid (PB 71 a true)) (w : World) : Calls Try.prog 28 #[.int .u64 a, .int .i64 n] w fun e w' => e = .returned (.int .u64 (9221120237041090560)) ∧ Below w.heap.size w w' := by
  go_enter Try.func28, Try.ntmps28
  go_wp2_with (first
    | (go_at_call 71; (with_reducible refine (N1.out _).mono ?_); rintro e1 w1 ⟨rfl, rfl⟩))
  go_ret
  exact ⟨rfl, Below.refl _ _⟩
set_option maxRecDepth 100000 in
set_option maxHeartbeats 2000000 in
theorem rScale_i1 (a : Nat) (n : Int) (N1 : Hid (PB 71 a false)) (I1 : Hid (PB 72 a true)) (w : World) : Calls Try.prog 28 #[.int .u64 a, .int .i64 n] w fun e w' => e = .returned (.int .u64 ((a : Int))) ∧ Below w.heap.size w w' := by
  go_enter Try.func28, Try.ntmps28
  go_wp2_with (first
    | (go_at_call 71; (with_reducible refine (N1.out _).mono ?_); rintro e1 w1 ⟨rfl, rfl⟩)
    | (go_at_call 72; (with_reducible refine (I1.out _).mono ?_); rintro e1 w1 ⟨rfl, rfl⟩))
  go_ret
  exact ⟨rfl, Below.refl _ _⟩
set_option maxRecDepth 100000 in
set_option maxHeartbeats 2000000 in
theorem rScale_z1 (a : Nat) (n : Int) (N1 : Hid (PB 71 a false)) (I1 : Hid (PB 72 a false)) (Z1 : Hid (PB 73 a true)) (w : World) : Calls Try.prog 28 #[.int .u64 a, .int .i64 n] w fun e w' => e = .returned (.int .u64 ((a : Int))) ∧ Below w.heap.size w w' := by
  go_enter Try.func28, Try.ntmps28
  go_wp2_with (first
    | (go_at_call 71; (with_reducible refine (N1.out _).mono ?_); rintro e1 w1 ⟨rfl, rfl⟩)
    | (go_at_call 72; (with_reducible refine (I1.out _).mono ?_); rintro e1 w1 ⟨rfl, rfl⟩)
    | (go_at_call 73; (with_reducible refine (Z1.out _).mono ?_); rintro e1 w1 ⟨rfl, rfl⟩))
  go_ret
  exact ⟨rfl, Below.refl _ _⟩
set_option maxRecDepth 100000 in
set_option maxHeartbeats 2000000 in
theorem rScale_fhi (a : Nat) (n : Int) (N1 : Hid (PB 71 a false)) (I1 : Hid (PB 72 a false)) (Z1 : Hid (PB 73 a false)) (p : Bool) (A : Nat) (e : Int) (SA : Hid (∀ w, Calls Try.prog 60 #[.int .u64 a] w (Sp w p A e))) (he : -1074 ≤ e ∧ e ≤ 971) (R : Int) (h : 100000 < n) (HM : Hid (∀ (w1 : World) (a1 : Option Addr) (n1 c1 : Nat), Nw w1 (.slice a1 n1 c1) (A) → Calls Try.prog 58 #[.bool (p), .slice a1 n1 c1, .int .i64 (e + 100000)] w1 fun e w' => e = .returned (.int .u64 R) ∧ Below w1.heap.size w1 w')) (w : World) : Calls Try.prog 28 #[.int .u64 a, .int .i64 n] w fun e w' => e = .returned (.int .u64 R) ∧ Below w.heap.size w w' := by
  go_enter Try.func28, Try.ntmps28
  go_wp2_with (first
    | (go_at_call 71; (with_reducible refine (N1.out _).mono ?_); rintro e1 w1 ⟨rfl, rfl⟩)
    | (go_at_call 72; (with_reducible refine (I1.out _).mono ?_); rintro e1 w1 ⟨rfl, rfl⟩)
    | (go_at_call 73; (with_reducible refine (Z1.out _).mono ?_); rintro e1 w1 ⟨rfl, rfl⟩)
    | (go_at_call 60; (with_reducible refine (SA.out _).mono ?_); rintro e1 w1 ⟨a1, n1, c1, rfl, hv1, hb1⟩)
    | (go_at_call 58; (with_reducible refine (HM.out _ _ _ _ hv1).mono ?_); rintro e11 w11 ⟨rfl, hb11⟩))
  go_ret
  exact ⟨rfl, btn hb1 hb11⟩
set_option maxRecDepth 100000 in
set_option maxHeartbeats 2000000 in
theorem rScale_flo (a : Nat) (n : Int) (N1 : Hid (PB 71 a false)) (I1 : Hid (PB 72 a false)) (Z1 : Hid (PB 73 a false)) (p : Bool) (A : Nat) (e : Int) (SA : Hid (∀ w, Calls Try.prog 60 #[.int .u64 a] w (Sp w p A e))) (he : -1074 ≤ e ∧ e ≤ 971) (R : Int) (h : n < -100000) (HM : Hid (∀ (w1 : World) (a1 : Option Addr) (n1 c1 : Nat), Nw w1 (.slice a1 n1 c1) (A) → Calls Try.prog 58 #[.bool (p), .slice a1 n1 c1, .int .i64 (e + (-100000))] w1 fun e w' => e = .returned (.int .u64 R) ∧ Below w1.heap.size w1 w')) (w : World) : Calls Try.prog 28 #[.int .u64 a, .int .i64 n] w fun e w' => e = .returned (.int .u64 R) ∧ Below w.heap.size w w' := by
  go_enter Try.func28, Try.ntmps28
  go_wp2_with (first
    | (go_at_call 71; (with_reducible refine (N1.out _).mono ?_); rintro e1 w1 ⟨rfl, rfl⟩)
    | (go_at_call 72; (with_reducible refine (I1.out _).mono ?_); rintro e1 w1 ⟨rfl, rfl⟩)
    | (go_at_call 73; (with_reducible refine (Z1.out _).mono ?_); rintro e1 w1 ⟨rfl, rfl⟩)
    | (go_at_call 60; (with_reducible refine (SA.out _).mono ?_); rintro e1 w1 ⟨a1, n1, c1, rfl, hv1, hb1⟩)
    | (go_at_call 58; (with_reducible refine (HM.out _ _ _ _ hv1).mono ?_); rintro e11 w11 ⟨rfl, hb11⟩))
  go_ret
  exact ⟨rfl, btn hb1 hb11⟩
set_option maxRecDepth 100000 in
set_option maxHeartbeats 2000000 in
theorem rScale_fmid (a : Nat) (n : Int) (N1 : Hid (PB 71 a false)) (I1 : Hid (PB 72 a false)) (Z1 : Hid (PB 73 a false)) (p : Bool) (A : Nat) (e : Int) (SA : Hid (∀ w, Calls Try.prog 60 #[.int .u64 a] w (Sp w p A e))) (he : -1074 ≤ e ∧ e ≤ 971) (R : Int) (h : ¬ 100000 < n) (h2 : ¬ n < -100000) (HM : Hid (∀ (w1 : World) (a1 : Option Addr) (n1 c1 : Nat), Nw w1 (.slice a1 n1 c1) (A) → Calls Try.prog 58 #[.bool (p), .slice a1 n1 c1, .int .i64 (e + n)] w1 fun e w' => e = .returned (.int .u64 R) ∧ Below w1.heap.size w1 w')) (w : World) : Calls Try.prog 28 #[.int .u64 a, .int .i64 n] w fun e w' => e = .returned (.int .u64 R) ∧ Below w.heap.size w w' := by
  go_enter Try.func28, Try.ntmps28
  go_wp2_with (first
    | (go_at_call 71; (with_reducible refine (N1.out _).mono ?_); rintro e1 w1 ⟨rfl, rfl⟩)
    | (go_at_call 72; (with_reducible refine (I1.out _).mono ?_); rintro e1 w1 ⟨rfl, rfl⟩)
    | (go_at_call 73; (with_reducible refine (Z1.out _).mono ?_); rintro e1 w1 ⟨rfl, rfl⟩)
    | (go_at_call 60; (with_reducible refine (SA.out _).mono ?_); rintro e1 w1 ⟨a1, n1, c1, rfl, hv1, hb1⟩)
    | (go_at_call 58; (with_reducible refine (HM.out _ _ _ _ hv1).mono ?_); rintro e11 w11 ⟨rfl, hb11⟩))
  go_ret
  exact ⟨rfl, btn hb1 hb11⟩
theorem rScale_c (a : Nat) (ha : W a) (n : Int) (hn : -9223372036854775808 ≤ n ∧ n ≤ 9223372036854775807) (w : World) : Calls Try.prog 28 #[.int .u64 a, .int .i64 n] w fun e w' => e = .returned (.int .u64 ((scaleV a n : Nat) : Int)) ∧ Below w.heap.size w w' := by
  have N1 := Lib.hid (risnan_c a ha)
  have I1 := Lib.hid (risinf_c a ha)
  have Z1 := Lib.hid (riszero_c a ha)
  by_cases n1 : nan a = true
  · rw [show scaleV a n = NaN by simp [scaleV, n1]]; rw [n1] at N1; exact rScale_n1 a n N1 w
  have n1 := Bool.eq_false_iff.2 n1; rw [n1] at N1
  by_cases i1 : inf a = true
  · rw [show scaleV a n = a by simp [scaleV, n1, i1]]; rw [i1] at I1; exact rScale_i1 a n N1 I1 w
  have i1 := Bool.eq_false_iff.2 i1; rw [i1] at I1
  by_cases z1 : zer a = true
  · rw [show scaleV a n = a by simp [scaleV, n1, i1, z1]]; rw [z1] at Z1; exact rScale_z1 a n N1 I1 Z1 w
  have z1 := Bool.eq_false_iff.2 z1; rw [z1] at Z1
  have SA := Lib.hid (fun w => rsplit_c a ha n1 i1 w)
  have hv : scaleV a n = makeV (ng a) (sm a) (se a + min (max n (-100000)) 100000) := by
    unfold scaleV makeV
    rw [if_neg (by rw [n1]; decide), if_neg (by rw [i1, z1]; decide)]
  rw [hv]
  have he : -1074 ≤ se a ∧ se a ≤ 971 := ⟨se_ge a, se_le n1 i1⟩
  have bA := bl_sm a
  have HMk := fun (e : Int) (h : -4611686018427387904 ≤ e ∧ e ≤ 4611686018427387904) => Lib.hid (fun (w1 : World) (a1 : Option Addr) (n1 c1 : Nat) (h1 : Nw w1 (.slice a1 n1 c1) (sm a)) => rmake_n (ng a) h1 (by omega) e h)
  by_cases h1 : 100000 < n
  · rw [show min (max n (-100000)) 100000 = 100000 by omega]
    exact rScale_fhi a n N1 I1 Z1 _ _ _ SA he _ h1 (HMk (se a + 100000) (by omega)) w
  · by_cases h2 : n < -100000
    · rw [show min (max n (-100000)) 100000 = -100000 by omega]
      exact rScale_flo a n N1 I1 Z1 _ _ _ SA he _ h2 (HMk (se a + (-100000)) (by omega)) w
    · rw [show min (max n (-100000)) 100000 = n by omega]
      exact rScale_fmid a n N1 I1 Z1 _ _ _ SA he _ h1 h2 (HMk (se a + n) (by omega)) w
end Go.Proofs.Ytecgkhijiogggaa
