/- The reference's round. -/
import Derived.Test.YtecgkhijiogggaaY0
namespace Go.Proofs.Ytecgkhijiogggaa
set_option linter.unusedVariables false
set_option linter.unusedSimpArgs false
open Go.RowKit Go.Shelf SF
theorem rround53_c (a : Option Addr) (n0 c0 M : Nat) (w : World) (hM : Nw w (.slice a n0 c0) M) (bM : bl M ≤ 32000) (e : Int) (he : -100000 ≤ e ∧ e ≤ 2100) (hq : qz 53 (-1074) (bl M) e - e ≤ 40000) :
    Calls Try.prog 98 #[.slice a n0 c0, .int .i64 e, .int .i64 53, .int .i64 (-1074), .int .i64 971] w fun x w' => x = .returned (RndV 53 (-1074) 971 M e) ∧ Below w.heap.size w w' := by
  have HB := Lib.hid (rbits_n hM (by omega))
  have pw : (2 : Nat) ^ 53 = 9007199254740992 := by decide
  have hn : 0 ≤ (bl M : Int) ∧ (bl M : Int) ≤ 32000 := by omega
  have qd : qz 53 (-1074) (bl M) e = max ((bl M : Int) + e - 53) (-1074) := rfl
  by_cases hC : qz 53 (-1074) (bl M) e - e ≤ 0
  · obtain ⟨s, hs⟩ : ∃ s : Nat, qz 53 (-1074) (bl M) e - e = -(s : Int) := ⟨(-(qz 53 (-1074) (bl M) e - e)).toNat, by omega⟩
    have hs3 : s ≤ 3200 := by omega
    have hv := vz_left' hC
    rw [hs, Int.neg_neg, Int.toNat_natCast] at hv
    have hl := vz_lt (p := 53) (low := -1074) (m := M) (e := e) (rest := false) (by omega)
    have hv2 : RndV 53 (-1074) 971 M e = .tuple #[.int .u64 ((M * 2 ^ s : Nat) : Int), .int .i64 (e - (s : Int)), .bool (decide (971 < e - (s : Int)))] := by
      unfold RndV
      have er : rv 53 (-1074) M e false = M * 2 ^ s := by unfold rv; rw [if_neg (by omega), hv]
      have ex : rx 53 (-1074) M e false = e - (s : Int) := by unfold rx; rw [if_neg (by omega)]; omega
      rw [er, ex]
    rw [hv, pw] at hl
    rw [hv2]
    have bV : bl (M * 2 ^ s) ≤ 64000 := Nat.le_trans (bl_shl M s) (by omega)
    have HS := Lib.hid (rshl_n s hM (by omega))
    have hl' : ((M * 2 ^ s : Nat) : Int) < 9007199254740992 := Int.ofNat_lt.2 hl
    by_cases g : e + ((bl M : Int) - 53) < (-1074)
    · exact rround53_Alo a n0 c0 w (bl M : Int) e s _ hn he g _ rfl (by omega) hl' HB HS bV
    · exact rround53_Ahi a n0 c0 w (bl M : Int) e s _ hn he (by omega) _ rfl (by omega) hl' HB HS bV
  · obtain ⟨d, hd⟩ : ∃ d : Nat, qz 53 (-1074) (bl M) e - e = ((d + 1 : Nat) : Int) := ⟨(qz 53 (-1074) (bl M) e - e - 1).toNat, by omega⟩
    have hd4 : d + 1 ≤ 40000 := by omega
    have hv := vz_half hd (by omega)
    have hvl := vz_le 53 (-1074) M e false
    rw [pw] at hvl
    have hK1 : M / 2 ^ (d + 1) ≤ vz 53 (-1074) M e false := by rw [hv]; split <;> omega
    have hback : M / 2 ^ (d + 1) * 2 ^ (d + 1) ≤ M := Nat.div_mul_le_self _ _
    rw [Nat.add_sub_cancel] at hv
    have hrd : RndV 53 (-1074) 971 M e = .tuple #[.int .u64 ((rv 53 (-1074) M e false : Nat) : Int), .int .i64 (rx 53 (-1074) M e false), .bool (decide (971 < rx 53 (-1074) M e false))] := rfl
    have hrv : rv 53 (-1074) M e false = if vz 53 (-1074) M e false = 9007199254740992 then 4503599627370496 else vz 53 (-1074) M e false := by unfold rv; rw [pw]
    have hrx : rx 53 (-1074) M e false = if vz 53 (-1074) M e false = 9007199254740992 then e + ((d + 1 : Nat) : Int) + 1 else e + ((d + 1 : Nat) : Int) := by
      unfold rx; rw [pw]; split <;> omega
    have bK : bl (M / 2 ^ (d + 1)) ≤ 54 := bl_le_of_lt (k := 54) (by rw [show (2 : Nat) ^ 54 = 18014398509481984 by decide]; omega)
    have bR : bl (M - M / 2 ^ (d + 1) * 2 ^ (d + 1)) ≤ 32000 := bl_mono' (Nat.sub_le _ _) bM
    have b1 : bl 1 = 1 := by decide
    have HS1 := Lib.hid (rshr_n (d + 1) hM (by omega) (by omega))
    have HS2 := Lib.hid (fun (w1 : World) (a1 : Option Addr) (n1 c1 : Nat) (h : Nw w1 (.slice a1 n1 c1) (M / 2 ^ (d + 1))) => rshl_n (d + 1) h (by omega))
    have HSub := Lib.hid (fun (w1 : World) (a1 : Option Addr) (n1 c1 : Nat) (hb : Below w.heap.size w w1) (h : Nw w1 (.slice a1 n1 c1) (M / 2 ^ (d + 1) * 2 ^ (d + 1))) => rsub_o (hM.below hb) (by omega) h hback)
    have HOf := Lib.hid (fun w1 => rof_n 1 w1 (W_of (by decide)))
    have HS3 := Lib.hid (fun (w1 : World) (a1 : Option Addr) (n1 c1 : Nat) (h : Nw w1 (.slice a1 n1 c1) 1) => rshl_n d h (by omega))
    have b2 : bl (1 * 2 ^ d) ≤ 64000 := Nat.le_trans (bl_shl 1 d) (by omega)
    have HC := Lib.hid (fun (w1 : World) (a1 : Option Addr) (n1 c1 : Nat) (a2 : Option Addr) (n2 c2 : Nat) (h1 : Nw w1 (.slice a1 n1 c1) (M - M / 2 ^ (d + 1) * 2 ^ (d + 1))) (h2 : Nw w1 (.slice a2 n2 c2) (1 * 2 ^ d)) => rcmp_n h1 (by omega) h2 b2)
    have HL := Lib.hid (fun (w1 : World) (a1 : Option Addr) (n1 c1 : Nat) (h : Nw w1 (.slice a1 n1 c1) (M / 2 ^ (d + 1))) => rlow_n h (by omega))
    rw [show M / 2 ^ (d + 1) % 18446744073709551616 = M / 2 ^ (d + 1) from Nat.mod_eq_of_lt (by omega)] at HL
    rw [show ((d : Nat) : Int) = ((d + 1 : Nat) : Int) - 1 by omega] at HS3
    have HB1 := band1 (a := ((M / 2 ^ (d + 1) : Nat) : Int)) (Int.natCast_nonneg _) (by omega)
    rw [Nat.one_mul] at HS3 HC
    rw [hrd, hrv, hrx]
    have hc : 0 < ((d + 1 : Nat) : Int) ∧ ((d + 1 : Nat) : Int) ≤ 40000 := by omega
    have eC1 : e + ((bl M : Int) - 53) < (-1074) → (-1074) - e = ((d + 1 : Nat) : Int) := by omega
    have eC2 : (-1074) ≤ e + ((bl M : Int) - 53) → (bl M : Int) - 53 = ((d + 1 : Nat) : Int) := by omega
    obtain ⟨C, hCC⟩ : ∃ C : Int, ((d + 1 : Nat) : Int) = C := ⟨_, rfl⟩
    rw [hCC] at hc eC1 eC2 HS1 HS2 HS3 ⊢
    generalize M / 2 ^ (d + 1) * 2 ^ (d + 1) = Bk at *
    generalize M / 2 ^ (d + 1) = K at *
    generalize M - Bk = Rt at *
    generalize (2 : Nat) ^ d = Hf at *
    generalize vz 53 (-1074) M e false = V at *
    have hK : 0 ≤ (K : Int) ∧ (K : Int) ≤ 9007199254740992 := by omega
    have key : ∀ (t : Int), cmpI (Rt : Int) (Hf : Int) = t → (0 < t ↔ Hf < Rt) ∧ (t = 0 ↔ Rt = Hf) := by
      intro t ht; subst ht; unfold cmpI; constructor <;> (split <;> (try split) <;> omega)
    obtain ⟨t, ht⟩ : ∃ t, cmpI (Rt : Int) (Hf : Int) = t := ⟨_, rfl⟩
    have key := key t ht
    rw [ht] at HC
    clear ht hrd hrv hrx hM
    have fin : ∀ (U : Int) (z : Bool), U = (V : Int) → (U == 9007199254740992) = z → (if V = 9007199254740992 then 4503599627370496 else V : Nat) = (if z then U / 2 else U) ∧ (if V = 9007199254740992 then e + C + 1 else e + C) = (if z then e + C + 1 else e + C) := by
      intro U z h1 h2
      subst h1
      by_cases c : V = 9007199254740992
      · subst c
        have : z = true := by rw [← h2]; decide
        subst this; exact ⟨rfl, rfl⟩
      · have : z = false := by rw [← h2]; simp; omega
        subst this; rw [if_neg c, if_neg c]; exact ⟨rfl, rfl⟩
    by_cases ht1 : 0 < t
    · have hU : (K : Int) + 1 = (V : Int) := by rw [hv, if_pos (.inl (key.1.1 ht1))]; omega
      obtain ⟨z, hz⟩ : ∃ z, ((K : Int) + 1 == 9007199254740992) = z := ⟨_, rfl⟩
      have f := fin _ z hU hz
      rw [f.1, f.2]
      by_cases g : e + ((bl M : Int) - 53) < (-1074)
      · have ec := eC1 g
        cases z
        · exact rround53_Blo_gt0 a n0 c0 w _ e C t K K Bk Rt Hf hn he g ec hc hK ht1 hz HB HS1 HS2 HSub HOf HS3 HC HL
        · exact rround53_Blo_gt1 a n0 c0 w _ e C t K K Bk Rt Hf hn he g ec hc hK ht1 hz HB HS1 HS2 HSub HOf HS3 HC HL
      · have ec := eC2 (by omega)
        cases z
        · exact rround53_Bhi_gt0 a n0 c0 w _ e C t K K Bk Rt Hf hn he (by omega) ec hc hK ht1 hz HB HS1 HS2 HSub HOf HS3 HC HL
        · exact rround53_Bhi_gt1 a n0 c0 w _ e C t K K Bk Rt Hf hn he (by omega) ec hc hK ht1 hz HB HS1 HS2 HSub HOf HS3 HC HL
    · by_cases ht2 : t = 0
      · by_cases hodd : K % 2 = 1
        · have ho : (bits .and .u64 (K : Int) 1 == 1) = true := by rw [HB1]; exact beq_of (by omega)
          have hU : (K : Int) + 1 = (V : Int) := by rw [hv, if_pos (.inr ⟨key.2.1 ht2, by omega⟩)]; omega
          obtain ⟨z, hz⟩ : ∃ z, ((K : Int) + 1 == 9007199254740992) = z := ⟨_, rfl⟩
          have f := fin _ z hU hz
          rw [f.1, f.2]
          by_cases g : e + ((bl M : Int) - 53) < (-1074)
          · have ec := eC1 g
            cases z
            · exact rround53_Blo_odd0 a n0 c0 w _ e C t K K Bk Rt Hf hn he g ec hc hK ht2 ho hz HB HS1 HS2 HSub HOf HS3 HC HL
            · exact rround53_Blo_odd1 a n0 c0 w _ e C t K K Bk Rt Hf hn he g ec hc hK ht2 ho hz HB HS1 HS2 HSub HOf HS3 HC HL
          · have ec := eC2 (by omega)
            cases z
            · exact rround53_Bhi_odd0 a n0 c0 w _ e C t K K Bk Rt Hf hn he (by omega) ec hc hK ht2 ho hz HB HS1 HS2 HSub HOf HS3 HC HL
            · exact rround53_Bhi_odd1 a n0 c0 w _ e C t K K Bk Rt Hf hn he (by omega) ec hc hK ht2 ho hz HB HS1 HS2 HSub HOf HS3 HC HL
        · have ho : (bits .and .u64 (K : Int) 1 == 1) = false := by rw [HB1]; exact beq_no (by omega)
          have hU : (K : Int) = (V : Int) := by rw [hv, if_neg (by rintro (h | ⟨h, h2⟩) <;> omega)]
          obtain ⟨z, hz⟩ : ∃ z, ((K : Int) == 9007199254740992) = z := ⟨_, rfl⟩
          have f := fin _ z hU hz
          rw [f.1, f.2]
          by_cases g : e + ((bl M : Int) - 53) < (-1074)
          · have ec := eC1 g
            cases z
            · exact rround53_Blo_even0 a n0 c0 w _ e C t K K Bk Rt Hf hn he g ec hc hK ht2 ho hz HB HS1 HS2 HSub HOf HS3 HC HL
            · exact rround53_Blo_even1 a n0 c0 w _ e C t K K Bk Rt Hf hn he g ec hc hK ht2 ho hz HB HS1 HS2 HSub HOf HS3 HC HL
          · have ec := eC2 (by omega)
            cases z
            · exact rround53_Bhi_even0 a n0 c0 w _ e C t K K Bk Rt Hf hn he (by omega) ec hc hK ht2 ho hz HB HS1 HS2 HSub HOf HS3 HC HL
            · exact rround53_Bhi_even1 a n0 c0 w _ e C t K K Bk Rt Hf hn he (by omega) ec hc hK ht2 ho hz HB HS1 HS2 HSub HOf HS3 HC HL
      · have hU : (K : Int) = (V : Int) := by rw [hv, if_neg (by rintro (h | ⟨h, h2⟩) <;> omega)]
        obtain ⟨z, hz⟩ : ∃ z, ((K : Int) == 9007199254740992) = z := ⟨_, rfl⟩
        have f := fin _ z hU hz
        rw [f.1, f.2]
        by_cases g : e + ((bl M : Int) - 53) < (-1074)
        · have ec := eC1 g
          cases z
          · exact rround53_Blo_lt0 a n0 c0 w _ e C t K K Bk Rt Hf hn he g ec hc hK (by omega) hz HB HS1 HS2 HSub HOf HS3 HC HL
          · exact rround53_Blo_lt1 a n0 c0 w _ e C t K K Bk Rt Hf hn he g ec hc hK (by omega) hz HB HS1 HS2 HSub HOf HS3 HC HL
        · have ec := eC2 (by omega)
          cases z
          · exact rround53_Bhi_lt0 a n0 c0 w _ e C t K K Bk Rt Hf hn he (by omega) ec hc hK (by omega) hz HB HS1 HS2 HSub HOf HS3 HC HL
          · exact rround53_Bhi_lt1 a n0 c0 w _ e C t K K Bk Rt Hf hn he (by omega) ec hc hK (by omega) hz HB HS1 HS2 HSub HOf HS3 HC HL
theorem rround24_c (a : Option Addr) (n0 c0 M : Nat) (w : World) (hM : Nw w (.slice a n0 c0) M) (bM : bl M ≤ 32000) (e : Int) (he : -100000 ≤ e ∧ e ≤ 2100) (hq : qz 24 (-149) (bl M) e - e ≤ 40000) :
    Calls Try.prog 98 #[.slice a n0 c0, .int .i64 e, .int .i64 24, .int .i64 (-149), .int .i64 104] w fun x w' => x = .returned (RndV 24 (-149) 104 M e) ∧ Below w.heap.size w w' := by
  have HB := Lib.hid (rbits_n hM (by omega))
  have pw : (2 : Nat) ^ 24 = 16777216 := by decide
  have hn : 0 ≤ (bl M : Int) ∧ (bl M : Int) ≤ 32000 := by omega
  have qd : qz 24 (-149) (bl M) e = max ((bl M : Int) + e - 24) (-149) := rfl
  by_cases hC : qz 24 (-149) (bl M) e - e ≤ 0
  · obtain ⟨s, hs⟩ : ∃ s : Nat, qz 24 (-149) (bl M) e - e = -(s : Int) := ⟨(-(qz 24 (-149) (bl M) e - e)).toNat, by omega⟩
    have hs3 : s ≤ 3200 := by omega
    have hv := vz_left' hC
    rw [hs, Int.neg_neg, Int.toNat_natCast] at hv
    have hl := vz_lt (p := 24) (low := -149) (m := M) (e := e) (rest := false) (by omega)
    have hv2 : RndV 24 (-149) 104 M e = .tuple #[.int .u64 ((M * 2 ^ s : Nat) : Int), .int .i64 (e - (s : Int)), .bool (decide (104 < e - (s : Int)))] := by
      unfold RndV
      have er : rv 24 (-149) M e false = M * 2 ^ s := by unfold rv; rw [if_neg (by omega), hv]
      have ex : rx 24 (-149) M e false = e - (s : Int) := by unfold rx; rw [if_neg (by omega)]; omega
      rw [er, ex]
    rw [hv, pw] at hl
    rw [hv2]
    have bV : bl (M * 2 ^ s) ≤ 64000 := Nat.le_trans (bl_shl M s) (by omega)
    have HS := Lib.hid (rshl_n s hM (by omega))
    have hl' : ((M * 2 ^ s : Nat) : Int) < 16777216 := Int.ofNat_lt.2 hl
    by_cases g : e + ((bl M : Int) - 24) < (-149)
    · exact rround24_Alo a n0 c0 w (bl M : Int) e s _ hn he g _ rfl (by omega) hl' HB HS bV
    · exact rround24_Ahi a n0 c0 w (bl M : Int) e s _ hn he (by omega) _ rfl (by omega) hl' HB HS bV
  · obtain ⟨d, hd⟩ : ∃ d : Nat, qz 24 (-149) (bl M) e - e = ((d + 1 : Nat) : Int) := ⟨(qz 24 (-149) (bl M) e - e - 1).toNat, by omega⟩
    have hd4 : d + 1 ≤ 40000 := by omega
    have hv := vz_half hd (by omega)
    have hvl := vz_le 24 (-149) M e false
    rw [pw] at hvl
    have hK1 : M / 2 ^ (d + 1) ≤ vz 24 (-149) M e false := by rw [hv]; split <;> omega
    have hback : M / 2 ^ (d + 1) * 2 ^ (d + 1) ≤ M := Nat.div_mul_le_self _ _
    rw [Nat.add_sub_cancel] at hv
    have hrd : RndV 24 (-149) 104 M e = .tuple #[.int .u64 ((rv 24 (-149) M e false : Nat) : Int), .int .i64 (rx 24 (-149) M e false), .bool (decide (104 < rx 24 (-149) M e false))] := rfl
    have hrv : rv 24 (-149) M e false = if vz 24 (-149) M e false = 16777216 then 8388608 else vz 24 (-149) M e false := by unfold rv; rw [pw]
    have hrx : rx 24 (-149) M e false = if vz 24 (-149) M e false = 16777216 then e + ((d + 1 : Nat) : Int) + 1 else e + ((d + 1 : Nat) : Int) := by
      unfold rx; rw [pw]; split <;> omega
    have bK : bl (M / 2 ^ (d + 1)) ≤ 54 := bl_le_of_lt (k := 54) (by rw [show (2 : Nat) ^ 54 = 18014398509481984 by decide]; omega)
    have bR : bl (M - M / 2 ^ (d + 1) * 2 ^ (d + 1)) ≤ 32000 := bl_mono' (Nat.sub_le _ _) bM
    have b1 : bl 1 = 1 := by decide
    have HS1 := Lib.hid (rshr_n (d + 1) hM (by omega) (by omega))
    have HS2 := Lib.hid (fun (w1 : World) (a1 : Option Addr) (n1 c1 : Nat) (h : Nw w1 (.slice a1 n1 c1) (M / 2 ^ (d + 1))) => rshl_n (d + 1) h (by omega))
    have HSub := Lib.hid (fun (w1 : World) (a1 : Option Addr) (n1 c1 : Nat) (hb : Below w.heap.size w w1) (h : Nw w1 (.slice a1 n1 c1) (M / 2 ^ (d + 1) * 2 ^ (d + 1))) => rsub_o (hM.below hb) (by omega) h hback)
    have HOf := Lib.hid (fun w1 => rof_n 1 w1 (W_of (by decide)))
    have HS3 := Lib.hid (fun (w1 : World) (a1 : Option Addr) (n1 c1 : Nat) (h : Nw w1 (.slice a1 n1 c1) 1) => rshl_n d h (by omega))
    have b2 : bl (1 * 2 ^ d) ≤ 64000 := Nat.le_trans (bl_shl 1 d) (by omega)
    have HC := Lib.hid (fun (w1 : World) (a1 : Option Addr) (n1 c1 : Nat) (a2 : Option Addr) (n2 c2 : Nat) (h1 : Nw w1 (.slice a1 n1 c1) (M - M / 2 ^ (d + 1) * 2 ^ (d + 1))) (h2 : Nw w1 (.slice a2 n2 c2) (1 * 2 ^ d)) => rcmp_n h1 (by omega) h2 b2)
    have HL := Lib.hid (fun (w1 : World) (a1 : Option Addr) (n1 c1 : Nat) (h : Nw w1 (.slice a1 n1 c1) (M / 2 ^ (d + 1))) => rlow_n h (by omega))
    rw [show M / 2 ^ (d + 1) % 18446744073709551616 = M / 2 ^ (d + 1) from Nat.mod_eq_of_lt (by omega)] at HL
    rw [show ((d : Nat) : Int) = ((d + 1 : Nat) : Int) - 1 by omega] at HS3
    have HB1 := band1 (a := ((M / 2 ^ (d + 1) : Nat) : Int)) (Int.natCast_nonneg _) (by omega)
    rw [Nat.one_mul] at HS3 HC
    rw [hrd, hrv, hrx]
    have hc : 0 < ((d + 1 : Nat) : Int) ∧ ((d + 1 : Nat) : Int) ≤ 40000 := by omega
    have eC1 : e + ((bl M : Int) - 24) < (-149) → (-149) - e = ((d + 1 : Nat) : Int) := by omega
    have eC2 : (-149) ≤ e + ((bl M : Int) - 24) → (bl M : Int) - 24 = ((d + 1 : Nat) : Int) := by omega
    obtain ⟨C, hCC⟩ : ∃ C : Int, ((d + 1 : Nat) : Int) = C := ⟨_, rfl⟩
    rw [hCC] at hc eC1 eC2 HS1 HS2 HS3 ⊢
    generalize M / 2 ^ (d + 1) * 2 ^ (d + 1) = Bk at *
    generalize M / 2 ^ (d + 1) = K at *
    generalize M - Bk = Rt at *
    generalize (2 : Nat) ^ d = Hf at *
    generalize vz 24 (-149) M e false = V at *
    have hK : 0 ≤ (K : Int) ∧ (K : Int) ≤ 16777216 := by omega
    have key : ∀ (t : Int), cmpI (Rt : Int) (Hf : Int) = t → (0 < t ↔ Hf < Rt) ∧ (t = 0 ↔ Rt = Hf) := by
      intro t ht; subst ht; unfold cmpI; constructor <;> (split <;> (try split) <;> omega)
    obtain ⟨t, ht⟩ : ∃ t, cmpI (Rt : Int) (Hf : Int) = t := ⟨_, rfl⟩
    have key := key t ht
    rw [ht] at HC
    clear ht hrd hrv hrx hM
    have fin : ∀ (U : Int) (z : Bool), U = (V : Int) → (U == 16777216) = z → (if V = 16777216 then 8388608 else V : Nat) = (if z then U / 2 else U) ∧ (if V = 16777216 then e + C + 1 else e + C) = (if z then e + C + 1 else e + C) := by
      intro U z h1 h2
      subst h1
      by_cases c : V = 16777216
      · subst c
        have : z = true := by rw [← h2]; decide
        subst this; exact ⟨rfl, rfl⟩
      · have : z = false := by rw [← h2]; simp; omega
        subst this; rw [if_neg c, if_neg c]; exact ⟨rfl, rfl⟩
    by_cases ht1 : 0 < t
    · have hU : (K : Int) + 1 = (V : Int) := by rw [hv, if_pos (.inl (key.1.1 ht1))]; omega
      obtain ⟨z, hz⟩ : ∃ z, ((K : Int) + 1 == 16777216) = z := ⟨_, rfl⟩
      have f := fin _ z hU hz
      rw [f.1, f.2]
      by_cases g : e + ((bl M : Int) - 24) < (-149)
      · have ec := eC1 g
        cases z
        · exact rround24_Blo_gt0 a n0 c0 w _ e C t K K Bk Rt Hf hn he g ec hc hK ht1 hz HB HS1 HS2 HSub HOf HS3 HC HL
        · exact rround24_Blo_gt1 a n0 c0 w _ e C t K K Bk Rt Hf hn he g ec hc hK ht1 hz HB HS1 HS2 HSub HOf HS3 HC HL
      · have ec := eC2 (by omega)
        cases z
        · exact rround24_Bhi_gt0 a n0 c0 w _ e C t K K Bk Rt Hf hn he (by omega) ec hc hK ht1 hz HB HS1 HS2 HSub HOf HS3 HC HL
        · exact rround24_Bhi_gt1 a n0 c0 w _ e C t K K Bk Rt Hf hn he (by omega) ec hc hK ht1 hz HB HS1 HS2 HSub HOf HS3 HC HL
    · by_cases ht2 : t = 0
      · by_cases hodd : K % 2 = 1
        · have ho : (bits .and .u64 (K : Int) 1 == 1) = true := by rw [HB1]; exact beq_of (by omega)
          have hU : (K : Int) + 1 = (V : Int) := by rw [hv, if_pos (.inr ⟨key.2.1 ht2, by omega⟩)]; omega
          obtain ⟨z, hz⟩ : ∃ z, ((K : Int) + 1 == 16777216) = z := ⟨_, rfl⟩
          have f := fin _ z hU hz
          rw [f.1, f.2]
          by_cases g : e + ((bl M : Int) - 24) < (-149)
          · have ec := eC1 g
            cases z
            · exact rround24_Blo_odd0 a n0 c0 w _ e C t K K Bk Rt Hf hn he g ec hc hK ht2 ho hz HB HS1 HS2 HSub HOf HS3 HC HL
            · exact rround24_Blo_odd1 a n0 c0 w _ e C t K K Bk Rt Hf hn he g ec hc hK ht2 ho hz HB HS1 HS2 HSub HOf HS3 HC HL
          · have ec := eC2 (by omega)
            cases z
            · exact rround24_Bhi_odd0 a n0 c0 w _ e C t K K Bk Rt Hf hn he (by omega) ec hc hK ht2 ho hz HB HS1 HS2 HSub HOf HS3 HC HL
            · exact rround24_Bhi_odd1 a n0 c0 w _ e C t K K Bk Rt Hf hn he (by omega) ec hc hK ht2 ho hz HB HS1 HS2 HSub HOf HS3 HC HL
        · have ho : (bits .and .u64 (K : Int) 1 == 1) = false := by rw [HB1]; exact beq_no (by omega)
          have hU : (K : Int) = (V : Int) := by rw [hv, if_neg (by rintro (h | ⟨h, h2⟩) <;> omega)]
          obtain ⟨z, hz⟩ : ∃ z, ((K : Int) == 16777216) = z := ⟨_, rfl⟩
          have f := fin _ z hU hz
          rw [f.1, f.2]
          by_cases g : e + ((bl M : Int) - 24) < (-149)
          · have ec := eC1 g
            cases z
            · exact rround24_Blo_even0 a n0 c0 w _ e C t K K Bk Rt Hf hn he g ec hc hK ht2 ho hz HB HS1 HS2 HSub HOf HS3 HC HL
            · exact rround24_Blo_even1 a n0 c0 w _ e C t K K Bk Rt Hf hn he g ec hc hK ht2 ho hz HB HS1 HS2 HSub HOf HS3 HC HL
          · have ec := eC2 (by omega)
            cases z
            · exact rround24_Bhi_even0 a n0 c0 w _ e C t K K Bk Rt Hf hn he (by omega) ec hc hK ht2 ho hz HB HS1 HS2 HSub HOf HS3 HC HL
            · exact rround24_Bhi_even1 a n0 c0 w _ e C t K K Bk Rt Hf hn he (by omega) ec hc hK ht2 ho hz HB HS1 HS2 HSub HOf HS3 HC HL
      · have hU : (K : Int) = (V : Int) := by rw [hv, if_neg (by rintro (h | ⟨h, h2⟩) <;> omega)]
        obtain ⟨z, hz⟩ : ∃ z, ((K : Int) == 16777216) = z := ⟨_, rfl⟩
        have f := fin _ z hU hz
        rw [f.1, f.2]
        by_cases g : e + ((bl M : Int) - 24) < (-149)
        · have ec := eC1 g
          cases z
          · exact rround24_Blo_lt0 a n0 c0 w _ e C t K K Bk Rt Hf hn he g ec hc hK (by omega) hz HB HS1 HS2 HSub HOf HS3 HC HL
          · exact rround24_Blo_lt1 a n0 c0 w _ e C t K K Bk Rt Hf hn he g ec hc hK (by omega) hz HB HS1 HS2 HSub HOf HS3 HC HL
        · have ec := eC2 (by omega)
          cases z
          · exact rround24_Bhi_lt0 a n0 c0 w _ e C t K K Bk Rt Hf hn he (by omega) ec hc hK (by omega) hz HB HS1 HS2 HSub HOf HS3 HC HL
          · exact rround24_Bhi_lt1 a n0 c0 w _ e C t K K Bk Rt Hf hn he (by omega) ec hc hK (by omega) hz HB HS1 HS2 HSub HOf HS3 HC HL
end Go.Proofs.Ytecgkhijiogggaa
