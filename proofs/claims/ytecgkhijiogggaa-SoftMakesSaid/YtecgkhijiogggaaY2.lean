/- The reference's Make and Split. -/
import Derived.Test.YtecgkhijiogggaaY1
namespace Go.Proofs.Ytecgkhijiogggaa
set_option linter.unusedVariables false
set_option linter.unusedSimpArgs false
open Go.RowKit Go.Shelf SF

/-- What the reference's Make gives: nothing of more than 1000 words. -/
def makeR (n : Bool) (M : Nat) (e : Int) : Nat := if 32000 < bl M then NaN else makeV n M e
theorem makeR_ok (n : Bool) {M : Nat} (e : Int) (h : bl M ≤ 32000) : makeR n M e = makeV n M e := by unfold makeR; rw [if_neg (by omega)]
theorem len_gt {M : Nat} : 1000 < (ws M).length ↔ 32000 < bl M := by rw [ws_length]; omega
theorem len_z {M : Nat} : (ws M).length = 0 ↔ M = 0 := by
  constructor
  · intro h
    by_cases c : M = 0
    · exact c
    · rw [ws_pos c] at h; simp at h
  · intro h; rw [h, ws_zero]; rfl
set_option maxRecDepth 100000 in
set_option maxHeartbeats 2000000 in
theorem rmakeG_c (neg : Bool) (a : Option Addr) (n c : Nat) (l : List Int) (e : Int) (w : World) (hr : Rd w .u32 (.slice a n c) l) (hw : Words l) (hn : n ≤ 1000000) (he : -9223372036854775808 ≤ e ∧ e ≤ 9223372036854775807) :
    Calls Try.prog 58 #[.bool neg, .slice a n c, .int .i64 e] w fun x w' => x = .returned (.int .u64 ((makeR neg (wv l) e : Nat) : Int)) ∧ Below w.heap.size w w' := by
  have HN := rnorm_c a n c l w hr hw (by omega)
  have hbl := len_bound hw
  have hln := hr.parts.1
  obtain ⟨M, hM⟩ : ∃ M, wv l = M := ⟨_, rfl⟩
  rw [hM] at HN hbl ⊢
  have HN := Lib.hid HN
  have bM : bl M ≤ 32000000 := by omega
  clear hbl hln hM hr hw hn
  have HS0 : Hid (∀ w, Calls Try.prog 74 #[.bool neg, .int .u64 0] w fun e w' => e = .returned (.int .u64 ((sg neg 0 : Nat) : Int)) ∧ w = w') := fun w => rsigned_c 0 neg (by decide) w
  have HSI : Hid (∀ w, Calls Try.prog 74 #[.bool neg, .int .u64 9218868437227405312] w fun e w' => e = .returned (.int .u64 ((sg neg 9218868437227405312 : Nat) : Int)) ∧ w = w') := fun w => rsigned_c 9218868437227405312 neg (by decide) w
  by_cases g1 : 32000 < bl M
  · have HL := Lib.hid (fun (w1 : World) (a1 : Option Addr) (n1 c1 : Nat) (h : Nw w1 (.slice a1 n1 c1) M) => show 1000 < n1 by rw [(Rd.parts h).1]; exact len_gt.2 g1)
    have HR := Lib.hid (show ((makeR neg M e : Nat) : Int) = 9221120237041090560 by unfold makeR; rw [if_pos g1]; rfl)
    clear g1 bM
    go_enter Try.func58, Try.ntmps58
    go_wp2_with (go_at_call 106; (with_reducible refine (HN.out).mono ?_); rintro e1 w1 ⟨v1, rfl, hv1, hb1⟩; obtain ⟨a1, n1, c1, rfl⟩ := hv1.slice; have hl := HL.out _ _ _ _ hv1)
    go_ret
    exact ⟨ret1 HR.out.symm, hb1⟩
  have hR : makeR neg M e = makeV neg M e := makeR_ok neg e (by omega)
  rw [hR]
  clear hR
  by_cases g2 : M = 0
  · subst g2
    have HL := Lib.hid (fun (w1 : World) (a1 : Option Addr) (n1 c1 : Nat) (h : Nw w1 (.slice a1 n1 c1) 0) => show n1 = 0 by rw [(Rd.parts h).1]; exact len_z.2 rfl)
    have HR := Lib.hid (make_zero neg e)
    clear g1 bM
    go_enter Try.func58, Try.ntmps58
    go_wp2_with (first
      | (go_at_call 106; (with_reducible refine (HN.out).mono ?_); rintro e1 w1 ⟨v1, rfl, hv1, hb1⟩; obtain ⟨a1, n1, c1, rfl⟩ := hv1.slice; obtain rfl := HL.out _ _ _ _ hv1)
      | (go_at_call 74; (with_reducible refine (HS0.out _).mono ?_); rintro e2 w2 ⟨rfl, rfl⟩))
    go_ret
    exact ⟨ret1 (by rw [HR.out]), hb1⟩
  have HL := Lib.hid (fun (w1 : World) (a1 : Option Addr) (n1 c1 : Nat) (h : Nw w1 (.slice a1 n1 c1) M) => show (n1 ≤ 1000 ∧ 0 < n1) by
    have := (Rd.parts h).1
    have h1 := (not_congr (len_gt (M := M))).2 g1
    have h2 := (not_congr (len_z (M := M))).2 g2
    omega)
  have HB := Lib.hid (fun (w1 : World) (a1 : Option Addr) (n1 c1 : Nat) (h : Nw w1 (.slice a1 n1 c1) M) => rbits_n h (by omega))
  by_cases g3 : 2000 < e
  · have HR := Lib.hid (make_great neg g2 g3)
    clear g2 g1
    go_enter Try.func58, Try.ntmps58
    go_wp2_with (first
      | (go_at_call 106; (with_reducible refine (HN.out).mono ?_); rintro e1 w1 ⟨v1, rfl, hv1, hb1⟩; obtain ⟨a1, n1, c1, rfl⟩ := hv1.slice; obtain ⟨l1, l2⟩ := HL.out _ _ _ _ hv1)
      | (go_at_call 77; (with_reducible refine (HB.out _ _ _ _ hv1).mono ?_); rintro e3 w3 ⟨rfl, rfl⟩)
      | (go_at_call 74; (with_reducible refine (HSI.out _).mono ?_); rintro e2 w2 ⟨rfl, rfl⟩))
    go_ret
    exact ⟨ret1 (by rw [HR.out]; rfl), hb1⟩
  by_cases g4 : e < -1200 - (bl M : Int)
  · have HR := Lib.hid (make_tiny neg g4)
    clear g2 g1
    go_enter Try.func58, Try.ntmps58
    go_wp2_with (first
      | (go_at_call 106; (with_reducible refine (HN.out).mono ?_); rintro e1 w1 ⟨v1, rfl, hv1, hb1⟩; obtain ⟨a1, n1, c1, rfl⟩ := hv1.slice; obtain ⟨l1, l2⟩ := HL.out _ _ _ _ hv1)
      | (go_at_call 77; (with_reducible refine (HB.out _ _ _ _ hv1).mono ?_); rintro e3 w3 ⟨rfl, rfl⟩)
      | (go_at_call 74; (with_reducible refine (HS0.out _).mono ?_); rintro e2 w2 ⟨rfl, rfl⟩))
    go_ret
    exact ⟨ret1 (by rw [HR.out]), hb1⟩
  have HRD := fun (w1 : World) (a1 : Option Addr) (n1 c1 : Nat) (h : Nw w1 (.slice a1 n1 c1) M) => rround53_c a1 n1 c1 M w1 h (by omega) e (by omega) (by unfold qz; omega)
  have hov := @make_over neg M e g2
  have hun := @make_under neg M e g2
  have vl := rv_lt (p := 53) (by decide) (-1074) M e false
  rw [show (2 : Nat) ^ 53 = 9007199254740992 by decide] at vl
  have xg := rx_ge 53 (-1074) M e false
  unfold RndV at HRD
  obtain ⟨V, hV⟩ : ∃ V, rv 53 (-1074) M e false = V := ⟨_, rfl⟩
  obtain ⟨X, hX⟩ : ∃ X, rx 53 (-1074) M e false = X := ⟨_, rfl⟩
  rw [hV] at HRD hun vl
  rw [hX] at HRD hov hun xg
  by_cases g5 : 971 < X
  · have HR := Lib.hid (hov g5)
    rw [show decide (971 < X) = true from decide_eq_true g5] at HRD
    have HRD := Lib.hid HRD
    clear g2 g1 hov hun hV hX vl
    go_enter Try.func58, Try.ntmps58
    go_wp2_with (first
      | (go_at_call 106; (with_reducible refine (HN.out).mono ?_); rintro e1 w1 ⟨v1, rfl, hv1, hb1⟩; obtain ⟨a1, n1, c1, rfl⟩ := hv1.slice; obtain ⟨l1, l2⟩ := HL.out _ _ _ _ hv1)
      | (go_at_call 77; (with_reducible refine (HB.out _ _ _ _ hv1).mono ?_); rintro e3 w3 ⟨rfl, rfl⟩)
      | (go_at_call 98; (with_reducible refine (HRD.out _ _ _ _ hv1).mono ?_); rintro e4 w4 ⟨rfl, hb4⟩)
      | (go_at_call 74; (with_reducible refine (HSI.out _).mono ?_); rintro e2 w2 ⟨rfl, rfl⟩))
    go_ret
    exact ⟨ret1 (by rw [HR.out]; rfl), btn hb1 hb4⟩
  have hun := hun (by omega)
  rw [show decide (971 < X) = false from decide_eq_false g5] at HRD
  by_cases g6 : V < 4503599627370496
  · rw [if_pos g6] at hun
    have HSV := Lib.hid (fun w => rsigned_c V neg (by omega) w)
    have HR := Lib.hid hun
    have g7 : (V : Int) < 4503599627370496 := by omega
    obtain ⟨z, hz⟩ : ∃ z : Int, (V : Int) = z := ⟨_, rfl⟩
    rw [hz] at HRD g7 HSV
    have HRD := Lib.hid HRD
    clear g2 g1 hov hun hV hX vl g6 hz
    go_enter Try.func58, Try.ntmps58
    go_wp2_with (first
      | (go_at_call 106; (with_reducible refine (HN.out).mono ?_); rintro e1 w1 ⟨v1, rfl, hv1, hb1⟩; obtain ⟨a1, n1, c1, rfl⟩ := hv1.slice; obtain ⟨l1, l2⟩ := HL.out _ _ _ _ hv1)
      | (go_at_call 77; (with_reducible refine (HB.out _ _ _ _ hv1).mono ?_); rintro e3 w3 ⟨rfl, rfl⟩)
      | (go_at_call 98; (with_reducible refine (HRD.out _ _ _ _ hv1).mono ?_); rintro e4 w4 ⟨rfl, hb4⟩)
      | (go_at_call 74; (with_reducible refine (HSV.out _).mono ?_); rintro e2 w2 ⟨rfl, rfl⟩))
    go_ret
    exact ⟨ret1 (by rw [HR.out]), btn hb1 hb4⟩
  rw [if_neg g6] at hun
  obtain ⟨Y, hY⟩ : ∃ Y : Nat, X + 1075 = (Y : Int) := ⟨(X + 1075).toNat, by omega⟩
  rw [hY, Int.toNat_natCast] at hun
  obtain ⟨P, hP⟩ : ∃ P, Y * 4503599627370496 + (V - 4503599627370496) = P := ⟨_, rfl⟩
  rw [hP] at hun
  have hP2 : P < 9223372036854775808 := by omega
  have HSV := fun w => rsigned_c P neg hP2 w
  have HR := Lib.hid hun
  obtain ⟨z, hz⟩ : ∃ z : Int, (V : Int) = z := ⟨_, rfl⟩
  have eq : bits .or .u64 ((X + 1075) * 4503599627370496) (bits .and .u64 z 4503599627370495) = (P : Int) := by
    rw [← hz, band_frac (W_of (by omega)), hY, show ((Y : Int) * 4503599627370496) = ((Y * 4503599627370496 : Nat) : Int) by omega]
    rw [bor_at (s := 52) (by rw [show (2 : Nat) ^ 52 = 4503599627370496 by decide]; exact Nat.mul_mod_left _ _) (by rw [show (2 : Nat) ^ 52 = 4503599627370496 by decide]; unfold fr; omega) (W_of (by omega)) (W_of (by unfold fr; omega))]
    unfold fr
    omega
  obtain ⟨y, hy⟩ : ∃ y : Int, (P : Int) = y := ⟨_, rfl⟩
  rw [hy] at HSV eq
  have g7 : ¬ z < 4503599627370496 := by omega
  have g8 : z < 9007199254740992 := by omega
  rw [hz] at HRD
  have HRD := Lib.hid HRD
  have HSV := Lib.hid HSV
  clear g2 g1 hov hun hV hX vl g6 hz hY hP hP2 hy
  go_enter Try.func58, Try.ntmps58
  go_wp2_with (first
    | (go_at_call 106; (with_reducible refine (HN.out).mono ?_); rintro e1 w1 ⟨v1, rfl, hv1, hb1⟩; obtain ⟨a1, n1, c1, rfl⟩ := hv1.slice; obtain ⟨l1, l2⟩ := HL.out _ _ _ _ hv1)
    | (go_at_call 77; (with_reducible refine (HB.out _ _ _ _ hv1).mono ?_); rintro e3 w3 ⟨rfl, rfl⟩)
    | (go_at_call 98; (with_reducible refine (HRD.out _ _ _ _ hv1).mono ?_); rintro e4 w4 ⟨rfl, hb4⟩)
    | (go_at_call 74; (with_reducible refine (HSV.out _).mono ?_); rintro e2 w2 ⟨rfl, rfl⟩))
  go_ret
  exact ⟨ret1 (by rw [HR.out]), btn hb1 hb4⟩
end Go.Proofs.Ytecgkhijiogggaa
