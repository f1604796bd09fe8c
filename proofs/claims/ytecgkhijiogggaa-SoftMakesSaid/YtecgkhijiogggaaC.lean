/- length, round. -/
import Derived.Test.YtecgkhijiogggaaB
import Derived.Test.YtecgkhijiogggaaS9
import Derived.Lib.ItoaNum
namespace Go.Proofs.Ytecgkhijiogggaa
set_option linter.unusedVariables false
set_option linter.unusedSimpArgs false
open Go.RowKit Go.Shelf SF

theorem quiet_left {P : Program} {f : FuncId} {args : Array Value} {w : World} {n : Nat} {v : Value}
    (h : Calls P f args (w.drewN n) fun e w' => e = .returned v ∧ w.drewN n = w') : Calls P f args (w.drewN n) fun e w' => e = .returned v ∧ ∃ m, w' = w.drewN m :=
  h.mono fun _ _ ⟨h1, h2⟩ => ⟨h1, n, h2.symm⟩
theorem bitLen_bl {x : Nat} (h : x < 18446744073709551616) : Lib.bitLen x = bl x := by
  by_cases h0 : x = 0
  · subst h0; rfl
  · have := Lib.bitLenAux_bounds 64 x h h0
    unfold Lib.bitLen
    obtain ⟨b1, b2, b3⟩ := this
    obtain ⟨k, hk⟩ : ∃ k, Lib.bitLenAux 64 x = k + 1 := ⟨Lib.bitLenAux 64 x - 1, by omega⟩
    rw [hk] at b2 b3 ⊢
    exact (bl_eq (by simpa using b2) b3).symm
theorem bl_two {hi lo : Nat} (hl : W lo) (h : hi ≠ 0) : bl (two hi lo) = bl hi + 64 := by
  have := bl_add (n := hi) (s := 64) (r := lo) h (by rw [show (2 : Nat) ^ 64 = 18446744073709551616 by decide]; exact hl)
  rw [show (2 : Nat) ^ 64 = 18446744073709551616 by decide] at this
  exact this
theorem bl_W {x : Nat} (h : W x) : bl x ≤ 64 := bl_le_of_lt (k := 64) (by rw [show (2 : Nat) ^ 64 = 18446744073709551616 by decide]; exact h)
theorem len64_c (x : Nat) (h : W x) (w : World) : Calls Try.prog 101 #[.int .u64 x] w fun e w' => e = .returned (.int .i64 (bl x : Int)) ∧ w = w' := by
  have hx : (x : Int) ≤ 18446744073709551615 := by unfold W at h; omega
  refine (Try.bits_Len64 (x : Int) w (by omega) hx).mono ?_
  rintro e w' ⟨h1, h2⟩
  rw [Int.toNat_natCast, bitLen_bl h] at h1
  exact ⟨h1, h2.symm⟩
theorem length_c (hi lo : Nat) (hh : W hi) (hl : W lo) (w : World) : Calls Try.prog 113 #[.int .u64 hi, .int .u64 lo] w fun e w' => e = .returned (.int .i64 (bl (two hi lo) : Int)) ∧ w = w' := by
  have L1 := fun w => len64_c hi hh w
  have L2 := fun w => len64_c lo hl w
  by_cases h0 : hi = 0
  · subst h0
    have e : two 0 lo = lo := by unfold two; omega
    rw [e]
    obtain ⟨k, hk⟩ : ∃ k, bl lo = k := ⟨_, rfl⟩
    rw [hk] at L2 ⊢
    have HL := Lib.hid L2
    clear L1 L2 hk e hh hl
    go_enter Try.func113, Try.ntmps113
    go_wp2_with (go_at_call 101; refine (HL.out _).mono ?_; rintro e w' ⟨rfl, rfl⟩)
    go_ret
    exact ⟨rfl, rfl⟩
  · have e := bl_two hl h0
    rw [e]
    have hb := bl_W hh
    obtain ⟨k, hk⟩ : ∃ k, bl hi = k := ⟨_, rfl⟩
    rw [hk] at L1 hb ⊢
    have HL := Lib.hid L1
    have hp : (0 : Int) < hi := by omega
    clear L1 L2 hk e hh hl
    go_enter Try.func113, Try.ntmps113
    go_wp2_with (go_at_call 101; refine (HL.out _).mono ?_; rintro e w' ⟨rfl, rfl⟩)
    go_ret
    exact ⟨ret1 (by omega), rfl⟩
def fmt (p : Nat) (low high : Int) : Value := .agg #[.int .i64 (p : Int), .int .i64 low, .int .i64 high]
def RoundV (p : Nat) (low : Int) (M : Nat) (e : Int) (rest : Bool) : Value := .tuple #[.int .u64 (rv p low M e rest : Int), .int .i64 (rx p low M e rest)]
theorem round_ret {p : Nat} {low : Int} {M : Nat} {e : Int} {rest : Bool} {a : Nat} {x : Int} (h1 : rv p low M e rest = a) (h2 : rx p low M e rest = x) : Ending.returned (.tuple #[.int .u64 (a : Int), .int .i64 x]) = .returned (RoundV p low M e rest) := by
  unfold RoundV; rw [h1, h2]
theorem half_bit {l : Nat} (h : W l) : (bits .and .u64 (l : Int) 1 == 1) = decide (l % 2 = 1) := by
  rw [band_one h, Bool.eq_iff_iff]; simp only [beq_iff_eq, decide_eq_true_eq]; omega
set_option maxRecDepth 100000 in
set_option maxHeartbeats 2000000 in
/-- Where no digit is lost. -/
theorem round_left (p : Nat) (low high : Int) (hi lo : Nat) (e : Int) (rest : Bool) (hh : W hi) (hl : W lo) (he : -200000 ≤ e ∧ e ≤ 200000) (hp : p = 53 ∨ p = 24) (hlow : -2000 ≤ low ∧ low ≤ 0) (hq : qz p low (bl (two hi lo)) e ≤ e) (w : World) :
    Calls Try.prog 97 #[fmt p low high, .int .u64 hi, .int .u64 lo, .int .i64 e, .bool rest] w fun e' w' => e' = .returned (RoundV p low (two hi lo) e rest) ∧ Below w.heap.size w w' := by
  have L := fun w => length_c hi lo hh hl w
  have hb : bl (two hi lo) ≤ 128 := bl_le_of_lt (k := 128) (by rw [show (2 : Nat) ^ 128 = 340282366920938463463374607431768211456 by decide]; exact two_lt hh hl)
  obtain ⟨s, hs⟩ : ∃ s : Nat, e - qz p low (bl (two hi lo)) e = (s : Int) := ⟨(e - qz p low (bl (two hi lo)) e).toNat, by omega⟩
  have vv := vz_left rest (by omega) hh hl hs
  have v1 := vv.2.1
  have v2 := vv.2.2
  clear vv
  have p53 : 2 ^ p ≤ 9007199254740992 := by rcases hp with rfl | rfl <;> decide
  have r1 : rv p low (two hi lo) e rest = lo * 2 ^ s := by unfold rv; rw [v1, if_neg (by omega)]
  have r2 : rx p low (two hi lo) e rest = qz p low (bl (two hi lo)) e := by unfold rx; rw [v1, if_neg (by omega)]
  have w1 : IntKind.u64.wrap ((lo : Int) * 2 ^ s) = ((lo * 2 ^ s : Nat) : Int) := by
    have e1 : ((lo : Int) * 2 ^ s) = ((lo * 2 ^ s : Nat) : Int) := by rw [Int.natCast_mul, Int.natCast_pow]; rfl
    rw [IntKind.wrap_u64, e1]; omega
  have qe : qz p low (bl (two hi lo)) e = max ((bl (two hi lo) : Int) + e - p) low := rfl
  obtain ⟨q, hq2⟩ : ∃ q, qz p low (bl (two hi lo)) e = q := ⟨_, rfl⟩
  obtain ⟨k, hk⟩ : ∃ k, bl (two hi lo) = k := ⟨_, rfl⟩
  rw [hk] at L hb
  rw [hq2] at r2 hs hq qe
  rw [hk] at qe
  have s1 : IntKind.i64.wrap ((k : Int) + e) = (k : Int) + e := IntWalk.i64_in _ (by omega)
  have s2 : IntKind.i64.wrap ((k : Int) + e - p) = (k : Int) + e - p := IntWalk.i64_in _ (by omega)
  have bq : -300000 ≤ q ∧ q ≤ 300000 := by omega
  have HL := Lib.hid L
  have R1 := Lib.hid r1
  have R2 := Lib.hid r2
  have W1 := Lib.hid w1
  have qe' := qe.symm
  clear L hk hh hl r1 r2 w1 qe hq2 v1 v2 p53
  unfold fmt
  rcases hp with rfl | rfl
  · have qe2 : max ((k : Int) + e - 53) low = q := qe'
    have s3 : IntKind.i64.wrap ((k : Int) + e - 53) = (k : Int) + e - 53 := s2
    clear qe' s2
    go_enter Try.func97, Try.ntmps97
    go_wp2
    go_quiet ((go_at_call 113; exact quiet_left (HL.out _)))
    go_wp2
    go_ret2
    refine ⟨?_, below_drewN ((Below.refl _ _).alloc (Nat.le_refl _) _) _⟩
    rw [W1.out]
    exact round_ret R1.out R2.out
  · have qe2 : max ((k : Int) + e - 24) low = q := qe'
    have s3 : IntKind.i64.wrap ((k : Int) + e - 24) = (k : Int) + e - 24 := s2
    clear qe' s2
    go_enter Try.func97, Try.ntmps97
    go_wp2
    go_quiet ((go_at_call 113; exact quiet_left (HL.out _)))
    go_wp2
    go_ret2
    refine ⟨?_, below_drewN ((Below.refl _ _).alloc (Nat.le_refl _) _) _⟩
    rw [W1.out]
    exact round_ret R1.out R2.out
set_option maxRecDepth 100000 in
set_option maxHeartbeats 8000000 in
/-- Where digits are lost. -/
theorem round_right (p : Nat) (low high : Int) (hi lo : Nat) (e : Int) (rest : Bool) (hh : W hi) (hl : W lo) (he : -200000 ≤ e ∧ e ≤ 200000) (hp : p = 53 ∨ p = 24) (hlow : -2000 ≤ low ∧ low ≤ 0) (hq : e < qz p low (bl (two hi lo)) e) (w : World) :
    Calls Try.prog 97 #[fmt p low high, .int .u64 hi, .int .u64 lo, .int .i64 e, .bool rest] w fun e' w' => e' = .returned (RoundV p low (two hi lo) e rest) ∧ Below w.heap.size w w' := by
  have L := fun w => length_c hi lo hh hl w
  have hb : bl (two hi lo) ≤ 128 := bl_le_of_lt (k := 128) (by rw [show (2 : Nat) ^ 128 = 340282366920938463463374607431768211456 by decide]; exact two_lt hh hl)
  obtain ⟨d, hd⟩ : ∃ d : Nat, qz p low (bl (two hi lo)) e - e - 1 = (d : Int) := ⟨(qz p low (bl (two hi lo)) e - e - 1).toNat, by omega⟩
  obtain ⟨v1, v2⟩ := vz_right rest (by omega) hh hl hd
  have A := fun w => right_c hi lo d hh hl w
  have B : ∀ w, Calls Try.prog 84 #[.int .u64 (rH hi lo d : Int), .int .u64 (rL hi lo d : Int), .int .i64 1] w fun e w' => e = .returned (RightV (rH hi lo d) (rL hi lo d) 1) ∧ Below w.heap.size w w' := fun w => right_c (rH hi lo d) (rL hi lo d) 1 (rH_lt hh hl) (rL_lt _ _ _) w
  have l1 := half_bit (rL_lt hi lo d)
  have l2 := half_bit (rL_lt (rH hi lo d) (rL hi lo d) 1)
  have qe : qz p low (bl (two hi lo)) e = max ((bl (two hi lo) : Int) + e - p) low := rfl
  have rvd : rv p low (two hi lo) e rest = if vz p low (two hi lo) e rest = 2 ^ p then 2 ^ (p - 1) else vz p low (two hi lo) e rest := rfl
  have rxd : rx p low (two hi lo) e rest = if vz p low (two hi lo) e rest = 2 ^ p then qz p low (bl (two hi lo)) e + 1 else qz p low (bl (two hi lo)) e := rfl
  unfold RightV at A B
  obtain ⟨q, hq2⟩ : ∃ q, qz p low (bl (two hi lo)) e = q := ⟨_, rfl⟩
  obtain ⟨k, hk⟩ : ∃ k, bl (two hi lo) = k := ⟨_, rfl⟩
  obtain ⟨V, hV⟩ : ∃ V, vz p low (two hi lo) e rest = V := ⟨_, rfl⟩
  obtain ⟨h, hh2⟩ : ∃ h, rH hi lo d = h := ⟨_, rfl⟩
  obtain ⟨l, hl2⟩ : ∃ l, rL hi lo d = l := ⟨_, rfl⟩
  obtain ⟨t, ht2⟩ : ∃ t, rT hi lo d = t := ⟨_, rfl⟩
  obtain ⟨n, hn2⟩ : ∃ n, rL h l 1 = n := ⟨_, rfl⟩
  obtain ⟨h', hh3⟩ : ∃ n, rH h l 1 = n := ⟨_, rfl⟩
  obtain ⟨t', ht3⟩ : ∃ n, rT h l 1 = n := ⟨_, rfl⟩
  rw [hk] at L hb
  rw [hq2] at hd hq qe rxd
  rw [hk] at qe
  rw [hV] at v1 rvd rxd
  rw [hh2, hl2, ht2] at A
  rw [hh2, hl2, hn2] at v1 v2
  rw [hh2, hl2, hh3, hn2, ht3] at B
  rw [hl2] at l1
  rw [ht2] at v1
  rw [hh2, hl2, hn2] at l2
  have s1 : IntKind.i64.wrap ((k : Int) + e) = (k : Int) + e := IntWalk.i64_in _ (by omega)
  have s2 : IntKind.i64.wrap ((k : Int) + e - p) = (k : Int) + e - p := IntWalk.i64_in _ (by omega)
  have bq : -300000 ≤ q ∧ q ≤ 300000 := by omega
  have HL := Lib.hid L
  have HA := Lib.hid A
  have HB := Lib.hid B
  have V1 := Lib.hid v1
  have RV := Lib.hid rvd
  have RX := Lib.hid rxd
  have qe' := qe.symm
  have hd' := hd
  have hqe : ¬ q ≤ e := by omega
  clear L hk hh hl A B v1 rvd rxd qe hq2 hV hh2 hl2 ht2 hn2 hh3 ht3 hd
  have fin : ∀ nq w1 w2, Below ((w.alloc (.cells #[.int .i64 (p : Int), .int .i64 low, .int .i64 high] 77)).drewN nq).heap.size ((w.alloc (.cells #[.int .i64 (p : Int), .int .i64 low, .int .i64 high] 77)).drewN nq) w1 → Below w1.heap.size w1 w2 → Below w.heap.size w w2 := by
    intro nq w1 w2 h1 h2
    have h0 := below_drewN ((Below.refl w.heap.size w).alloc (Nat.le_refl _) (.cells #[.int .i64 (p : Int), .int .i64 low, .int .i64 high] 77)) nq
    have h3 := below_then h0 h0.size h1
    exact below_then h3 h3.size h2
  have FIN := Lib.hid fin
  have cel : ∀ nq w1 w2, Below ((w.alloc (.cells #[.int .i64 (p : Int), .int .i64 low, .int .i64 high] 77)).drewN nq).heap.size ((w.alloc (.cells #[.int .i64 (p : Int), .int .i64 low, .int .i64 high] 77)).drewN nq) w1 → Below w1.heap.size w1 w2 → w2.cell? ⟨w.heap.size, 0, none⟩ = some (.int .i64 (p : Int)) := by
    intro nq w1 w2 h1 h2
    have h3 := below_then h1 h1.size h2
    refine cell_below h3 ?_
    show (w.alloc _).cell? _ = _
    rw [World.cell?_alloc_mark]
    rfl
  have CEL := Lib.hid cel
  clear fin cel
  unfold fmt
  rcases hp with rfl | rfl
  · have n52 : n < 9007199254740992 := v2
    have KEEP : Hid (V = n → rv 53 low (two hi lo) e rest = n ∧ rx 53 low (two hi lo) e rest = q) := Lib.hid fun hv => by
      have h1 := RV.out; have h2 := RX.out
      rw [if_neg (by show ¬ V = 9007199254740992; omega)] at h1 h2
      exact ⟨h1.trans hv, h2⟩
    have UPN : Hid (V = n + 1 → ¬ n + 1 = 9007199254740992 → rv 53 low (two hi lo) e rest = n + 1 ∧ rx 53 low (two hi lo) e rest = q) := Lib.hid fun hv hc => by
      have h1 := RV.out; have h2 := RX.out
      rw [if_neg (by show ¬ V = 9007199254740992; omega)] at h1 h2
      exact ⟨h1.trans hv, h2⟩
    have UPC : Hid (V = n + 1 → n + 1 = 9007199254740992 → rv 53 low (two hi lo) e rest = 4503599627370496 ∧ rx 53 low (two hi lo) e rest = q + 1) := Lib.hid fun hv hc => by
      have h1 := RV.out; have h2 := RX.out
      rw [if_pos (by show V = 9007199254740992; omega)] at h1 h2
      exact ⟨h1, h2⟩
    clear RV RX v2
    have nne : ((n : Int) == 9007199254740992) = false := by simp; omega
    have qe2 : max ((k : Int) + e - 53) low = q := qe'
    have s3 : IntKind.i64.wrap ((k : Int) + e - 53) = (k : Int) + e - 53 := s2
    clear qe' s2
    by_cases c1 : l % 2 = 1
    · rw [decide_eq_true c1] at l1
      cases t
      · cases rest
        · by_cases c2 : n % 2 = 1
          · rw [decide_eq_true c2] at l2
            have K : l % 2 = 1 ∧ (false = true ∨ false = true ∨ n % 2 = 1) := ⟨c1, .inr (.inr c2)⟩
            have HV : Hid (V = n + 1) := Lib.hid (V1.out.trans (if_pos (K)))
            clear V1 KEEP K c1 c2
            by_cases hc : n + 1 = 9007199254740992
            · have bc : ((n : Int) + 1 == 9007199254740992) = true := by simp; omega
              have HC := Lib.hid hc
              have h2 : ((n : Int) + 1) / 2 = ((4503599627370496 : Nat) : Int) := by omega
              have H2 := Lib.hid h2
              clear hc UPN h2
              go_enter Try.func97, Try.ntmps97
              go_wp2
              go_quiet ((go_at_call 113; exact quiet_left (HL.out _)))
              go_wp2_with (first
                | (go_at_call 84; (with_reducible refine (HA.out _).mono ?_); rintro e1 w1 ⟨rfl, hb1⟩)
                | (go_at_call 84; (with_reducible refine (HB.out _).mono ?_); rintro e2 w2 ⟨rfl, hb2⟩; have hcl := CEL.out _ _ _ hb1 hb2))
              go_ret2
              refine ⟨?_, FIN.out _ _ _ hb1 hb2⟩
              rw [H2.out]
              exact round_ret (UPC.out HV.out HC.out).1 (UPC.out HV.out HC.out).2
            · have bc : ((n : Int) + 1 == 9007199254740992) = false := by simp; omega
              have HC := Lib.hid hc
              clear hc UPC
              go_enter Try.func97, Try.ntmps97
              go_wp2
              go_quiet ((go_at_call 113; exact quiet_left (HL.out _)))
              go_wp2_with (first
                | (go_at_call 84; (with_reducible refine (HA.out _).mono ?_); rintro e1 w1 ⟨rfl, hb1⟩)
                | (go_at_call 84; (with_reducible refine (HB.out _).mono ?_); rintro e2 w2 ⟨rfl, hb2⟩; have hcl := CEL.out _ _ _ hb1 hb2))
              go_ret2
              refine ⟨?_, FIN.out _ _ _ hb1 hb2⟩
              exact round_ret (a := n + 1) (UPN.out HV.out HC.out).1 (UPN.out HV.out HC.out).2
          · rw [decide_eq_false c2] at l2
            have K : ¬ (l % 2 = 1 ∧ (false = true ∨ false = true ∨ n % 2 = 1)) := by rintro ⟨_, h | h | h⟩; cases h; cases h; exact c2 h
            have HV : Hid (V = n) := Lib.hid (V1.out.trans (if_neg (K)))
            clear V1 UPN UPC K c1 c2
            go_enter Try.func97, Try.ntmps97
            go_wp2
            go_quiet ((go_at_call 113; exact quiet_left (HL.out _)))
            go_wp2_with (first
              | (go_at_call 84; (with_reducible refine (HA.out _).mono ?_); rintro e1 w1 ⟨rfl, hb1⟩)
              | (go_at_call 84; (with_reducible refine (HB.out _).mono ?_); rintro e2 w2 ⟨rfl, hb2⟩; have hcl := CEL.out _ _ _ hb1 hb2))
            go_ret2
            refine ⟨?_, FIN.out _ _ _ hb1 hb2⟩
            exact round_ret (KEEP.out HV.out).1 (KEEP.out HV.out).2
        · have K : l % 2 = 1 ∧ (false = true ∨ true = true ∨ n % 2 = 1) := ⟨c1, .inr (.inl rfl)⟩
          have HV : Hid (V = n + 1) := Lib.hid (V1.out.trans (if_pos (K)))
          clear V1 KEEP K c1
          by_cases hc : n + 1 = 9007199254740992
          · have bc : ((n : Int) + 1 == 9007199254740992) = true := by simp; omega
            have HC := Lib.hid hc
            have h2 : ((n : Int) + 1) / 2 = ((4503599627370496 : Nat) : Int) := by omega
            have H2 := Lib.hid h2
            clear hc UPN h2
            go_enter Try.func97, Try.ntmps97
            go_wp2
            go_quiet ((go_at_call 113; exact quiet_left (HL.out _)))
            go_wp2_with (first
              | (go_at_call 84; (with_reducible refine (HA.out _).mono ?_); rintro e1 w1 ⟨rfl, hb1⟩)
              | (go_at_call 84; (with_reducible refine (HB.out _).mono ?_); rintro e2 w2 ⟨rfl, hb2⟩; have hcl := CEL.out _ _ _ hb1 hb2))
            go_ret2
            refine ⟨?_, FIN.out _ _ _ hb1 hb2⟩
            rw [H2.out]
            exact round_ret (UPC.out HV.out HC.out).1 (UPC.out HV.out HC.out).2
          · have bc : ((n : Int) + 1 == 9007199254740992) = false := by simp; omega
            have HC := Lib.hid hc
            clear hc UPC
            go_enter Try.func97, Try.ntmps97
            go_wp2
            go_quiet ((go_at_call 113; exact quiet_left (HL.out _)))
            go_wp2_with (first
              | (go_at_call 84; (with_reducible refine (HA.out _).mono ?_); rintro e1 w1 ⟨rfl, hb1⟩)
              | (go_at_call 84; (with_reducible refine (HB.out _).mono ?_); rintro e2 w2 ⟨rfl, hb2⟩; have hcl := CEL.out _ _ _ hb1 hb2))
            go_ret2
            refine ⟨?_, FIN.out _ _ _ hb1 hb2⟩
            exact round_ret (a := n + 1) (UPN.out HV.out HC.out).1 (UPN.out HV.out HC.out).2
      · have K : l % 2 = 1 ∧ (true = true ∨ rest = true ∨ n % 2 = 1) := ⟨c1, .inl rfl⟩
        have HV : Hid (V = n + 1) := Lib.hid (V1.out.trans (if_pos (K)))
        clear V1 KEEP K c1
        by_cases hc : n + 1 = 9007199254740992
        · have bc : ((n : Int) + 1 == 9007199254740992) = true := by simp; omega
          have HC := Lib.hid hc
          have h2 : ((n : Int) + 1) / 2 = ((4503599627370496 : Nat) : Int) := by omega
          have H2 := Lib.hid h2
          clear hc UPN h2
          go_enter Try.func97, Try.ntmps97
          go_wp2
          go_quiet ((go_at_call 113; exact quiet_left (HL.out _)))
          go_wp2_with (first
            | (go_at_call 84; (with_reducible refine (HA.out _).mono ?_); rintro e1 w1 ⟨rfl, hb1⟩)
            | (go_at_call 84; (with_reducible refine (HB.out _).mono ?_); rintro e2 w2 ⟨rfl, hb2⟩; have hcl := CEL.out _ _ _ hb1 hb2))
          go_ret2
          refine ⟨?_, FIN.out _ _ _ hb1 hb2⟩
          rw [H2.out]
          exact round_ret (UPC.out HV.out HC.out).1 (UPC.out HV.out HC.out).2
        · have bc : ((n : Int) + 1 == 9007199254740992) = false := by simp; omega
          have HC := Lib.hid hc
          clear hc UPC
          go_enter Try.func97, Try.ntmps97
          go_wp2
          go_quiet ((go_at_call 113; exact quiet_left (HL.out _)))
          go_wp2_with (first
            | (go_at_call 84; (with_reducible refine (HA.out _).mono ?_); rintro e1 w1 ⟨rfl, hb1⟩)
            | (go_at_call 84; (with_reducible refine (HB.out _).mono ?_); rintro e2 w2 ⟨rfl, hb2⟩; have hcl := CEL.out _ _ _ hb1 hb2))
          go_ret2
          refine ⟨?_, FIN.out _ _ _ hb1 hb2⟩
          exact round_ret (a := n + 1) (UPN.out HV.out HC.out).1 (UPN.out HV.out HC.out).2
    · rw [decide_eq_false c1] at l1
      have K : ¬ (l % 2 = 1 ∧ (t = true ∨ rest = true ∨ n % 2 = 1)) := fun h => c1 h.1
      have HV : Hid (V = n) := Lib.hid (V1.out.trans (if_neg (K)))
      clear V1 UPN UPC K c1
      go_enter Try.func97, Try.ntmps97
      go_wp2
      go_quiet ((go_at_call 113; exact quiet_left (HL.out _)))
      go_wp2_with (first
        | (go_at_call 84; (with_reducible refine (HA.out _).mono ?_); rintro e1 w1 ⟨rfl, hb1⟩)
        | (go_at_call 84; (with_reducible refine (HB.out _).mono ?_); rintro e2 w2 ⟨rfl, hb2⟩; have hcl := CEL.out _ _ _ hb1 hb2))
      go_ret2
      refine ⟨?_, FIN.out _ _ _ hb1 hb2⟩
      exact round_ret (KEEP.out HV.out).1 (KEEP.out HV.out).2
  · have n52 : n < 16777216 := v2
    have KEEP : Hid (V = n → rv 24 low (two hi lo) e rest = n ∧ rx 24 low (two hi lo) e rest = q) := Lib.hid fun hv => by
      have h1 := RV.out; have h2 := RX.out
      rw [if_neg (by show ¬ V = 16777216; omega)] at h1 h2
      exact ⟨h1.trans hv, h2⟩
    have UPN : Hid (V = n + 1 → ¬ n + 1 = 16777216 → rv 24 low (two hi lo) e rest = n + 1 ∧ rx 24 low (two hi lo) e rest = q) := Lib.hid fun hv hc => by
      have h1 := RV.out; have h2 := RX.out
      rw [if_neg (by show ¬ V = 16777216; omega)] at h1 h2
      exact ⟨h1.trans hv, h2⟩
    have UPC : Hid (V = n + 1 → n + 1 = 16777216 → rv 24 low (two hi lo) e rest = 8388608 ∧ rx 24 low (two hi lo) e rest = q + 1) := Lib.hid fun hv hc => by
      have h1 := RV.out; have h2 := RX.out
      rw [if_pos (by show V = 16777216; omega)] at h1 h2
      exact ⟨h1, h2⟩
    clear RV RX v2
    have nne : ((n : Int) == 16777216) = false := by simp; omega
    have qe2 : max ((k : Int) + e - 24) low = q := qe'
    have s3 : IntKind.i64.wrap ((k : Int) + e - 24) = (k : Int) + e - 24 := s2
    clear qe' s2
    by_cases c1 : l % 2 = 1
    · rw [decide_eq_true c1] at l1
      cases t
      · cases rest
        · by_cases c2 : n % 2 = 1
          · rw [decide_eq_true c2] at l2
            have K : l % 2 = 1 ∧ (false = true ∨ false = true ∨ n % 2 = 1) := ⟨c1, .inr (.inr c2)⟩
            have HV : Hid (V = n + 1) := Lib.hid (V1.out.trans (if_pos (K)))
            clear V1 KEEP K c1 c2
            by_cases hc : n + 1 = 16777216
            · have bc : ((n : Int) + 1 == 16777216) = true := by simp; omega
              have HC := Lib.hid hc
              have h2 : ((n : Int) + 1) / 2 = ((8388608 : Nat) : Int) := by omega
              have H2 := Lib.hid h2
              clear hc UPN h2
              go_enter Try.func97, Try.ntmps97
              go_wp2
              go_quiet ((go_at_call 113; exact quiet_left (HL.out _)))
              go_wp2_with (first
                | (go_at_call 84; (with_reducible refine (HA.out _).mono ?_); rintro e1 w1 ⟨rfl, hb1⟩)
                | (go_at_call 84; (with_reducible refine (HB.out _).mono ?_); rintro e2 w2 ⟨rfl, hb2⟩; have hcl := CEL.out _ _ _ hb1 hb2))
              go_ret2
              refine ⟨?_, FIN.out _ _ _ hb1 hb2⟩
              rw [H2.out]
              exact round_ret (UPC.out HV.out HC.out).1 (UPC.out HV.out HC.out).2
            · have bc : ((n : Int) + 1 == 16777216) = false := by simp; omega
              have HC := Lib.hid hc
              clear hc UPC
              go_enter Try.func97, Try.ntmps97
              go_wp2
              go_quiet ((go_at_call 113; exact quiet_left (HL.out _)))
              go_wp2_with (first
                | (go_at_call 84; (with_reducible refine (HA.out _).mono ?_); rintro e1 w1 ⟨rfl, hb1⟩)
                | (go_at_call 84; (with_reducible refine (HB.out _).mono ?_); rintro e2 w2 ⟨rfl, hb2⟩; have hcl := CEL.out _ _ _ hb1 hb2))
              go_ret2
              refine ⟨?_, FIN.out _ _ _ hb1 hb2⟩
              exact round_ret (a := n + 1) (UPN.out HV.out HC.out).1 (UPN.out HV.out HC.out).2
          · rw [decide_eq_false c2] at l2
            have K : ¬ (l % 2 = 1 ∧ (false = true ∨ false = true ∨ n % 2 = 1)) := by rintro ⟨_, h | h | h⟩; cases h; cases h; exact c2 h
            have HV : Hid (V = n) := Lib.hid (V1.out.trans (if_neg (K)))
            clear V1 UPN UPC K c1 c2
            go_enter Try.func97, Try.ntmps97
            go_wp2
            go_quiet ((go_at_call 113; exact quiet_left (HL.out _)))
            go_wp2_with (first
              | (go_at_call 84; (with_reducible refine (HA.out _).mono ?_); rintro e1 w1 ⟨rfl, hb1⟩)
              | (go_at_call 84; (with_reducible refine (HB.out _).mono ?_); rintro e2 w2 ⟨rfl, hb2⟩; have hcl := CEL.out _ _ _ hb1 hb2))
            go_ret2
            refine ⟨?_, FIN.out _ _ _ hb1 hb2⟩
            exact round_ret (KEEP.out HV.out).1 (KEEP.out HV.out).2
        · have K : l % 2 = 1 ∧ (false = true ∨ true = true ∨ n % 2 = 1) := ⟨c1, .inr (.inl rfl)⟩
          have HV : Hid (V = n + 1) := Lib.hid (V1.out.trans (if_pos (K)))
          clear V1 KEEP K c1
          by_cases hc : n + 1 = 16777216
          · have bc : ((n : Int) + 1 == 16777216) = true := by simp; omega
            have HC := Lib.hid hc
            have h2 : ((n : Int) + 1) / 2 = ((8388608 : Nat) : Int) := by omega
            have H2 := Lib.hid h2
            clear hc UPN h2
            go_enter Try.func97, Try.ntmps97
            go_wp2
            go_quiet ((go_at_call 113; exact quiet_left (HL.out _)))
            go_wp2_with (first
              | (go_at_call 84; (with_reducible refine (HA.out _).mono ?_); rintro e1 w1 ⟨rfl, hb1⟩)
              | (go_at_call 84; (with_reducible refine (HB.out _).mono ?_); rintro e2 w2 ⟨rfl, hb2⟩; have hcl := CEL.out _ _ _ hb1 hb2))
            go_ret2
            refine ⟨?_, FIN.out _ _ _ hb1 hb2⟩
            rw [H2.out]
            exact round_ret (UPC.out HV.out HC.out).1 (UPC.out HV.out HC.out).2
          · have bc : ((n : Int) + 1 == 16777216) = false := by simp; omega
            have HC := Lib.hid hc
            clear hc UPC
            go_enter Try.func97, Try.ntmps97
            go_wp2
            go_quiet ((go_at_call 113; exact quiet_left (HL.out _)))
            go_wp2_with (first
              | (go_at_call 84; (with_reducible refine (HA.out _).mono ?_); rintro e1 w1 ⟨rfl, hb1⟩)
              | (go_at_call 84; (with_reducible refine (HB.out _).mono ?_); rintro e2 w2 ⟨rfl, hb2⟩; have hcl := CEL.out _ _ _ hb1 hb2))
            go_ret2
            refine ⟨?_, FIN.out _ _ _ hb1 hb2⟩
            exact round_ret (a := n + 1) (UPN.out HV.out HC.out).1 (UPN.out HV.out HC.out).2
      · have K : l % 2 = 1 ∧ (true = true ∨ rest = true ∨ n % 2 = 1) := ⟨c1, .inl rfl⟩
        have HV : Hid (V = n + 1) := Lib.hid (V1.out.trans (if_pos (K)))
        clear V1 KEEP K c1
        by_cases hc : n + 1 = 16777216
        · have bc : ((n : Int) + 1 == 16777216) = true := by simp; omega
          have HC := Lib.hid hc
          have h2 : ((n : Int) + 1) / 2 = ((8388608 : Nat) : Int) := by omega
          have H2 := Lib.hid h2
          clear hc UPN h2
          go_enter Try.func97, Try.ntmps97
          go_wp2
          go_quiet ((go_at_call 113; exact quiet_left (HL.out _)))
          go_wp2_with (first
            | (go_at_call 84; (with_reducible refine (HA.out _).mono ?_); rintro e1 w1 ⟨rfl, hb1⟩)
            | (go_at_call 84; (with_reducible refine (HB.out _).mono ?_); rintro e2 w2 ⟨rfl, hb2⟩; have hcl := CEL.out _ _ _ hb1 hb2))
          go_ret2
          refine ⟨?_, FIN.out _ _ _ hb1 hb2⟩
          rw [H2.out]
          exact round_ret (UPC.out HV.out HC.out).1 (UPC.out HV.out HC.out).2
        · have bc : ((n : Int) + 1 == 16777216) = false := by simp; omega
          have HC := Lib.hid hc
          clear hc UPC
          go_enter Try.func97, Try.ntmps97
          go_wp2
          go_quiet ((go_at_call 113; exact quiet_left (HL.out _)))
          go_wp2_with (first
            | (go_at_call 84; (with_reducible refine (HA.out _).mono ?_); rintro e1 w1 ⟨rfl, hb1⟩)
            | (go_at_call 84; (with_reducible refine (HB.out _).mono ?_); rintro e2 w2 ⟨rfl, hb2⟩; have hcl := CEL.out _ _ _ hb1 hb2))
          go_ret2
          refine ⟨?_, FIN.out _ _ _ hb1 hb2⟩
          exact round_ret (a := n + 1) (UPN.out HV.out HC.out).1 (UPN.out HV.out HC.out).2
    · rw [decide_eq_false c1] at l1
      have K : ¬ (l % 2 = 1 ∧ (t = true ∨ rest = true ∨ n % 2 = 1)) := fun h => c1 h.1
      have HV : Hid (V = n) := Lib.hid (V1.out.trans (if_neg (K)))
      clear V1 UPN UPC K c1
      go_enter Try.func97, Try.ntmps97
      go_wp2
      go_quiet ((go_at_call 113; exact quiet_left (HL.out _)))
      go_wp2_with (first
        | (go_at_call 84; (with_reducible refine (HA.out _).mono ?_); rintro e1 w1 ⟨rfl, hb1⟩)
        | (go_at_call 84; (with_reducible refine (HB.out _).mono ?_); rintro e2 w2 ⟨rfl, hb2⟩; have hcl := CEL.out _ _ _ hb1 hb2))
      go_ret2
      refine ⟨?_, FIN.out _ _ _ hb1 hb2⟩
      exact round_ret (KEEP.out HV.out).1 (KEEP.out HV.out).2
theorem round_c (p : Nat) (low high : Int) (hi lo : Nat) (e : Int) (rest : Bool) (hh : W hi) (hl : W lo) (he : -200000 ≤ e ∧ e ≤ 200000) (hp : p = 53 ∨ p = 24) (hlow : -2000 ≤ low ∧ low ≤ 0) (w : World) :
    Calls Try.prog 97 #[fmt p low high, .int .u64 hi, .int .u64 lo, .int .i64 e, .bool rest] w fun e' w' => e' = .returned (RoundV p low (two hi lo) e rest) ∧ Below w.heap.size w w' := by
  by_cases h : qz p low (bl (two hi lo)) e ≤ e
  · exact round_left p low high hi lo e rest hh hl he hp hlow h w
  · exact round_right p low high hi lo e rest hh hl he hp hlow (by omega) w
end Go.Proofs.Ytecgkhijiogggaa
