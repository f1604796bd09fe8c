/- The walk of the law that a quotient times its divisor and the rest lead back. -/
import Derived.Test.YtdelhinfablhjaaW
namespace Go.Proofs.Ytdelhinfablhjaa
set_option linter.unusedVariables false
set_option linter.unusedSimpArgs false
open Go.RowKit Go.Shelf
theorem bne_of {a b : Int} (h : a = b) : (a != b) = false := by simpa using h
theorem dlo_D (lo hi : Int) (h : Cell lo) : dlo (D lo hi) = lo := by
  obtain ⟨h0, h1⟩ := h; unfold dlo D wrap64; omega
theorem dhi_D (lo hi : Int) (h : Cell hi) : dhi (D lo hi) = hi := by
  obtain ⟨h0, h1⟩ := h; unfold dhi D wrap64; omega
set_option maxRecDepth 100000 in
set_option maxHeartbeats 4000000 in
theorem back_walk (lo hi d : Int) (hl : Cell lo) (hh : Cell hi) (hd : Cell d) (w : World) : Calls Try.prog 8 #[.int .i64 lo, .int .i64 hi, .int .i64 d] w fun e w' => e = .returned (.bool true) ∧ ∃ n, w' = w.drewN n := by
  obtain ⟨r, q, t, hV, hO, hP⟩ := floor_out lo hi d hh hd
  obtain ⟨s, p, t2, hV2, hO2, hP2⟩ := sym_out lo hi d hh hd
  have C18 : ∀ W : World, Calls Try.prog 18 #[.int .i64 lo, .int .i64 hi, .int .i64 d] W fun e w' => e = .returned (.tuple #[.int .i64 r, .int .i64 q, .int .i64 t]) ∧ ∃ n, w' = W.drewN n := by
    intro W
    have := floor_c lo hi d hh hd W
    rwa [hV, n1_trip, n2_trip, n3_trip] at this
  have C16 : ∀ W : World, Calls Try.prog 16 #[.int .i64 lo, .int .i64 hi, .int .i64 d] W fun e w' => e = .returned (.tuple #[.int .i64 s, .int .i64 p, .int .i64 t2]) ∧ ∃ n, w' = W.drewN n := by
    intro W
    have := sym_c lo hi d hh hd W
    rwa [hV2, n1_trip, n2_trip, n3_trip] at this
  have C34 : ∀ q r, Cell q → Cell r → q * d + r = D lo hi → ∀ W : World, Calls Try.prog 34 #[.int .i64 q, .int .i64 d, .int .i64 r] W fun e w' => e = .returned (.tuple #[.int .i64 lo, .int .i64 hi]) ∧ W = w' := by
    intro q r hq hr e W
    have := back_c q d r hq hd hr W
    rwa [e, dlo_D lo hi hl, dhi_D lo hi hh] at this
  have H18 := Lib.hid C18
  have H16 := Lib.hid C16
  have H34 := Lib.hid C34
  have HO := Lib.hid hO
  have HO2 := Lib.hid hO2
  have HP := Lib.hid hP
  have HP2 := Lib.hid hP2
  clear C18 C16 C34 hO hO2 hP hP2 hV hV2
  have d0 := hd.1
  have d1 := hd.2
  go_enter Try.func8, Try.ntmps8
  go_upto_if 26 with (go_at_call 18; refine (H18.out _).mono ?_; rintro e w' ⟨rfl, n, rfl⟩)
  go_cut [10] (fun v10 wc => wc = w.drewN n)
  case first =>
    by_cases ht : t = 0
    · have hP := HP.out ht
      have hc := Lib.hid (H34.out q r (HO.out.cq ht) (HO.out.cr ht) (HO.out.eq ht))
      have r0 := (HO.out.cr ht).1
      have r1 := (HO.out.cr ht).2
      have ht2 : (t == 0) = true := beq_of ht
      by_cases cd : d < 0
      · have c1 := hP.2.2 cd
        have e1 : r = 0 ∨ r < 0 := by have h := hP.1; omega
        have b1 : decide (d < 0) = true := decide_eq_true cd
        clear hP ht
        rcases e1 with e1 | e1
        · have b2 : (r == 0) = true := beq_of e1
          have b3 : (r != 0) = false := bne_of e1
          clear e1
          go_wp2_with (go_at_call 34; refine (hc.out _).mono ?_; rintro e w' ⟨rfl, rfl⟩)
          go_meet
          case rel => rfl
        · have b2 : decide (r < 0) = true := decide_eq_true e1
          go_wp2_with (go_at_call 34; refine (hc.out _).mono ?_; rintro e w' ⟨rfl, rfl⟩)
          go_meet
          case rel => rfl
      · have b1 : decide (d < 0) = false := decide_eq_false cd
        have e2 : r = 0 ∨ 0 < r := by
          rcases hP.1 with h | h
          · exact .inl h
          · have h2 : ¬ r < 0 := fun k => cd (h.1 k)
            omega
        have e3 : ¬ d = 0 := by intro h; have := HO.out.z.2 h; omega
        have c1 := hP.2.1 (by omega)
        have c2 : 0 < d := by omega
        clear hP ht e3
        rcases e2 with e1 | e1
        · have b2 : (r == 0) = true := beq_of e1
          have b3 : (r != 0) = false := bne_of e1
          clear e1
          go_wp2_with (go_at_call 34; refine (hc.out _).mono ?_; rintro e w' ⟨rfl, rfl⟩)
          go_meet
          case rel => rfl
        · have b2 : decide (r < 0) = false := decide_eq_false (by omega)
          go_wp2_with (go_at_call 34; refine (hc.out _).mono ?_; rintro e w' ⟨rfl, rfl⟩)
          go_meet
          case rel => rfl
    · have ht2 : (t == 0) = false := by simpa using ht
      clear ht
      go_wp2
      go_meet
      case rel => rfl
  case rest =>
    subst hcut
    go_upto_if 80 with (go_at_call 16; refine (H16.out _).mono ?_; rintro e w' ⟨rfl, n2, rfl⟩)
    go_cut [15] (fun v15 wc => wc = w.drewN (n + n2))
    case first =>
      by_cases ht : t2 = 0
      · have hP := HP2.out ht
        have hc := Lib.hid (H34.out p s (HO2.out.cq ht) (HO2.out.cr ht) (HO2.out.eq ht))
        have r0 := (HO2.out.cr ht).1
        have r1 := (HO2.out.cr ht).2
        have ht2 : (t2 == 0) = true := beq_of ht
        have nz : ¬ d = 0 := by intro h; have := HO2.out.z.2 h; omega
        have e1 : s = 0 ∨ (s < 0 ∧ hi < 0) ∨ (0 < s ∧ 0 ≤ hi) := by have h := hP.1; omega
        by_cases cd : d < 0
        · have c1 := (hP.2.2 cd).1
          have c2 := (hP.2.2 cd).2
          have b1 : decide (d < 0) = true := decide_eq_true cd
          clear hP ht nz
          by_cases cm : d = -9223372036854775808
          · have cw : wrap64 (-d) = d := by rw [cm]; unfold wrap64; decide
            have cz : s < 0 ∨ s = 0 ∨ 0 < s := by omega
            have c3 : d ≤ s := by omega
            clear c2 cm
            rcases e1 with e1 | e1 | e1
            · have b2 : (s == 0) = true := beq_of e1
              have b3 : (s != 0) = false := bne_of e1
              clear e1 cz
              go_wp2_with (go_at_call 34; refine (hc.out _).mono ?_; rintro e w' ⟨rfl, rfl⟩)
              go_meet
              case rel => rfl
            · have b2 : decide (s < 0) = true := decide_eq_true e1.1
              have b4 : decide (hi < 0) = true := decide_eq_true e1.2
              obtain ⟨e3, e4⟩ := e1
              clear cz
              go_wp2_with (go_at_call 34; refine (hc.out _).mono ?_; rintro e w' ⟨rfl, rfl⟩)
              go_meet
              case rel => rfl
            · have b2 : decide (s < 0) = false := decide_eq_false (by omega)
              have b4 : decide (hi < 0) = false := decide_eq_false (by omega)
              obtain ⟨e3, e4⟩ := e1
              clear cz
              go_wp2_with (go_at_call 34; refine (hc.out _).mono ?_; rintro e w' ⟨rfl, rfl⟩)
              go_meet
              case rel => rfl
          · have cm2 : -9223372036854775807 ≤ d := by omega
            clear cm
            rcases e1 with e1 | e1 | e1
            · have b2 : (s == 0) = true := beq_of e1
              have b3 : (s != 0) = false := bne_of e1
              clear e1
              go_wp2_with (go_at_call 34; refine (hc.out _).mono ?_; rintro e w' ⟨rfl, rfl⟩)
              go_meet
              case rel => rfl
            · have b2 : decide (s < 0) = true := decide_eq_true e1.1
              have b4 : decide (hi < 0) = true := decide_eq_true e1.2
              obtain ⟨e3, e4⟩ := e1
              go_wp2_with (go_at_call 34; refine (hc.out _).mono ?_; rintro e w' ⟨rfl, rfl⟩)
              go_meet
              case rel => rfl
            · have b2 : decide (s < 0) = false := decide_eq_false (by omega)
              have b4 : decide (hi < 0) = false := decide_eq_false (by omega)
              obtain ⟨e3, e4⟩ := e1
              go_wp2_with (go_at_call 34; refine (hc.out _).mono ?_; rintro e w' ⟨rfl, rfl⟩)
              go_meet
              case rel => rfl
        · have b1 : decide (d < 0) = false := decide_eq_false cd
          have c3 : 0 < d := by omega
          have c1 := (hP.2.1 c3).1
          have c2 := (hP.2.1 c3).2
          clear hP ht nz
          rcases e1 with e1 | e1 | e1
          · have b2 : (s == 0) = true := beq_of e1
            have b3 : (s != 0) = false := bne_of e1
            clear e1
            go_wp2_with (go_at_call 34; refine (hc.out _).mono ?_; rintro e w' ⟨rfl, rfl⟩)
            go_meet
            case rel => rfl
          · have b2 : decide (s < 0) = true := decide_eq_true e1.1
            have b4 : decide (hi < 0) = true := decide_eq_true e1.2
            obtain ⟨e3, e4⟩ := e1
            go_wp2_with (go_at_call 34; refine (hc.out _).mono ?_; rintro e w' ⟨rfl, rfl⟩)
            go_meet
            case rel => rfl
          · have b2 : decide (s < 0) = false := decide_eq_false (by omega)
            have b4 : decide (hi < 0) = false := decide_eq_false (by omega)
            obtain ⟨e3, e4⟩ := e1
            go_wp2_with (go_at_call 34; refine (hc.out _).mono ?_; rintro e w' ⟨rfl, rfl⟩)
            go_meet
            case rel => rfl
      · have ht2 : (t2 == 0) = false := by simpa using ht
        clear ht
        go_wp2
        go_meet
        case rel => rfl
    case rest =>
      subst hcut
      by_cases z : d = 0
      · have z1 : (d == 0) = true := beq_of z
        have z2 : (t == -10) = true := beq_of (HO.out.z.2 z)
        have z3 : (t2 == -10) = true := beq_of (HO2.out.z.2 z)
        clear z
        go_wp2_with (go_at_call 13; refine (awake_c _).mono ?_; rintro e w' ⟨rfl, n, rfl⟩)
        go_ret
        exact ⟨rfl, _, rfl⟩
      · have z1 : (d == 0) = false := by simpa using z
        have z2 : (t == -10) = false := by have := mt HO.out.z.1 z; simpa using this
        have z3 : (t2 == -10) = false := by have := mt HO2.out.z.1 z; simpa using this
        clear z
        go_wp2_with (go_at_call 13; refine (awake_c _).mono ?_; rintro e w' ⟨rfl, n, rfl⟩)
        go_ret
        exact ⟨rfl, _, rfl⟩
end Go.Proofs.Ytdelhinfablhjaa
