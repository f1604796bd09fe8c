/- bobbinref1.ScaleDouble, and the law of triples. -/
import Derived.Test.YtdelhinfablhjaaY
namespace Go.Proofs.Ytdelhinfablhjaa
set_option linter.unusedVariables false
set_option linter.unusedSimpArgs false
open Go.RowKit Go.Shelf
theorem wrap_dhi (x y : Int) (hx : Word x) (hy : Word y) : IntKind.u64.wrap (dhi (x * y)) = x * y / 18446744073709551616 := by
  have := mul_lt hx hy
  rw [IntKind.wrap_u64]; unfold dhi wrap64; omega
theorem wrap_dlo (v : Int) : IntKind.u64.wrap (dlo v) = v % 18446744073709551616 := by
  rw [IntKind.wrap_u64]; unfold dlo wrap64; omega
theorem triple_facts {x y z lo hi n T : Int} (hxy : UD x y = aD lo hi) (hz : U z = aC n) (hT : T = sdT lo hi n) (bT : 0 ≤ sdT lo hi n ∧ sdT lo hi n ≤ 1569275433846670190958947355801916604025588861116008628224) :
    (IntKind.u64.wrap (IntKind.u64.wrap (dhi (U x * U z)) + IntKind.u64.wrap (dlo (U y * U z))) < IntKind.u64.wrap (dhi (U x * U z)) →
      Dig T (U (dlo (U x * U z))) (IntKind.u64.wrap (IntKind.u64.wrap (dhi (U x * U z)) + IntKind.u64.wrap (dlo (U y * U z)))) (IntKind.u64.wrap (IntKind.u64.wrap (dhi (U y * U z)) + 1)) ∧ IntKind.u64.wrap (IntKind.u64.wrap (dhi (U y * U z)) + 1) ≤ 4611686018427387904) ∧
    (¬ IntKind.u64.wrap (IntKind.u64.wrap (dhi (U x * U z)) + IntKind.u64.wrap (dlo (U y * U z))) < IntKind.u64.wrap (dhi (U x * U z)) →
      Dig T (U (dlo (U x * U z))) (IntKind.u64.wrap (IntKind.u64.wrap (dhi (U x * U z)) + IntKind.u64.wrap (dlo (U y * U z)))) (IntKind.u64.wrap (dhi (U y * U z))) ∧ IntKind.u64.wrap (dhi (U y * U z)) ≤ 4611686018427387904) := by
  rw [wrap_dhi _ _ (u_word x) (u_word z), wrap_dhi _ _ (u_word y) (u_word z), wrap_dlo]
  have m1 := mul_lt (u_word x) (u_word z)
  have m2 := mul_lt (u_word y) (u_word z)
  have e : T = (U y * U z) * 18446744073709551616 + U x * U z := by
    rw [hT]
    unfold sdT
    rw [← hxy, ← hz]
    unfold UD
    show (U y * 18446744073709551616 + U x) * U z = _
    rw [Int.add_mul, Int.mul_assoc, Int.mul_comm 18446744073709551616 (U z), ← Int.mul_assoc]
  rw [← hT] at bT
  have eU : U (dlo (U x * U z)) = U x * U z % 18446744073709551616 := by
    show U (wrap64 (U x * U z)) = _
    generalize U x * U z = A
    unfold U wrap64; omega
  rw [eU]
  generalize U x * U z = A at *
  generalize U y * U z = B at *
  simp only [IntKind.wrap_u64]
  exact ⟨fun h => ⟨⟨by omega, mod_word _, mod_word _, mod_word _⟩, by omega⟩, fun h => ⟨⟨by omega, mod_word _, mod_word _, ⟨by omega, by omega⟩⟩, by omega⟩⟩
theorem U_cell_wrap (m : Int) (h : Word m) : U (wrap64 m) = m := U_wrap m h.1 h.2
theorem UD_small (lo hi : Int) (h : 0 ≤ hi) (h1 : hi < 18446744073709551616) : UD lo hi = hi * 18446744073709551616 + U lo := by unfold UD U; rw [Int.emod_eq_of_lt h h1]
/-- Three divisions, from the top on. -/
theorem three_divs (a m t u T : Int) (hu : Cell u) (u1 : 1 ≤ u) (h : Dig T (U a) m t) (ht : t ≤ 4611686018427387904) : ∃ x0 x1 x2 r1 r2 : Int,
    Hid (∀ W : World, Calls Try.prog 38 #[.int .i64 t, .int .i64 0, .int .i64 u] W fun e w' => ∃ o, e = .returned (.tuple #[.int .i64 (dlo x2), .int .i64 o, .int .i64 r2]) ∧ W = w') ∧
    Hid (∀ W : World, Calls Try.prog 38 #[.int .i64 (wrap64 m), .int .i64 r2, .int .i64 u] W fun e w' => ∃ o, e = .returned (.tuple #[.int .i64 (dlo x1), .int .i64 o, .int .i64 r1]) ∧ W = w') ∧
    Hid (∀ W : World, Calls Try.prog 38 #[.int .i64 a, .int .i64 r1, .int .i64 u] W fun e w' => ∃ o, e = .returned (.tuple #[.int .i64 (dlo x0), .int .i64 o, .int .i64 (T % u)]) ∧ W = w') ∧ Dig (T / u) x0 x1 x2 := by
  obtain ⟨eT, A0, A1, A2⟩ := h
  have hu2 := hu.2
  have eu : U u = u := by unfold U; omega
  have L := long_div (U a) m t u A0 A1 A2 (by omega) (by omega)
  rw [← eT] at L
  have r2a := Int.emod_nonneg t (show u ≠ 0 by omega)
  have r2b := Int.emod_lt_of_pos t (show 0 < u by omega)
  have r1a := Int.emod_nonneg (t % u * 18446744073709551616 + m) (show u ≠ 0 by omega)
  have r1b := Int.emod_lt_of_pos (t % u * 18446744073709551616 + m) (show 0 < u by omega)
  have r0a := Int.emod_nonneg T (show u ≠ 0 by omega)
  have r0b := Int.emod_lt_of_pos T (show 0 < u by omega)
  have T0 : 0 ≤ T := by rw [eT]; have := A0.1; have := A1.1; have := A2.1; omega
  have q0 : 0 ≤ T / u := Int.ediv_nonneg T0 (by omega)
  have q1 : T / u ≤ T := Int.ediv_le_self _ T0
  have T1 : T ≤ 1569275433846670190958947355801916604025588861116008628224 + 340282366920938463463374607431768211456 := by rw [eT]; have := A0.2; have := A1.2; omega
  refine ⟨T / u % 18446744073709551616, T / u / 18446744073709551616 % 18446744073709551616, T / u / 18446744073709551616 / 18446744073709551616, (t % u * 18446744073709551616 + m) % u, t % u, ?_, ?_, ?_, ⟨by omega, mod_word _, mod_word _, ⟨by omega, by omega⟩⟩⟩
  · intro W
    have c := rdivide_c t 0 u hu (by omega) W
    rw [UD_small t 0 (by decide) (by decide), Int.zero_mul, Int.zero_add, show U t = t by unfold U; have := A2.1; omega, eu, L.2.2.1, show wrap64 (t % u) = t % u by unfold wrap64; omega] at c
    exact c.mono fun e w' h => ⟨_, h⟩
  · intro W
    have c := rdivide_c (wrap64 m) (t % u) u hu (by omega) W
    rw [UD_small _ (t % u) r2a (by omega), U_cell_wrap m A1, eu, L.2.1, show wrap64 ((t % u * 18446744073709551616 + m) % u) = (t % u * 18446744073709551616 + m) % u by unfold wrap64; omega] at c
    exact c.mono fun e w' h => ⟨_, h⟩
  · intro W
    have c := rdivide_c a ((t % u * 18446744073709551616 + m) % u) u hu (by omega) W
    rw [UD_small _ _ r1a (by omega), eu, L.1, L.2.2.2, show wrap64 (T % u) = T % u by unfold wrap64; omega] at c
    exact c.mono fun e w' h => ⟨_, h⟩
set_option maxRecDepth 100000 in
set_option maxHeartbeats 2000000 in
theorem rsd_c (lo hi n u : Int) (hl : Cell lo) (hh : Cell hi) (hn : Cell n) (hu : Cell u) (w : World) : Calls Try.prog 36 #[.int .i64 lo, .int .i64 hi, .int .i64 n, .int .i64 u] w fun e w' =>
    e = .returned (.tuple #[.int .i64 (n1 (sdV lo hi n u)), .int .i64 (n2 (sdV lo hi n u)), .int .i64 (n3 (sdV lo hi n u))]) ∧ w = w' := by
  by_cases hu0 : u < 1
  · unfold sdV
    rw [if_pos hu0]
    go_enter Try.func36, Try.ntmps36
    go_wp2
    go_ret3
    exact ⟨rfl, rfl⟩
  · have u1 : 1 ≤ u := by omega
    have u2 := hu.2
    have bD := aD_bounds lo hh
    have bT := sdT_bounds lo hh hn
    obtain ⟨T, hT⟩ : ∃ T, T = sdT lo hi n := ⟨_, rfl⟩
    obtain ⟨Q, hQ⟩ : ∃ Q, Q = T / u := ⟨_, rfl⟩
    obtain ⟨R, hR⟩ : ∃ R, R = T % u := ⟨_, rfl⟩
    have q0 : 0 ≤ Q := by rw [hQ]; exact Int.ediv_nonneg (by omega) (by omega)
    have q1 : Q ≤ 1569275433846670190958947355801916604025588861116008628224 := by have := Int.ediv_le_self u (a := T) (by omega); omega
    have r0 : 0 ≤ R := by rw [hR]; exact Int.emod_nonneg _ (by omega)
    have r1 : R < u := by rw [hR]; exact Int.emod_lt_of_pos _ (by omega)
    have HT := Lib.hid hT
    have HQ := Lib.hid hQ
    have HR := Lib.hid hR
    clear hT hQ hR
    obtain ⟨b, hb⟩ : ∃ b, sdB hi n = b := ⟨_, rfl⟩
    have HB := Lib.hid hb
    unfold sdB at hb
    go_enter Try.func36, Try.ntmps36
    go_upto_if 33 with (fail)
    clear hb
    go_cut [0, 1] (fun v0 v1 wc => (∃ x y : Int, v0 = .int .i64 x ∧ v1 = .int .i64 y ∧ Hid (UD x y = aD lo hi)) ∧ w = wc)
    case first =>
      by_cases ch : hi < 0
      · go_wp2_with (go_at_call 41; refine (rneg_c _ _ hl hh _).mono ?_; rintro e w' ⟨rfl, rfl⟩)
        go_meet
        case rel => exact ⟨⟨_, _, rfl, rfl, UD_size lo hi hh ch⟩, rfl⟩
      · have ch2 := Lib.hid ch
        go_wp2
        go_meet
        case rel => exact ⟨⟨_, _, rfl, rfl, UD_size' lo hi hh (by have := ch2.out; omega)⟩, rfl⟩
    case rest =>
      obtain ⟨⟨x, y, rfl, rfl, hxy⟩, rfl⟩ := hcut
      go_upto_if 41 with (fail)
      go_cut [2] (fun v2 wc => (∃ z : Int, v2 = .int .i64 z ∧ Hid (U z = aC n)) ∧ w = wc)
      case first =>
        by_cases cd : n < 0
        · go_wp2
          go_meet
          case rel => exact ⟨⟨_, rfl, (wrap_neg n hn cd).1⟩, rfl⟩
        · have cd2 := Lib.hid cd
          go_wp2
          go_meet
          case rel => exact ⟨⟨_, rfl, U_pos n hn (by have := cd2.out; omega)⟩, rfl⟩
      case rest =>
        obtain ⟨⟨z, rfl, hz⟩, rfl⟩ := hcut
        have K := Lib.hid (triple_facts (x := x) (y := y) (z := z) (lo := lo) (hi := hi) (n := n) hxy.out hz.out HT.out bT)
        go_upto_if 66 with (go_at_call 29; refine (rumul_c _ _ _).mono ?_; rintro e w' ⟨rfl, rfl⟩)
        go_cut [12, 16, 17] (fun v12 v16 v17 wc => (∃ a m t : Int, v12 = .int .i64 a ∧ v16 = .int .u64 m ∧ v17 = .int .u64 t ∧ Hid (Dig T (U a) m t ∧ t ≤ 4611686018427387904)) ∧ w = wc)
        case first =>
          by_cases cc : IntKind.u64.wrap (IntKind.u64.wrap (dhi (U x * U z)) + IntKind.u64.wrap (dlo (U y * U z))) < IntKind.u64.wrap (dhi (U x * U z))
          · have cc2 := Lib.hid cc
            go_wp2
            go_meet
            case rel => exact ⟨⟨_, _, _, rfl, rfl, rfl, K.out.1 cc2.out⟩, rfl⟩
          · have cc2 := Lib.hid cc
            go_wp2
            go_meet
            case rel => exact ⟨⟨_, _, _, rfl, rfl, rfl, K.out.2 (by have := cc2.out; omega)⟩, rfl⟩
        case rest =>
          obtain ⟨⟨a, m, t, rfl, rfl, rfl, ht⟩, rfl⟩ := hcut
          clear K
          have t0 := ht.out.1.a2.1
          have t1 := ht.out.2
          obtain ⟨x0, x1, x2, r1', r2', H3, H2, H1, HX⟩ := three_divs a m t u T hu u1 ht.out.1 t1
          rw [← HQ.out] at HX
          rw [← HR.out] at H1
          have a0 := HX.a0.1
          have a1 := HX.a0.2
          have b0 := HX.a1.1
          have b1 := HX.a1.2
          have c0 := HX.a2.1
          have c1 := HX.a2.2
          have HE := Lib.hid HX.eq
          clear HX ht
          obtain ⟨Q', hQ'⟩ : ∃ Q', Q' = (if (b && decide (0 < R)) then Q + 1 else Q) := ⟨_, rfl⟩
          have V : sdV lo hi n u = if sdOk b Q' then trip (dlo (sg b Q')) (dhi (sg b Q')) 0 else trip 0 0 (-11) := by
            unfold sdV
            rw [if_neg (show ¬ u < 1 by omega)]
            have e : sdQ lo hi n u = Q' := by
              unfold sdQ
              rw [← HT.out, ← HQ.out, ← HR.out, HB.out, hQ']
            rw [e, HB.out]
          have HV := Lib.hid V
          have HQ' := Lib.hid hQ'
          clear V hQ'
          by_cases e2 : x2 = 0
          · have z2 : (dlo x2 == 0) = true := beq_of' (by rw [e2]; unfold dlo wrap64; decide)
            have eq := HE.out
            rw [e2, Int.zero_mul, Int.zero_add] at eq
            have EQ := Lib.hid eq
            have d1 : dlo x1 = if x1 < 9223372036854775808 then x1 else x1 - 18446744073709551616 := by unfold dlo wrap64; split <;> omega
            have D1 := Lib.hid d1
            have e5 : dlo x0 = dlo Q := by unfold dlo wrap64; omega
            have e6 : dlo x1 = dhi Q := by unfold dlo dhi wrap64; omega
            have E5 := Lib.hid e5
            have E6 := Lib.hid e6
            clear eq e2 d1 e5 e6
            cases b
            · have hq : Q' = Q := by rw [HQ'.out]; rfl
              have HQQ := Lib.hid hq
              clear hq
              by_cases e3 : x1 < 9223372036854775808
              · have t3 : 0 ≤ dlo x1 := by rw [D1.out, if_pos e3]; exact b0
                have ok : sdOk false Q' = true := by rw [HQQ.out]; have := EQ.out; unfold sdOk; simp; omega
                go_wp2_with (first
                  | (go_at_call 38; with_reducible refine (H3.out _).mono ?_; rintro e w' ⟨o3, rfl, rfl⟩)
                  | (go_at_call 38; with_reducible refine (H2.out _).mono ?_; rintro e w' ⟨o2, rfl, rfl⟩)
                  | (go_at_call 38; with_reducible refine (H1.out _).mono ?_; rintro e w' ⟨o1, rfl, rfl⟩))
                go_ret3
                exact ⟨by rw [HV.out, ok, HQQ.out, E5.out, E6.out]; rfl, rfl⟩
              · have t3 : dlo x1 < 0 := by rw [D1.out, if_neg e3]; omega
                have no : sdOk false Q' = false := by rw [HQQ.out]; have := EQ.out; unfold sdOk; simp; omega
                go_wp2_with (first
                  | (go_at_call 38; with_reducible refine (H3.out _).mono ?_; rintro e w' ⟨o3, rfl, rfl⟩)
                  | (go_at_call 38; with_reducible refine (H2.out _).mono ?_; rintro e w' ⟨o2, rfl, rfl⟩)
                  | (go_at_call 38; with_reducible refine (H1.out _).mono ?_; rintro e w' ⟨o1, rfl, rfl⟩))
                go_ret3
                exact ⟨by rw [HV.out, no]; rfl, rfl⟩
            · go_upto_if 103 with (first
                | (go_at_call 38; with_reducible refine (H3.out _).mono ?_; rintro e w' ⟨o3, rfl, rfl⟩)
                | (go_at_call 38; with_reducible refine (H2.out _).mono ?_; rintro e w' ⟨o2, rfl, rfl⟩)
                | (go_at_call 38; with_reducible refine (H1.out _).mono ?_; rintro e w' ⟨o1, rfl, rfl⟩))
              go_cut [21, 23] (fun v21 v23 wc => (v21 = .int .i64 (dhi Q') ∧ v23 = .int .i64 (dlo Q') ∧ Hid (0 ≤ Q' ∧ Q' < 340282366920938463463374607431768211456)) ∧ w = wc)
              case first =>
                by_cases hR : R = 0
                · have hR' : (R == 0) = true := beq_of' hR
                  have hq : Q' = Q := by rw [HQ'.out, hR]; rfl
                  have HQQ := Lib.hid hq
                  clear hq hR
                  go_wp2
                  go_meet
                  case rel => exact ⟨⟨by rw [E6.out, HQQ.out], by rw [E5.out, HQQ.out], Lib.hid (by rw [HQQ.out]; have := EQ.out; omega)⟩, rfl⟩
                · have hR' : (R == 0) = false := by simpa using hR
                  have hq : Q' = Q + 1 := by rw [HQ'.out, if_pos (by simp; omega)]
                  have HQQ := Lib.hid hq
                  have k1 : dlo (D (dlo x0) (dlo x1) + D 1 0) = dlo Q' := by rw [hq, E5.out, E6.out]; unfold D dlo dhi wrap64; omega
                  have k2 : dhi (D (dlo x0) (dlo x1) + D 1 0) = dhi Q' := by rw [hq, E5.out, E6.out]; unfold D dlo dhi wrap64; omega
                  clear hq hR
                  by_cases top : Q' = 340282366920938463463374607431768211456
                  · have no : sdOk true Q' = false := by rw [top]; rfl
                    have z0 : (dlo Q' == 0) = true := beq_of' (by rw [top]; unfold dlo wrap64; decide)
                    have z1 : (dhi Q' == 0) = true := beq_of' (by rw [top]; unfold dhi wrap64; decide)
                    clear top
                    go_wp2_with (go_at_call 21; refine (radd_c _ _ _ _ _).mono ?_; rintro e w' ⟨rfl, rfl⟩)
                    go_ret3
                    exact ⟨by rw [HV.out, no]; rfl, rfl⟩
                  · have lt : 0 ≤ Q' ∧ Q' < 340282366920938463463374607431768211456 := by have := EQ.out; have := HQQ.out; omega
                    have LT := Lib.hid lt
                    clear lt top
                    by_cases z0 : dlo Q' = 0
                    · have z0' : (dlo Q' == 0) = true := beq_of' z0
                      have z1' : (dhi Q' == 0) = false := by have := LT.out; have := HQQ.out; unfold dlo dhi wrap64 at *; simp; omega
                      clear z0
                      go_wp2_with (go_at_call 21; refine (radd_c _ _ _ _ _).mono ?_; rintro e w' ⟨rfl, rfl⟩)
                      go_meet
                      case rel => exact ⟨⟨rfl, rfl, LT⟩, rfl⟩
                    · have z0' : (dlo Q' == 0) = false := by simpa using z0
                      clear z0
                      go_wp2_with (go_at_call 21; refine (radd_c _ _ _ _ _).mono ?_; rintro e w' ⟨rfl, rfl⟩)
                      go_meet
                      case rel => exact ⟨⟨rfl, rfl, LT⟩, rfl⟩
              case rest =>
                obtain ⟨⟨rfl, rfl, LT⟩, rfl⟩ := hcut
                by_cases e3 : Q' < 170141183460469231731687303715884105728
                · have ok : sdOk true Q' = true := by unfold sdOk; simp; omega
                  have t3 : 0 ≤ dhi Q' := by have := LT.out; unfold dhi wrap64; omega
                  have e4 := D_of Q' (by have := LT.out; omega) e3
                  have E4 := Lib.hid e4
                  clear e4
                  go_wp2_with (go_at_call 41; refine (rneg_c _ _ (cell_dlo _) (cell_dhi _) _).mono ?_; rintro e w' ⟨rfl, rfl⟩)
                  go_ret3
                  exact ⟨by rw [HV.out, ok, E4.out]; rfl, rfl⟩
                · have t3 : dhi Q' < 0 := by have := LT.out; unfold dhi wrap64; omega
                  by_cases e4 : Q' = 170141183460469231731687303715884105728
                  · have ok : sdOk true Q' = true := by rw [e4]; rfl
                    have z1 : (dhi Q' == -9223372036854775808) = true := beq_of' (by rw [e4]; unfold dhi wrap64; decide)
                    have z0 : (dlo Q' == 0) = true := beq_of' (by rw [e4]; unfold dlo wrap64; decide)
                    have f1 : dlo (-(D (dlo Q') (dhi Q'))) = dlo (-Q') := by rw [e4]; unfold D dlo dhi wrap64; decide
                    have f2 : dhi (-(D (dlo Q') (dhi Q'))) = dhi (-Q') := by rw [e4]; unfold D dlo dhi wrap64; decide
                    have F1 := Lib.hid f1
                    have F2 := Lib.hid f2
                    clear e4 e3 f1 f2
                    go_wp2_with (go_at_call 41; refine (rneg_c _ _ (cell_dlo _) (cell_dhi _) _).mono ?_; rintro e w' ⟨rfl, rfl⟩)
                    go_ret3
                    exact ⟨by rw [HV.out, ok, F1.out, F2.out]; rfl, rfl⟩
                  · have no : sdOk true Q' = false := by unfold sdOk; simp; omega
                    by_cases z1 : dhi Q' = -9223372036854775808
                    · have z1' : (dhi Q' == -9223372036854775808) = true := beq_of' z1
                      have z0' : (dlo Q' == 0) = false := by have := LT.out; unfold dlo dhi wrap64 at *; simp; omega
                      clear z1 e4 e3
                      go_wp2
                      go_ret3
                      exact ⟨by rw [HV.out, no]; rfl, rfl⟩
                    · have z1' : (dhi Q' == -9223372036854775808) = false := by simpa using z1
                      clear z1 e4 e3
                      go_wp2
                      go_ret3
                      exact ⟨by rw [HV.out, no]; rfl, rfl⟩
          · have z2 : (dlo x2 == 0) = false := by unfold dlo wrap64; simp; omega
            have no : sdOk b Q' = false := by rw [HQ'.out]; have := HE.out; unfold sdOk; split <;> split <;> simp <;> omega
            clear e2
            go_wp2_with (first
              | (go_at_call 38; with_reducible refine (H3.out _).mono ?_; rintro e w' ⟨o3, rfl, rfl⟩)
              | (go_at_call 38; with_reducible refine (H2.out _).mono ?_; rintro e w' ⟨o2, rfl, rfl⟩)
              | (go_at_call 38; with_reducible refine (H1.out _).mono ?_; rintro e w' ⟨o1, rfl, rfl⟩))
            go_ret3
            exact ⟨by rw [HV.out, no]; rfl, rfl⟩

theorem below_drewN' {B : Nat} {a w : World} (h : Below B a w) (n : Nat) : Below B a (w.drewN n) := ⟨h.os, h.tape, h.output, h.size, h.block⟩
theorem triples_walk (lo hi n u : Int) (hl : Cell lo) (hh : Cell hi) (hn : Cell n) (hu : Cell u) (w : World) : Calls Try.prog 10 #[.int .i64 lo, .int .i64 hi, .int .i64 n, .int .i64 u] w fun e w' => e = .returned (.bool true) ∧ Below w.heap.size w w' := by
  go_enter Try.func10, Try.ntmps10
  go_wp2_with (first
    | (go_at_call 35; refine (sd_c _ _ _ _ hh hn hu _).mono ?_; rintro e w1 ⟨rfl, hb⟩)
    | (go_at_call 36; refine (rsd_c _ _ _ _ hl hh hn hu _).mono ?_; rintro e w' ⟨rfl, rfl⟩)
    | (go_at_call 13; refine (awake_c _).mono ?_; rintro e w' ⟨rfl, n, rfl⟩))
  go_ret
  exact ⟨rfl, below_drewN' hb _⟩
end Go.Proofs.Ytdelhinfablhjaa
