/- Date: the program's and the reference's. -/
import Derived.Test.YthigimmlhgdchaaA
namespace Go.Proofs.Ythigimmlhgdchaa
set_option linter.unusedVariables false
set_option linter.unusedSimpArgs false
open Go.RowKit

set_option maxRecDepth 100000 in
set_option maxHeartbeats 4000000 in
theorem date_c (b : Nat) (s n : Int) (w : World) (c0 : w.cell? ⟨b, 0, none⟩ = some (.int .i64 s)) (c1 : w.cell? ⟨b, 1, none⟩ = some (.int .i64 n)) (s0 : 0 ≤ s) (s1 : s ≤ 8589934592) (n0 : 0 ≤ n) (n1 : n ≤ 2199023255552)
    (t : Int) (ht : t = s + n / 1000) (d m y : Int) (hR : Dt (t / 86400) 0 2000 (d, m, y)) :
    Calls Try.prog 12 #[.pointer (some ⟨b, 0, none⟩)] w fun e w' => e = .returned (.tuple #[.int .i64 (t % 60), .int .i64 (t / 60 % 60), .int .i64 (t / 3600 % 24), .int .i64 (d + 1), .int .i64 (m + 1), .int .i64 y]) ∧ Below w.heap.size w w' := by
  have t0 : 0 ≤ t := by omega
  have t1 : t ≤ 10788957848 := by omega
  have q1 : n.tdiv 1000 = n / 1000 := Int.tdiv_eq_ediv_of_nonneg n0
  have q2 : IntKind.i64.wrap (s + n / 1000) = t := by rw [ht]; simp only [IntKind.wrap_i64]; omega
  have r1 : t.tmod 60 = t % 60 := Int.tmod_eq_emod_of_nonneg t0
  have r2 : t.tdiv 60 = t / 60 := Int.tdiv_eq_ediv_of_nonneg t0
  have r3 : (t / 60).tmod 60 = t / 60 % 60 := Int.tmod_eq_emod_of_nonneg (by omega)
  have r4 : t.tdiv 3600 = t / 3600 := Int.tdiv_eq_ediv_of_nonneg t0
  have r5 : (t / 3600).tmod 24 = t / 3600 % 24 := Int.tmod_eq_emod_of_nonneg (by omega)
  have r6 : t.tdiv 86400 = t / 86400 := Int.tdiv_eq_ediv_of_nonneg t0
  obtain ⟨D, hD⟩ : ∃ D, t / 86400 = D := ⟨_, rfl⟩
  have D0 : 0 ≤ D := by omega
  have D1 : D ≤ 124873 := by omega
  rw [hD] at hR r6
  have HR := Lib.hid hR
  have DY := Lib.hid (fun y m h0 h1 m0 m1 w => days_c y m h0 h1 m0 m1 w)
  clear hR ht hD
  go_enter Try.func12, Try.ntmps12
  go_wp2_with fail
  go_quiet (fail)
  go_wp2_with (go_at_call 22; (with_reducible refine (DY.out 2000 0 (by decide) (by decide) (by decide) (by decide) _).mono ?_); rintro e w' ⟨rfl, rfl⟩)
  go_loop [5, 6, 7, 9] (fun v5 v6 v7 v9 => ∃ x u z : Int, 0 ≤ x ∧ 0 ≤ u ∧ u ≤ 11 ∧ 2000 ≤ z ∧ z + x ≤ 126873 ∧ v5 = .int .i64 x ∧ v6 = .int .i64 u ∧ v7 = .int .i64 z ∧ v9 = .int .i64 (daysV z u) ∧ Hid (Dt x u z (d, m, y))) (fun v5 _ _ _ => (intOf v5).toNat)
  case atStart => exact ⟨D, 0, 2000, D0, by decide, by decide, by decide, by omega, rfl, rfl, rfl, rfl, HR⟩
  case round =>
    obtain ⟨x, u, z, x0, u0, u1, z0, zx, rfl, rfl, rfl, rfl, HI⟩ := hrel
    have g := daysV_ge z u
    by_cases hb : daysV z u ≤ x
    · have HN := Lib.hid (HI.out.at_step hb)
      obtain ⟨N, hN⟩ : ∃ N, daysV z u = N := ⟨_, rfl⟩
      rw [hN] at g hb HN ⊢
      clear hN HI HR
      by_cases h11 : u = 11
      · subst h11
        rw [show nextM 11 = 0 from rfl, show nextY 11 z = z + 1 from rfl] at HN
        go_wp2_with (go_at_call 22; (with_reducible refine (DY.out (z + 1) 0 (by omega) (by omega) (by decide) (by decide) _).mono ?_); rintro e w' ⟨rfl, rfl⟩)
        go_round
        case rel => exact ⟨x - N, 0, z + 1, by omega, by decide, by decide, by omega, by omega, rfl, rfl, rfl, rfl, HN⟩
        case measure => simp [intOf]; omega
      · have h12 : (u + 1 == 12) = false := beq_no (by omega)
        rw [show nextM u = u + 1 by unfold nextM; rw [if_neg (by omega)], show nextY u z = z by unfold nextY; rw [if_neg (by omega)]] at HN
        go_wp2_with (go_at_call 22; (with_reducible refine (DY.out z (u + 1) (by omega) (by omega) (by omega) (by omega) _).mono ?_); rintro e w' ⟨rfl, rfl⟩)
        go_round
        case rel => exact ⟨x - N, u + 1, z, by omega, by omega, by omega, by omega, by omega, rfl, rfl, rfl, rfl, HN⟩
        case measure => simp [intOf]; omega
    · have e := HI.out.at_end (by omega)
      injection e with e1 e2
      injection e2 with e2 e3
      subst e1 e2 e3
      have hb' : d < daysV y m := by omega
      obtain ⟨N, hN⟩ : ∃ N, daysV y m = N := ⟨_, rfl⟩
      rw [hN] at hb hb' ⊢
      clear hN HI HR hb g
      go_wp2_with fail
      exact bodyPost_ret (v := .tuple #[.int .i64 (t % 60), .int .i64 (t / 60 % 60), .int .i64 (t / 3600 % 24), .int .i64 (d + 1), .int .i64 (m + 1), .int .i64 y]) (by simp [results, Try.results12, go_sem]) rfl ⟨rfl, below_drewN (Below.refl _ _) _⟩
set_option maxRecDepth 100000 in
set_option maxHeartbeats 4000000 in
theorem rdate_c (b : Nat) (s n : Int) (w : World) (c0 : w.cell? ⟨b, 0, none⟩ = some (.int .i64 s)) (c1 : w.cell? ⟨b, 1, none⟩ = some (.int .i64 n)) (s0 : 0 ≤ s) (s1 : s ≤ 8589934592) (n0 : 0 ≤ n) (n1 : n ≤ 2199023255552)
    (t : Int) (ht : t = s + n / 1000) (d m y : Int) (hR : Dt (t / 86400) 0 2000 (d, m, y)) :
    Calls Try.prog 24 #[.pointer (some ⟨b, 0, none⟩)] w fun e w' => e = .returned (.tuple #[.int .i64 (t % 60), .int .i64 (t / 60 % 60), .int .i64 (t / 3600 % 24), .int .i64 (d + 1), .int .i64 (m + 1), .int .i64 y]) ∧ Below w.heap.size w w' := by
  have t0 : 0 ≤ t := by omega
  have t1 : t ≤ 10788957848 := by omega
  have k1 : t % 86400 % 60 = t % 60 := by omega
  have k2 : t % 86400 / 60 % 60 = t / 60 % 60 := by omega
  have k3 : t % 86400 / 3600 = t / 3600 % 24 := by omega
  have q1 : n.tdiv 1000 = n / 1000 := Int.tdiv_eq_ediv_of_nonneg n0
  have q2 : IntKind.i64.wrap (s + n / 1000) = t := by rw [ht]; simp only [IntKind.wrap_i64]; omega
  have r6 : t.tdiv 86400 = t / 86400 := Int.tdiv_eq_ediv_of_nonneg t0
  have r7 : t.tmod 86400 = t % 86400 := Int.tmod_eq_emod_of_nonneg t0
  obtain ⟨T, hT⟩ : ∃ T, t % 86400 = T := ⟨_, rfl⟩
  have T0 : 0 ≤ T := by omega
  have T1 : T < 86400 := by omega
  rw [hT] at k1 k2 k3 r7
  rw [← k1, ← k2, ← k3]
  have r1 : T.tmod 60 = T % 60 := Int.tmod_eq_emod_of_nonneg T0
  have r2 : T.tdiv 60 = T / 60 := Int.tdiv_eq_ediv_of_nonneg T0
  have r3 : (T / 60).tmod 60 = T / 60 % 60 := Int.tmod_eq_emod_of_nonneg (by omega)
  have r4 : T.tdiv 3600 = T / 3600 := Int.tdiv_eq_ediv_of_nonneg T0
  obtain ⟨D, hD⟩ : ∃ D, t / 86400 = D := ⟨_, rfl⟩
  have D0 : 0 ≤ D := by omega
  have D1 : D ≤ 124873 := by omega
  rw [hD] at hR r6
  have hR := dt_ref D0 hR
  have r8 : D.tdiv 146097 = D / 146097 := Int.tdiv_eq_ediv_of_nonneg D0
  have r9 : D.tmod 146097 = D % 146097 := Int.tmod_eq_emod_of_nonneg D0
  obtain ⟨Y, hY⟩ : ∃ Y, D / 146097 = Y := ⟨_, rfl⟩
  obtain ⟨E, hE⟩ : ∃ E, D % 146097 = E := ⟨_, rfl⟩
  have Y0 : 0 ≤ Y := by omega
  have Y1 : Y ≤ 0 := by omega
  have E0 : 0 ≤ E := by omega
  have E1 : E < 146097 := by omega
  have i1 : IntKind.i64.wrap (Y * 400) = Y * 400 := by simp only [IntKind.wrap_i64]; omega
  have i2 : IntKind.i64.wrap (2000 + Y * 400) = 2000 + Y * 400 := by simp only [IntKind.wrap_i64]; omega
  rw [hY] at hR r8
  rw [hE] at hR r9
  have HR := Lib.hid hR
  have DY := Lib.hid (fun y m h0 h1 m0 m1 w => rdays_c y m h0 h1 m0 m1 w)
  clear hR ht hT k1 k2 k3 hD hY hE
  go_enter Try.func24, Try.ntmps24
  go_wp2_with fail
  go_quiet (fail)
  go_wp2_with fail
  go_loop [9, 11, 12] (fun v9 v11 v12 => ∃ x u z : Int, 0 ≤ x ∧ 0 ≤ u ∧ u ≤ 11 ∧ 2000 ≤ z ∧ z + x ≤ 500000 ∧ v9 = .int .i64 x ∧ v11 = .int .i64 z ∧ v12 = .int .i64 (u + 1) ∧ Hid (Dt x u z (d, m, y))) (fun v9 _ _ => (intOf v9).toNat)
  case atStart => exact ⟨E, 0, 2000 + Y * 400, E0, by decide, by decide, by omega, by omega, rfl, rfl, rfl, HR⟩
  case round =>
    obtain ⟨x, u, z, x0, u0, u1, z0, zx, rfl, rfl, rfl, HI⟩ := hrel
    have g := daysV_ge z u
    have C := Lib.hid (fun w => DY.out z u (by omega) (by omega) u0 u1 w)
    by_cases hb : daysV z u ≤ x
    · have HN := Lib.hid (HI.out.at_step hb)
      obtain ⟨N, hN⟩ : ∃ N, daysV z u = N := ⟨_, rfl⟩
      rw [hN] at g hb HN C
      clear hN HI HR
      by_cases h11 : u = 11
      · subst h11
        rw [show nextM 11 = 0 from rfl, show nextY 11 z = z + 1 from rfl] at HN
        go_wp2_with (go_at_call 32; refine (C.out _).mono ?_; rintro e w' ⟨rfl, rfl⟩)
        go_round
        case rel => exact ⟨x - N, 0, z + 1, by omega, by decide, by decide, by omega, by omega, rfl, rfl, rfl, HN⟩
        case measure => simp [intOf]; omega
      · have h12 : ¬ 12 < u + 1 + 1 := by omega
        rw [show nextM u = u + 1 by unfold nextM; rw [if_neg (by omega)], show nextY u z = z by unfold nextY; rw [if_neg (by omega)]] at HN
        go_wp2_with (go_at_call 32; (with_reducible refine (C.out _).mono ?_); rintro e w' ⟨rfl, rfl⟩)
        go_round
        case rel => exact ⟨x - N, u + 1, z, by omega, by omega, by omega, by omega, by omega, rfl, rfl, by go_num, HN⟩
        case measure => simp [intOf]; omega
    · have e := HI.out.at_end (by omega)
      injection e with e1 e2
      injection e2 with e2 e3
      subst e1 e2 e3
      have hb' : d < daysV y m := by omega
      obtain ⟨N, hN⟩ : ∃ N, daysV y m = N := ⟨_, rfl⟩
      rw [hN] at hb hb' C
      clear hN HI HR hb g
      go_wp2_with (go_at_call 32; (with_reducible refine (C.out _).mono ?_); rintro e w' ⟨rfl, rfl⟩)
      exact bodyPost_ret (v := .tuple #[.int .i64 (T % 60), .int .i64 (T / 60 % 60), .int .i64 (T / 3600), .int .i64 (d + 1), .int .i64 (m + 1), .int .i64 y]) (by simp [results, Try.results24, go_sem]) rfl ⟨rfl, below_drewN (Below.refl _ _) _⟩
end Go.Proofs.Ythigimmlhgdchaa
