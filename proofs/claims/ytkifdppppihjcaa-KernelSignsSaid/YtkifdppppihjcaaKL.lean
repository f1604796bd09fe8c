/- Texts KL, for this seat. -/
import Derived.Test.YtkifdppppihjcaaKE
namespace Go.Proofs.Ytkifdppppihjcaa
set_option linter.unusedVariables false
set_option linter.unusedSimpArgs false
open Go.RowKit Go.Shelf Go.ChangeShapes Go.WideShapes SF

theorem kp_var3 {w0 w : World} (t : TypeId) (v1 v2 v3 : Value) (h : Kp w0 [] w) : Kp w0 [(⟨w.heap.size, 0, none⟩, v1), (⟨w.heap.size, 1, none⟩, v2), (⟨w.heap.size, 2, none⟩, v3)] (w.alloc (.cells #[v1, v2, v3] t)) := by
  refine ⟨h.1.alloc h.1.size _, fun c hc => ?_⟩
  simp only [List.mem_cons, List.not_mem_nil, or_false] at hc
  rcases hc with rfl | rfl | rfl <;> simp [go_sem]
set_option maxRecDepth 100000 in
set_option maxHeartbeats 1000000 in
theorem ln_n {x : Int} (H0 : Hid (All 11 #[.int .u64 x] (.bool true))) : All 31 #[.int .u64 x] (.int .u64 9221120237041090560) := by
  intro w
  have hk := kp_start w
  go_enter Try.func31, Try.ntmps31
  go_wp2_with (first
    | (go_at_call 11; (with_reducible refine (in_of H0.out (by assumption)).mono ?_); rintro e1 w5 ⟨rfl, hk⟩))
  go_ret
  exact ⟨rfl, Kp.b (by assumption)⟩
set_option maxRecDepth 100000 in
set_option maxHeartbeats 1000000 in
theorem ln_m {x : Int} (H0 : Hid (All 11 #[.int .u64 x] (.bool false))) (H1 : Hid (All 26 #[.int .u64 x, .int .u64 0] (.bool true))) : All 31 #[.int .u64 x] (.int .u64 9221120237041090560) := by
  intro w
  have hk := kp_start w
  go_enter Try.func31, Try.ntmps31
  go_wp2_with (first
    | (go_at_call 11; (with_reducible refine (in_of H0.out (by assumption)).mono ?_); rintro e1 w5 ⟨rfl, hk⟩)
    | (go_at_call 26; (with_reducible refine (in_of H1.out (by assumption)).mono ?_); rintro e1 w5 ⟨rfl, hk⟩))
  go_ret
  exact ⟨rfl, Kp.b (by assumption)⟩
set_option maxRecDepth 100000 in
set_option maxHeartbeats 1000000 in
theorem ln_z {x q : Int} (H0 : Hid (All 11 #[.int .u64 x] (.bool false))) (H1 : Hid (All 26 #[.int .u64 x, .int .u64 0] (.bool false))) (H2 : Hid (All 12 #[.int .u64 x] (.bool true))) (H3 : Hid (All 8 #[.int .u64 9218868437227405312] (.int .u64 q))) : All 31 #[.int .u64 x] (.int .u64 q) := by
  intro w
  have hk := kp_start w
  go_enter Try.func31, Try.ntmps31
  go_wp2_with (first
    | (go_at_call 11; (with_reducible refine (in_of H0.out (by assumption)).mono ?_); rintro e1 w5 ⟨rfl, hk⟩)
    | (go_at_call 26; (with_reducible refine (in_of H1.out (by assumption)).mono ?_); rintro e1 w5 ⟨rfl, hk⟩)
    | (go_at_call 12; (with_reducible refine (in_of H2.out (by assumption)).mono ?_); rintro e1 w5 ⟨rfl, hk⟩)
    | (go_at_call 8; (with_reducible refine (in_of H3.out (by assumption)).mono ?_); rintro e1 w5 ⟨rfl, hk⟩))
  go_ret
  exact ⟨rfl, Kp.b (by assumption)⟩
set_option maxRecDepth 100000 in
set_option maxHeartbeats 1000000 in
theorem ln_i {x : Int} (H0 : Hid (All 11 #[.int .u64 x] (.bool false))) (H1 : Hid (All 26 #[.int .u64 x, .int .u64 0] (.bool false))) (H2 : Hid (All 12 #[.int .u64 x] (.bool false))) (H3 : Hid (All 13 #[.int .u64 x] (.bool true))) : All 31 #[.int .u64 x] (.int .u64 x) := by
  intro w
  have hk := kp_start w
  go_enter Try.func31, Try.ntmps31
  go_wp2_with (first
    | (go_at_call 11; (with_reducible refine (in_of H0.out (by assumption)).mono ?_); rintro e1 w5 ⟨rfl, hk⟩)
    | (go_at_call 26; (with_reducible refine (in_of H1.out (by assumption)).mono ?_); rintro e1 w5 ⟨rfl, hk⟩)
    | (go_at_call 12; (with_reducible refine (in_of H2.out (by assumption)).mono ?_); rintro e1 w5 ⟨rfl, hk⟩)
    | (go_at_call 13; (with_reducible refine (in_of H3.out (by assumption)).mono ?_); rintro e1 w5 ⟨rfl, hk⟩))
  go_ret
  exact ⟨rfl, Kp.b (by assumption)⟩
set_option maxRecDepth 100000 in
set_option maxHeartbeats 1000000 in
theorem ln_g {x m kf e : Int} {c2 m3 s1 s2 s z p0 p t1 t3 q : Int} (H0 : Hid (All 11 #[.int .u64 x] (.bool false))) (H1 : Hid (All 26 #[.int .u64 x, .int .u64 0] (.bool false))) (H2 : Hid (All 12 #[.int .u64 x] (.bool false))) (H3 : Hid (All 13 #[.int .u64 x] (.bool false))) (H4 : Hid (All 16 #[.int .u64 m, .int .u64 4609047870845172685] (.bool true))) (H5 : Hid (All 25 #[.int .i64 2] (.int .u64 c2))) (H6 : Hid (All 17 #[.int .u64 m, .int .u64 c2] (.int .u64 m3))) (H7 : Hid (All 24 #[.int .u64 m3, .int .u64 4607182418800017408] (.int .u64 s1))) (H8 : Hid (All 18 #[.int .u64 m3, .int .u64 4607182418800017408] (.int .u64 s2))) (H9 : Hid (All 17 #[.int .u64 s1, .int .u64 s2] (.int .u64 s))) (H10 : Hid (All 20 #[.int .u64 s, .int .u64 s] (.int .u64 z))) (H11 : Hid (All 22 #[.int .i64 21] (.int .u64 p0))) (H12 : Hid (∀ ad : Addr, AllC [(ad, .int .u64 z)] 21 #[.int .u64 p0, .int .i64 9, .int .i64 0, .func (.func 54) #[] #[.pointer (some ad)]] (.int .u64 p))) (H13 : Hid (All 20 #[.int .u64 kf, .int .u64 4604418534313441775] (.int .u64 t1))) (H14 : Hid (All 18 #[.int .u64 t1, .int .u64 t3] (.int .u64 q)))
    {M BL LN : Nat} {l : List Int} (SP : Hid (∀ w, Calls Try.prog 52 #[.int .u64 x] w fun e' w' => ∃ b n c, e' = .returned (.tuple #[.bool false, .slice b n c, .int .i64 e, .bool true]) ∧ Rd w' .u32 (.slice b n c) l ∧ Below w.heap.size w w'))
    (hl : l.length = LN) (hl1 : 1 ≤ LN) (hl2 : LN ≤ 1000) (hbl : BL ≤ 64) (be1 : -3000 ≤ e) (be2 : e ≤ 3000) (hw : Hid (∀ k, 0 ≤ l.getD k 0 ∧ l.getD k 0 < 4294967296)) (SZ : Hid (∀ k, k + 1 = LN → 32 * k + bl (l.getD k 0).toNat = BL))
    (HB : Hid (∀ u : Int, 0 < u → u < 4294967296 → bl u.toNat = bl (u / 2).toNat + 1)) (HZ : bl 0 = 0) (B32 : Hid (∀ u : Int, 0 ≤ u → u < 4294967296 → bl u.toNat ≤ 32))
    (MK : Hid (∀ w a n c, Rd w .u32 (.slice a n c) l → Calls Try.prog 53 #[.bool false, .slice a n c, .int .i64 (1 - (BL : Int))] w fun e' w' => e' = .returned (.int .u64 m) ∧ Below w.heap.size w w'))
    (KF : Hid (All 25 #[.int .i64 (e + (BL : Int) - 1 + 1)] (.int .u64 kf)))
    (PR : Hid (∀ B : Nat, AllC [(⟨B, 0, none⟩, .int .u64 c2), (⟨B, 1, none⟩, .int .u64 s), (⟨B, 2, none⟩, .int .u64 p)] 55 #[.slice (some ⟨B, 0, none⟩) 3 3] (.int .u64 t3)))  : All 31 #[.int .u64 x] (.int .u64 q) := by
  intro w
  have hk := kp_start w
  go_enter Try.func31, Try.ntmps31
  go_wp2_with (first
    | (go_at_call 11; (with_reducible refine (in_of H0.out (by assumption)).mono ?_); rintro e1 w5 ⟨rfl, hk⟩)
    | (go_at_call 26; (with_reducible refine (in_of H1.out (by assumption)).mono ?_); rintro e1 w5 ⟨rfl, hk⟩)
    | (go_at_call 12; (with_reducible refine (in_of H2.out (by assumption)).mono ?_); rintro e1 w5 ⟨rfl, hk⟩)
    | (go_at_call 13; (with_reducible refine (in_of H3.out (by assumption)).mono ?_); rintro e1 w5 ⟨rfl, hk⟩)
    | (go_at_call 16; (with_reducible refine (in_of H4.out (by assumption)).mono ?_); rintro e1 w5 ⟨rfl, hk⟩)
    | (go_at_call 25; (with_reducible refine (in_of H5.out (by assumption)).mono ?_); rintro e1 w5 ⟨rfl, hk⟩)
    | (go_at_call 17; (with_reducible refine (in_of H6.out (by assumption)).mono ?_); rintro e1 w5 ⟨rfl, hk⟩)
    | (go_at_call 24; (with_reducible refine (in_of H7.out (by assumption)).mono ?_); rintro e1 w5 ⟨rfl, hk⟩)
    | (go_at_call 18; (with_reducible refine (in_of H8.out (by assumption)).mono ?_); rintro e1 w5 ⟨rfl, hk⟩)
    | (go_at_call 17; (with_reducible refine (in_of H9.out (by assumption)).mono ?_); rintro e1 w5 ⟨rfl, hk⟩)
    | (go_at_call 20; (with_reducible refine (in_of H10.out (by assumption)).mono ?_); rintro e1 w5 ⟨rfl, hk⟩)
    | (go_at_call 22; (with_reducible refine (in_of H11.out (kp_var _ _ (by assumption))).mono ?_); rintro e1 w5 ⟨rfl, hk⟩)
    | (go_at_call 21; (with_reducible refine (in_ofk (H12.out _) (by assumption)).mono ?_); rintro e1 w5 ⟨rfl, hk⟩)
    | (go_at_call 20; (with_reducible refine (in_of H13.out (by assumption)).mono ?_); rintro e1 w5 ⟨rfl, hk⟩)
    | (go_at_call 18; (with_reducible refine (in_of H14.out (by assumption)).mono ?_); rintro e1 w5 ⟨rfl, hk⟩)
    | (go_at_call 52; (with_reducible refine (SP.out _).mono ?_); rintro e1 w5 ⟨B, nl, cl, rfl, hv, hb5⟩; have hk := Kp.next hk hb5))
  have hn : nl = LN := by have := hv.parts.1; omega
  subst hn
  obtain ⟨g, off, rfl, hc⟩ := hv.addr (by omega)
  go_loop [7, 8, 9, 39] (fun v7 _ _ v39 => ∃ (i : Nat) (s : Int), i ≤ nl ∧ v39 = .int .i64 i ∧ v7 = .int .i64 s ∧ (i < nl → s = 32 * i) ∧ (i = nl → s = BL)) (fun _ _ _ v39 => nl - (intOf v39).toNat)
  case atStart => exact ⟨0, 0, Nat.zero_le _, rfl, rfl, fun _ => rfl, fun h => by omega⟩
  case round =>
    obtain ⟨i, s, hi, rfl, rfl, q1, q2⟩ := hrel
    by_cases hb : i < nl
    · have q1 := q1 hb
      subst q1
      clear q2
      have pa := hc i hb
      have hx := hw.out i
      have hz := SZ.out i
      obtain ⟨x0, hx0⟩ : ∃ x0, l.getD i 0 = x0 := ⟨_, rfl⟩
      rw [hx0] at pa hx hz
      clear hx0 hc
      go_wp2
      go_loop [7, 9] (fun v7 v9 => ∃ u c : Int, v9 = .int .u32 u ∧ v7 = .int .i64 (32 * i + c) ∧ 0 ≤ u ∧ u < 4294967296 ∧ 0 ≤ c ∧ c + (bl u.toNat : Int) = bl x0.toNat ∧ (bl x0.toNat : Int) ≤ 32) (fun _ v9 => (intOf v9).toNat)
      case atStart => exact ⟨x0, 0, rfl, by go_num, hx.1, hx.2, by omega, by omega, by have := B32.out _ hx.1 hx.2; omega⟩
      case round =>
        obtain ⟨u, c, rfl, rfl, u1, u2, c1, c3, c4⟩ := hrel
        by_cases hu : 0 < u
        · have hbl := HB.out u hu u2
          go_wp2
          go_round
          case rel => exact ⟨u / 2, c + 1, by go_num, by go_num, by omega, by omega, by omega, by omega, by omega⟩
          case measure => simp [intOf]; omega
        · have e0 : 0 = u := by omega
          subst e0
          have c2 : c = bl x0.toNat := by simp [HZ] at c3; omega
          by_cases hl3 : i + 1 < nl
          · go_wp2
            go_round
            case rel => exact ⟨i + 1, 32 * (i + 1), by omega, by go_num, by go_num, fun _ => by omega, fun h => by omega⟩
            case measure => simp [intOf]; omega
          · have hz := hz (by omega)
            go_wp2
            go_round
            case rel => exact ⟨i + 1, 32 * i + c, by omega, by go_num, by go_num, fun h => by omega, fun _ => by omega⟩
            case measure => simp [intOf]; omega
    · have q2 := q2 (by omega)
      subst q2
      clear q1
      go_wp2_with (first
        | (go_at_call 11; (with_reducible refine (in_of H0.out (by assumption)).mono ?_); rintro e1 w5 ⟨rfl, hk⟩)
        | (go_at_call 26; (with_reducible refine (in_of H1.out (by assumption)).mono ?_); rintro e1 w5 ⟨rfl, hk⟩)
        | (go_at_call 12; (with_reducible refine (in_of H2.out (by assumption)).mono ?_); rintro e1 w5 ⟨rfl, hk⟩)
        | (go_at_call 13; (with_reducible refine (in_of H3.out (by assumption)).mono ?_); rintro e1 w5 ⟨rfl, hk⟩)
        | (go_at_call 16; (with_reducible refine (in_of H4.out (by assumption)).mono ?_); rintro e1 w5 ⟨rfl, hk⟩)
        | (go_at_call 25; (with_reducible refine (in_of H5.out (by assumption)).mono ?_); rintro e1 w5 ⟨rfl, hk⟩)
        | (go_at_call 17; (with_reducible refine (in_of H6.out (by assumption)).mono ?_); rintro e1 w5 ⟨rfl, hk⟩)
        | (go_at_call 24; (with_reducible refine (in_of H7.out (by assumption)).mono ?_); rintro e1 w5 ⟨rfl, hk⟩)
        | (go_at_call 18; (with_reducible refine (in_of H8.out (by assumption)).mono ?_); rintro e1 w5 ⟨rfl, hk⟩)
        | (go_at_call 17; (with_reducible refine (in_of H9.out (by assumption)).mono ?_); rintro e1 w5 ⟨rfl, hk⟩)
        | (go_at_call 20; (with_reducible refine (in_of H10.out (by assumption)).mono ?_); rintro e1 w5 ⟨rfl, hk⟩)
        | (go_at_call 22; (with_reducible refine (in_of H11.out (kp_var _ _ (by assumption))).mono ?_); rintro e1 w5 ⟨rfl, hk⟩)
        | (go_at_call 21; (with_reducible refine (in_ofk (H12.out _) (by assumption)).mono ?_); rintro e1 w5 ⟨rfl, hk⟩)
        | (go_at_call 20; (with_reducible refine (in_of H13.out (by assumption)).mono ?_); rintro e1 w5 ⟨rfl, hk⟩)
        | (go_at_call 18; (with_reducible refine (in_of H14.out (by assumption)).mono ?_); rintro e1 w5 ⟨rfl, hk⟩)
        | (go_at_call 53; (with_reducible refine (MK.out _ _ _ _ hv).mono ?_); rintro e1 w5 ⟨rfl, hb5⟩; have hk := Kp.next hk hb5)
        | (go_at_call 25; (with_reducible refine (in_of_i KF.out (by omega) (by assumption)).mono ?_); rintro e1 w5 ⟨rfl, hk⟩)
        | (go_at_call 55; (with_reducible refine (in_ofk (PR.out _) (kp_var3 _ _ _ _ (Kp.none (by assumption)))).mono ?_); rintro e1 w5 ⟨rfl, hk⟩))
      go_ret
      exact ⟨rfl, Kp.b (by assumption)⟩
set_option maxRecDepth 100000 in
set_option maxHeartbeats 1000000 in
theorem ln_s {x m kf e : Int} {s1 s2 s z p0 p c2 t1 t3 q : Int} (H0 : Hid (All 11 #[.int .u64 x] (.bool false))) (H1 : Hid (All 26 #[.int .u64 x, .int .u64 0] (.bool false))) (H2 : Hid (All 12 #[.int .u64 x] (.bool false))) (H3 : Hid (All 13 #[.int .u64 x] (.bool false))) (H4 : Hid (All 16 #[.int .u64 m, .int .u64 4609047870845172685] (.bool false))) (H5 : Hid (All 24 #[.int .u64 m, .int .u64 4607182418800017408] (.int .u64 s1))) (H6 : Hid (All 18 #[.int .u64 m, .int .u64 4607182418800017408] (.int .u64 s2))) (H7 : Hid (All 17 #[.int .u64 s1, .int .u64 s2] (.int .u64 s))) (H8 : Hid (All 20 #[.int .u64 s, .int .u64 s] (.int .u64 z))) (H9 : Hid (All 22 #[.int .i64 21] (.int .u64 p0))) (H10 : Hid (∀ ad : Addr, AllC [(ad, .int .u64 z)] 21 #[.int .u64 p0, .int .i64 9, .int .i64 0, .func (.func 54) #[] #[.pointer (some ad)]] (.int .u64 p))) (H11 : Hid (All 25 #[.int .i64 2] (.int .u64 c2))) (H12 : Hid (All 20 #[.int .u64 kf, .int .u64 4604418534313441775] (.int .u64 t1))) (H13 : Hid (All 18 #[.int .u64 t1, .int .u64 t3] (.int .u64 q)))
    {M BL LN : Nat} {l : List Int} (SP : Hid (∀ w, Calls Try.prog 52 #[.int .u64 x] w fun e' w' => ∃ b n c, e' = .returned (.tuple #[.bool false, .slice b n c, .int .i64 e, .bool true]) ∧ Rd w' .u32 (.slice b n c) l ∧ Below w.heap.size w w'))
    (hl : l.length = LN) (hl1 : 1 ≤ LN) (hl2 : LN ≤ 1000) (hbl : BL ≤ 64) (be1 : -3000 ≤ e) (be2 : e ≤ 3000) (hw : Hid (∀ k, 0 ≤ l.getD k 0 ∧ l.getD k 0 < 4294967296)) (SZ : Hid (∀ k, k + 1 = LN → 32 * k + bl (l.getD k 0).toNat = BL))
    (HB : Hid (∀ u : Int, 0 < u → u < 4294967296 → bl u.toNat = bl (u / 2).toNat + 1)) (HZ : bl 0 = 0) (B32 : Hid (∀ u : Int, 0 ≤ u → u < 4294967296 → bl u.toNat ≤ 32))
    (MK : Hid (∀ w a n c, Rd w .u32 (.slice a n c) l → Calls Try.prog 53 #[.bool false, .slice a n c, .int .i64 (1 - (BL : Int))] w fun e' w' => e' = .returned (.int .u64 m) ∧ Below w.heap.size w w'))
    (KF : Hid (All 25 #[.int .i64 (e + (BL : Int) - 1)] (.int .u64 kf)))
    (PR : Hid (∀ B : Nat, AllC [(⟨B, 0, none⟩, .int .u64 c2), (⟨B, 1, none⟩, .int .u64 s), (⟨B, 2, none⟩, .int .u64 p)] 55 #[.slice (some ⟨B, 0, none⟩) 3 3] (.int .u64 t3)))  : All 31 #[.int .u64 x] (.int .u64 q) := by
  intro w
  have hk := kp_start w
  go_enter Try.func31, Try.ntmps31
  go_wp2_with (first
    | (go_at_call 11; (with_reducible refine (in_of H0.out (by assumption)).mono ?_); rintro e1 w5 ⟨rfl, hk⟩)
    | (go_at_call 26; (with_reducible refine (in_of H1.out (by assumption)).mono ?_); rintro e1 w5 ⟨rfl, hk⟩)
    | (go_at_call 12; (with_reducible refine (in_of H2.out (by assumption)).mono ?_); rintro e1 w5 ⟨rfl, hk⟩)
    | (go_at_call 13; (with_reducible refine (in_of H3.out (by assumption)).mono ?_); rintro e1 w5 ⟨rfl, hk⟩)
    | (go_at_call 16; (with_reducible refine (in_of H4.out (by assumption)).mono ?_); rintro e1 w5 ⟨rfl, hk⟩)
    | (go_at_call 24; (with_reducible refine (in_of H5.out (by assumption)).mono ?_); rintro e1 w5 ⟨rfl, hk⟩)
    | (go_at_call 18; (with_reducible refine (in_of H6.out (by assumption)).mono ?_); rintro e1 w5 ⟨rfl, hk⟩)
    | (go_at_call 17; (with_reducible refine (in_of H7.out (by assumption)).mono ?_); rintro e1 w5 ⟨rfl, hk⟩)
    | (go_at_call 20; (with_reducible refine (in_of H8.out (by assumption)).mono ?_); rintro e1 w5 ⟨rfl, hk⟩)
    | (go_at_call 22; (with_reducible refine (in_of H9.out (kp_var _ _ (by assumption))).mono ?_); rintro e1 w5 ⟨rfl, hk⟩)
    | (go_at_call 21; (with_reducible refine (in_ofk (H10.out _) (by assumption)).mono ?_); rintro e1 w5 ⟨rfl, hk⟩)
    | (go_at_call 25; (with_reducible refine (in_of H11.out (by assumption)).mono ?_); rintro e1 w5 ⟨rfl, hk⟩)
    | (go_at_call 20; (with_reducible refine (in_of H12.out (by assumption)).mono ?_); rintro e1 w5 ⟨rfl, hk⟩)
    | (go_at_call 18; (with_reducible refine (in_of H13.out (by assumption)).mono ?_); rintro e1 w5 ⟨rfl, hk⟩)
    | (go_at_call 52; (with_reducible refine (SP.out _).mono ?_); rintro e1 w5 ⟨B, nl, cl, rfl, hv, hb5⟩; have hk := Kp.next hk hb5))
  have hn : nl = LN := by have := hv.parts.1; omega
  subst hn
  obtain ⟨g, off, rfl, hc⟩ := hv.addr (by omega)
  go_loop [7, 8, 9, 39] (fun v7 _ _ v39 => ∃ (i : Nat) (s : Int), i ≤ nl ∧ v39 = .int .i64 i ∧ v7 = .int .i64 s ∧ (i < nl → s = 32 * i) ∧ (i = nl → s = BL)) (fun _ _ _ v39 => nl - (intOf v39).toNat)
  case atStart => exact ⟨0, 0, Nat.zero_le _, rfl, rfl, fun _ => rfl, fun h => by omega⟩
  case round =>
    obtain ⟨i, s, hi, rfl, rfl, q1, q2⟩ := hrel
    by_cases hb : i < nl
    · have q1 := q1 hb
      subst q1
      clear q2
      have pa := hc i hb
      have hx := hw.out i
      have hz := SZ.out i
      obtain ⟨x0, hx0⟩ : ∃ x0, l.getD i 0 = x0 := ⟨_, rfl⟩
      rw [hx0] at pa hx hz
      clear hx0 hc
      go_wp2
      go_loop [7, 9] (fun v7 v9 => ∃ u c : Int, v9 = .int .u32 u ∧ v7 = .int .i64 (32 * i + c) ∧ 0 ≤ u ∧ u < 4294967296 ∧ 0 ≤ c ∧ c + (bl u.toNat : Int) = bl x0.toNat ∧ (bl x0.toNat : Int) ≤ 32) (fun _ v9 => (intOf v9).toNat)
      case atStart => exact ⟨x0, 0, rfl, by go_num, hx.1, hx.2, by omega, by omega, by have := B32.out _ hx.1 hx.2; omega⟩
      case round =>
        obtain ⟨u, c, rfl, rfl, u1, u2, c1, c3, c4⟩ := hrel
        by_cases hu : 0 < u
        · have hbl := HB.out u hu u2
          go_wp2
          go_round
          case rel => exact ⟨u / 2, c + 1, by go_num, by go_num, by omega, by omega, by omega, by omega, by omega⟩
          case measure => simp [intOf]; omega
        · have e0 : 0 = u := by omega
          subst e0
          have c2 : c = bl x0.toNat := by simp [HZ] at c3; omega
          by_cases hl3 : i + 1 < nl
          · go_wp2
            go_round
            case rel => exact ⟨i + 1, 32 * (i + 1), by omega, by go_num, by go_num, fun _ => by omega, fun h => by omega⟩
            case measure => simp [intOf]; omega
          · have hz := hz (by omega)
            go_wp2
            go_round
            case rel => exact ⟨i + 1, 32 * i + c, by omega, by go_num, by go_num, fun h => by omega, fun _ => by omega⟩
            case measure => simp [intOf]; omega
    · have q2 := q2 (by omega)
      subst q2
      clear q1
      go_wp2_with (first
        | (go_at_call 11; (with_reducible refine (in_of H0.out (by assumption)).mono ?_); rintro e1 w5 ⟨rfl, hk⟩)
        | (go_at_call 26; (with_reducible refine (in_of H1.out (by assumption)).mono ?_); rintro e1 w5 ⟨rfl, hk⟩)
        | (go_at_call 12; (with_reducible refine (in_of H2.out (by assumption)).mono ?_); rintro e1 w5 ⟨rfl, hk⟩)
        | (go_at_call 13; (with_reducible refine (in_of H3.out (by assumption)).mono ?_); rintro e1 w5 ⟨rfl, hk⟩)
        | (go_at_call 16; (with_reducible refine (in_of H4.out (by assumption)).mono ?_); rintro e1 w5 ⟨rfl, hk⟩)
        | (go_at_call 24; (with_reducible refine (in_of H5.out (by assumption)).mono ?_); rintro e1 w5 ⟨rfl, hk⟩)
        | (go_at_call 18; (with_reducible refine (in_of H6.out (by assumption)).mono ?_); rintro e1 w5 ⟨rfl, hk⟩)
        | (go_at_call 17; (with_reducible refine (in_of H7.out (by assumption)).mono ?_); rintro e1 w5 ⟨rfl, hk⟩)
        | (go_at_call 20; (with_reducible refine (in_of H8.out (by assumption)).mono ?_); rintro e1 w5 ⟨rfl, hk⟩)
        | (go_at_call 22; (with_reducible refine (in_of H9.out (kp_var _ _ (by assumption))).mono ?_); rintro e1 w5 ⟨rfl, hk⟩)
        | (go_at_call 21; (with_reducible refine (in_ofk (H10.out _) (by assumption)).mono ?_); rintro e1 w5 ⟨rfl, hk⟩)
        | (go_at_call 25; (with_reducible refine (in_of H11.out (by assumption)).mono ?_); rintro e1 w5 ⟨rfl, hk⟩)
        | (go_at_call 20; (with_reducible refine (in_of H12.out (by assumption)).mono ?_); rintro e1 w5 ⟨rfl, hk⟩)
        | (go_at_call 18; (with_reducible refine (in_of H13.out (by assumption)).mono ?_); rintro e1 w5 ⟨rfl, hk⟩)
        | (go_at_call 53; (with_reducible refine (MK.out _ _ _ _ hv).mono ?_); rintro e1 w5 ⟨rfl, hb5⟩; have hk := Kp.next hk hb5)
        | (go_at_call 25; (with_reducible refine (in_of_i KF.out (by omega) (by assumption)).mono ?_); rintro e1 w5 ⟨rfl, hk⟩)
        | (go_at_call 55; (with_reducible refine (in_ofk (PR.out _) (kp_var3 _ _ _ _ (Kp.none (by assumption)))).mono ?_); rintro e1 w5 ⟨rfl, hk⟩))
      go_ret
      exact ⟨rfl, Kp.b (by assumption)⟩
