/- Contracts of digits.Value, digits.More and of the reference's. -/
import Derived.Test.YtjioombinbngpaaG
import Derived.Test.YtjioombinbngpaaR
namespace Go.Proofs.Ytjioombinbngpaa
set_option linter.unusedVariables false
set_option linter.unusedSimpArgs false
open Go.RowKit Go.Shelf

theorem value_c (c b : Int) (h0 : 0 ≤ c) (h1 : c < 256) (w : World) : Calls Try.prog 14 #[.int .u8 c, .int .i64 b] w fun e w' => e = .returned (.int .i64 (dv c b)) ∧ w = w' := by
  unfold dv
  go_enter Try.func14, Try.ntmps14
  go_wp2
  all_goals (go_ret; exact ⟨ret1 (by (repeat' split) <;> omega), rfl⟩)
theorem rvalue_c (c b : Int) (h0 : 0 ≤ c) (h1 : c < 256) (w : World) : Calls Try.prog 15 #[.int .u8 c, .int .i64 b] w fun e w' => e = .returned (.int .i64 (dv c b)) ∧ w = w' := by
  unfold dv
  go_enter Try.func15, Try.ntmps15
  go_wp2
  all_goals (go_ret; exact ⟨ret1 (by (repeat' split) <;> omega), rfl⟩)
theorem rtimes_c (N n : Int) (h0 : 0 ≤ N) (h1 : N < M2) (hn0 : 2 ≤ n) (hn1 : n ≤ 36) (w : World) : Calls Try.prog 25 #[.int .i64 (dlo N), .int .i64 (dhi N), .int .i64 n] w fun e w' =>
    e = .returned (.tuple #[.int .i64 (dlo (N * n)), .int .i64 (dhi (N * n))]) ∧ w = w' := by
  have H := Lib.hid (times_words N n h0 h1 hn0 hn1)
  go_enter Try.func25, Try.ntmps25
  go_wp2_with (go_at_call 32; refine (rumul_c _ _ _).mono ?_; rintro e w' ⟨rfl, rfl⟩)
  go_ret2
  exact ⟨ret2 H.out.1 H.out.2, rfl⟩

theorem more_c (lo hi b : Int) (v : Value) (s : List Int) (w : World) (hl : Cell lo) (hh : Cell hi) (hr : Rd w .u8 v s) (hb : Byt s) (hs : s.length ≤ 9223372036854775807) :
    Calls Try.prog 12 #[.int .i64 lo, .int .i64 hi, v, .int .i64 b] w fun e w' =>
      e = .returned (.tuple #[.int .i64 (dlo (moN b (UD lo hi) s)), .int .i64 (dhi (moN b (UD lo hi) s)), .int .i64 (moU b s)]) ∧ w = w' := by
  have uB := UD_bounds lo hi
  obtain ⟨a, c, rfl, hc, hcell⟩ := hr
  have i1 : IntKind.u64.wrap lo = UD lo hi % 18446744073709551616 := by rw [IntKind.wrap_u64]; unfold UD; omega
  have i2 : IntKind.u64.wrap hi = UD lo hi / 18446744073709551616 := by rw [IntKind.wrap_u64]; unfold UD; omega
  go_enter Try.func12, Try.ntmps12
  go_wp2_with fail
  go_loop [10, 11, 12, 14, 15, 16, 17, 24] (fun v10 v11 v12 _ _ _ _ v24 => ∃ (k : Nat) (N : Int), k ≤ s.length ∧ v24 = .int .i64 k ∧ v10 = .int .i64 k ∧ v11 = .int .u64 (N % 18446744073709551616) ∧ v12 = .int .u64 (N / 18446744073709551616) ∧ Hid (0 ≤ N ∧ N < M2 ∧ moN b (UD lo hi) s = moN b N (s.drop k) ∧ moU b s = k + moU b (s.drop k))) (fun _ _ _ _ _ _ _ v24 => s.length - (intOf v24).toNat)
  case atStart => exact ⟨0, UD lo hi, Nat.zero_le _, rfl, rfl, rfl, rfl, ⟨uB.1, uB.2, rfl, by simp⟩⟩
  case round =>
    obtain ⟨k, N, hk, rfl, rfl, rfl, rfl, hN⟩ := hrel
    clear i1 i2
    by_cases hlt : k < s.length
    · obtain ⟨g, off, rfl, hcl⟩ : ∃ g off, a = some ⟨g, off, none⟩ ∧ ∀ i, i < s.length → w.cell? ⟨g, off + i, none⟩ = some (.int .u8 (s.getD i 0)) := by
        rcases hcell with h | h
        · rw [h] at hlt; simp at hlt
        · exact h
      have hck := hcl k hlt
      have bk := hb (s.getD k 0) (by simp [List.getD_eq_getElem?_getD, List.getElem?_eq_getElem hlt])
      obtain ⟨x, hx⟩ : ∃ x, x = s.getD k 0 := ⟨_, rfl⟩
      have HX := Lib.hid hx
      rw [← hx] at hck bk
      have b0 := bk.1
      have b1 := bk.2
      have dr := dv_range x b b0
      have d0 := dr.1
      have d1 := dr.2.1
      clear hx bk hcl hcell
      by_cases hd : dv x b < 0
      · have st := moN_stop b s k hlt (by rw [← HX.out]; exact hd) N
        have ST := Lib.hid st
        clear st
        go_wp2_with (go_at_call 14; refine (value_c _ _ b0 b1 _).mono ?_; rintro e w' ⟨rfl, rfl⟩)
        go_ret3
        exact ⟨ret3 (by rw [hN.out.2.2.1, ST.out.1]; unfold dlo wrap64; omega) (by rw [hN.out.2.2.1, ST.out.1]; unfold dhi; rfl) (by rw [hN.out.2.2.2, ST.out.2]; omega), rfl⟩
      · have rg := dr.2.2 (by omega)
        have st := moN_go b s k hlt (by rw [← HX.out]; exact hd) N
        rw [← HX.out] at st
        have ST := Lib.hid st
        have SW := Lib.hid (step_words N b (dv x b) hN.out.1 hN.out.2.1 rg.1 rg.2.1 (by omega) rg.2.2)
        have g0 := rg.1
        have g1 := rg.2.1
        have g2 : 0 ≤ dv x b := by omega
        have m1 := mod_word N
        have m2 : Word b := ⟨by omega, by omega⟩
        have m3 := mod_word (N % 18446744073709551616 * b)
        clear st rg dr
        go_wp2_with (first
          | (go_at_call 14; refine (value_c _ _ b0 b1 _).mono ?_; rintro e w' ⟨rfl, rfl⟩)
          | (go_at_call 23; refine (mul64 _ _ m1 m2 _).mono ?_; rintro e w' ⟨rfl, rfl⟩)
          | simp only [add64_0 _ _ m3.1 g2])
        go_round
        case rel => exact ⟨k + 1, (N * b + dv x b) % M2, by omega, val_int (by omega), val_int (by omega), val_int (by rw [SW.out.1]; first | rfl | omega), val_int (by rw [SW.out.2]; simp only [IntKind.wrap_u64]; omega), ⟨Int.emod_nonneg _ (by decide), Int.emod_lt_of_pos _ (by decide), by rw [hN.out.2.2.1, ST.out.1], by rw [hN.out.2.2.2, ST.out.2]; omega⟩⟩
        case measure => simp [intOf]; omega
    · have st := moN_end b s k (by omega) N
      have ST := Lib.hid st
      clear st
      go_wp2
      go_ret3
      exact ⟨ret3 (by rw [hN.out.2.2.1, ST.out.1]; unfold dlo wrap64; omega) (by rw [hN.out.2.2.1, ST.out.1]; unfold dhi; rfl) (by rw [hN.out.2.2.2, ST.out.2]; omega), rfl⟩
theorem rmore_c (lo hi b : Int) (v : Value) (s : List Int) (w : World) (hl : Cell lo) (hh : Cell hi) (hr : Rd w .u8 v s) (hb : Byt s) (hs : s.length ≤ 9223372036854775807) :
    Calls Try.prog 13 #[.int .i64 lo, .int .i64 hi, v, .int .i64 b] w fun e w' =>
      e = .returned (.tuple #[.int .i64 (dlo (moN b (UD lo hi) s)), .int .i64 (dhi (moN b (UD lo hi) s)), .int .i64 (moU b s)]) ∧ w = w' := by
  have uB := UD_bounds lo hi
  obtain ⟨a, c, rfl, hc, hcell⟩ := hr
  have E0 := Lib.hid (dlo_UD lo hi hl hh)
  go_enter Try.func13, Try.ntmps13
  go_wp2_with fail
  go_loop [0, 1, 11] (fun v0 v1 v11 => ∃ (k : Nat) (N : Int), k ≤ s.length ∧ v0 = .int .i64 (dlo N) ∧ v1 = .int .i64 (dhi N) ∧ v11 = .int .i64 k ∧ Hid (0 ≤ N ∧ N < M2 ∧ moN b (UD lo hi) s = moN b N (s.drop k) ∧ moU b s = k + moU b (s.drop k))) (fun _ _ v11 => s.length - (intOf v11).toNat)
  case atStart => exact ⟨0, UD lo hi, Nat.zero_le _, val_int E0.out.1.symm, val_int E0.out.2.symm, rfl, ⟨uB.1, uB.2, rfl, by simp⟩⟩
  case round =>
    obtain ⟨k, N, hk, rfl, rfl, rfl, hN⟩ := hrel
    clear E0
    by_cases hlt : k < s.length
    · obtain ⟨g, off, rfl, hcl⟩ : ∃ g off, a = some ⟨g, off, none⟩ ∧ ∀ i, i < s.length → w.cell? ⟨g, off + i, none⟩ = some (.int .u8 (s.getD i 0)) := by
        rcases hcell with h | h
        · rw [h] at hlt; simp at hlt
        · exact h
      have hck := hcl k hlt
      have bk := hb (s.getD k 0) (by simp [List.getD_eq_getElem?_getD, List.getElem?_eq_getElem hlt])
      obtain ⟨x, hx⟩ : ∃ x, x = s.getD k 0 := ⟨_, rfl⟩
      have HX := Lib.hid hx
      rw [← hx] at hck bk
      have b0 := bk.1
      have b1 := bk.2
      have dr := dv_range x b b0
      have d0 := dr.1
      have d1 := dr.2.1
      clear hx bk hcl hcell
      by_cases hd : dv x b < 0
      · have st := moN_stop b s k hlt (by rw [← HX.out]; exact hd) N
        have ST := Lib.hid st
        clear st
        go_wp2_with (go_at_call 15; refine (rvalue_c _ _ b0 b1 _).mono ?_; rintro e w' ⟨rfl, rfl⟩)
        go_ret3
        exact ⟨ret3 (by rw [hN.out.2.2.1, ST.out.1]) (by rw [hN.out.2.2.1, ST.out.1]) (by rw [hN.out.2.2.2, ST.out.2]; omega), rfl⟩
      · have rg := dr.2.2 (by omega)
        have st := moN_go b s k hlt (by rw [← HX.out]; exact hd) N
        rw [← HX.out] at st
        have ST := Lib.hid st
        have SW := Lib.hid (add_words (N * b) (dv x b) (by omega) d1)
        have g0 := rg.1
        have g1 := rg.2.1
        have g2 : 0 ≤ dv x b := by omega
        have n0 := hN.out.1
        have n1 := hN.out.2.1
        clear st rg dr
        go_wp2_with (first
          | (go_at_call 15; refine (rvalue_c _ _ b0 b1 _).mono ?_; rintro e w' ⟨rfl, rfl⟩)
          | (go_at_call 25; refine (rtimes_c N b n0 n1 g0 g1 _).mono ?_; rintro e w' ⟨rfl, rfl⟩)
          | (go_at_call 26; refine (radd_c _ _ _ _ _).mono ?_; rintro e w' ⟨rfl, rfl⟩))
        go_round
        case rel => exact ⟨k + 1, (N * b + dv x b) % M2, by omega, val_int SW.out.1, val_int SW.out.2, val_int (by omega), ⟨Int.emod_nonneg _ (by decide), Int.emod_lt_of_pos _ (by decide), by rw [hN.out.2.2.1, ST.out.1], by rw [hN.out.2.2.2, ST.out.2]; omega⟩⟩
        case measure => simp [intOf]; omega
    · have st := moN_end b s k (by omega) N
      have ST := Lib.hid st
      clear st
      go_wp2
      go_ret3
      exact ⟨ret3 (by rw [hN.out.2.2.1, ST.out.1]) (by rw [hN.out.2.2.1, ST.out.1]) (by rw [hN.out.2.2.2, ST.out.2]; omega), rfl⟩
end Go.Proofs.Ytjioombinbngpaa
