/- bobbinref1's division towards 0. -/
import Derived.Test.YtdelhinfablhjaaR
namespace Go.Proofs.Ytdelhinfablhjaa
set_option linter.unusedVariables false
set_option linter.unusedSimpArgs false
open Go.RowKit Go.Shelf
theorem n1_trip (a b c : Int) : n1 (trip a b c) = a := rfl
theorem n2_trip (a b c : Int) : n2 (trip a b c) = b := rfl
theorem n3_trip (a b c : Int) : n3 (trip a b c) = c := rfl
theorem symV_no {lo hi d n l : Int} {s : Bool} (h0 : ¬ d = 0) (hn : n = aD lo hi / aC d) (_hl : l = aD lo hi % aC d) (hs : (!(decide (hi < 0) == decide (d < 0))) = s) (h : cellOk s n = false) : symV lo hi d = trip 0 0 (-11) := by
  unfold symV
  rw [if_neg h0, hs, ← hn, h]
  rfl
theorem symV_ok {lo hi d n l : Int} {s x : Bool} (h0 : ¬ d = 0) (hn : n = aD lo hi / aC d) (hl : l = aD lo hi % aC d) (hs : (!(decide (hi < 0) == decide (d < 0))) = s) (hx : decide (hi < 0) = x) (h : cellOk s n = true) : symV lo hi d = trip (sg x l) (sg s n) 0 := by
  unfold symV
  rw [if_neg h0, hs, hx, ← hn, ← hl, h]
  rfl
set_option maxHeartbeats 2000000 in
theorem rsym_c (lo hi d : Int) (hl : Cell lo) (hh : Cell hi) (hd : Cell d) (w : World) : Calls Try.prog 17 #[.int .i64 lo, .int .i64 hi, .int .i64 d] w fun e w' =>
    e = .returned (.tuple #[.int .i64 (n1 (symV lo hi d)), .int .i64 (n2 (symV lo hi d)), .int .i64 (n3 (symV lo hi d))]) ∧ w = w' := by
  by_cases h0 : d = 0
  · subst h0
    unfold symV
    go_enter Try.func17, Try.ntmps17
    go_wp2
    go_ret3
    exact ⟨rfl, rfl⟩
  · have k0 : (d == 0) = false := by simpa using h0
    have c := aC_pos hd h0
    have b := aD_bounds lo hh
    obtain ⟨n, hn⟩ : ∃ n, n = aD lo hi / aC d := ⟨_, rfl⟩
    obtain ⟨l, hl'⟩ : ∃ l, l = aD lo hi % aC d := ⟨_, rfl⟩
    have q0 : 0 ≤ n := by rw [hn]; exact Int.ediv_nonneg b.1 (by omega)
    have q1 : n ≤ 170141183460469231731687303715884105728 := by have := Int.ediv_le_self (aC d) b.1; omega
    have r0 : 0 ≤ l := by rw [hl']; exact Int.emod_nonneg (aD lo hi) (show aC d ≠ 0 by omega)
    have r1 : l < aC d := by rw [hl']; exact Int.emod_lt_of_pos (aD lo hi) (show 0 < aC d by omega)
    have HN := Lib.hid hn
    have HL := Lib.hid hl'
    clear hn hl'
    go_enter Try.func17, Try.ntmps17
    go_upto_if 20 with (fail)
    go_cut [9, 10] (fun v9 v10 wc => (∃ x y : Int, v9 = .int .i64 x ∧ v10 = .int .i64 y ∧ Hid (UD x y = aD lo hi)) ∧ w = wc)
    case first =>
      by_cases ch : hi < 0
      · go_wp2_with (go_at_call 41; refine (rneg_c _ _ hl hh _).mono ?_; rintro e w' ⟨rfl, rfl⟩)
        go_meet
        case rel => exact ⟨⟨_, _, rfl, rfl, UD_size lo hi hh ch⟩, rfl⟩
      · have ch2 := Lib.hid ch
        go_wp2
        go_meet
        case rel => exact ⟨⟨_, _, rfl, rfl, UD_size' lo hi hh (by have := ch2.out; omega)⟩, rfl⟩
    case rest =>
      obtain ⟨⟨x, y, rfl, rfl, hxy⟩, rfl⟩ := hcut
      go_upto_if 29 with (fail)
      go_cut [11] (fun v11 wc => (∃ z : Int, v11 = .int .i64 z ∧ Hid (U z = aC d ∧ Cell z ∧ ¬ z = 0)) ∧ w = wc)
      case first =>
        by_cases cd : d < 0
        · go_wp2
          go_meet
          case rel => exact ⟨⟨_, rfl, wrap_neg d hd cd⟩, rfl⟩
        · have cd2 := Lib.hid cd
          go_wp2
          go_meet
          case rel => exact ⟨⟨_, rfl, ⟨U_pos d hd (by have := cd2.out; omega), hd, h0⟩⟩, rfl⟩
      case rest =>
        obtain ⟨⟨z, rfl, hz⟩, rfl⟩ := hcut
        have C38 : ∀ W : World, Calls Try.prog 38 #[.int .i64 x, .int .i64 y, .int .i64 z] W fun e w' =>
            e = .returned (.tuple #[.int .i64 (dlo n), .int .i64 (dhi n), .int .i64 l]) ∧ W = w' := by
          intro W
          have := rdivide_c x y z hz.out.2.1 hz.out.2.2 W
          rw [hxy.out, hz.out.1, ← HN.out, ← HL.out] at this
          rwa [show wrap64 l = l by unfold wrap64; omega] at this
        have H := Lib.hid C38
        clear C38
        have o1 : 18446744073709551616 ≤ n → (dhi n == 0) = false := by intro h; unfold dhi wrap64; simp; omega
        have o2 : n < 18446744073709551616 → (dhi n == 0) = true ∧ IntKind.u64.wrap (dlo n) = n := by intro h; rw [IntKind.wrap_u64]; unfold dhi dlo wrap64; exact ⟨by simp; omega, by omega⟩
        have O1 := Lib.hid o1
        have O2 := Lib.hid o2
        clear o1 o2
        by_cases A : 18446744073709551616 ≤ n
        · have o := O1.out A
          have V : Hid (symV lo hi d = trip 0 0 (-11)) := Lib.hid (symV_no h0 HN.out HL.out rfl (cellOk_big _ (by omega)))
          go_wp2_with (go_at_call 38; refine (H.out _).mono ?_; rintro e w' ⟨rfl, rfl⟩)
          go_ret3
          exact ⟨by rw [V.out]; rfl, rfl⟩
        · have o := (O2.out (by omega)).1
          have d1 := (O2.out (by omega)).2
          have d2 : dlo n = if n < 9223372036854775808 then n else n - 18446744073709551616 := by unfold dlo wrap64; split <;> omega
          have D2 := Lib.hid d2
          clear d2
          by_cases ch : hi < 0 <;> by_cases cd : d < 0
          · have ch' : decide (hi < 0) = true := decide_eq_true ch
            have cd' : decide (d < 0) = true := decide_eq_true cd
            have hs : (!(decide (hi < 0) == decide (d < 0))) = false := by rw [ch', cd']; rfl
            have HS := Lib.hid hs
            have CH := Lib.hid ch'
            have CD := Lib.hid cd'
            clear hs
            by_cases u : 9223372036854775808 ≤ n
            · have V := Lib.hid (symV_no h0 HN.out HL.out HS.out (by unfold cellOk; simp; omega))
              have t : dlo n < 0 := by have := D2.out; split at this <;> omega
              go_wp2_with (go_at_call 38; refine (H.out _).mono ?_; rintro e w' ⟨rfl, rfl⟩)
              go_ret3
              exact ⟨by rw [V.out]; rfl, rfl⟩
            · have V := Lib.hid (symV_ok h0 HN.out HL.out HS.out CH.out (by unfold cellOk; simp; omega))
              have t : 0 ≤ dlo n := by have := D2.out; split at this <;> omega
              go_wp2_with (go_at_call 38; refine (H.out _).mono ?_; rintro e w' ⟨rfl, rfl⟩)
              go_ret3
              exact ⟨by rw [V.out]; exact ret3 (by rw [n1_trip]; unfold sg; first | rfl | (simp; unfold wrap64; omega)) (by have := D2.out; rw [n2_trip]; unfold sg; simp; split at this <;> omega) rfl, rfl⟩
          · have ch' : decide (hi < 0) = true := decide_eq_true ch
            have cd' : decide (d < 0) = false := decide_eq_false cd
            have hs : (!(decide (hi < 0) == decide (d < 0))) = true := by rw [ch', cd']; rfl
            have HS := Lib.hid hs
            have CH := Lib.hid ch'
            have CD := Lib.hid cd'
            clear hs
            by_cases u : 9223372036854775808 < n
            · have V := Lib.hid (symV_no h0 HN.out HL.out HS.out (cellOk_big _ u))
              go_wp2_with (go_at_call 38; refine (H.out _).mono ?_; rintro e w' ⟨rfl, rfl⟩)
              go_ret3
              exact ⟨by rw [V.out]; rfl, rfl⟩
            · have V := Lib.hid (symV_ok h0 HN.out HL.out HS.out CH.out (by unfold cellOk; simp; omega))
              go_wp2_with (go_at_call 38; refine (H.out _).mono ?_; rintro e w' ⟨rfl, rfl⟩)
              go_ret3
              exact ⟨by rw [V.out]; exact ret3 (by rw [n1_trip]; unfold sg; first | rfl | (simp; unfold wrap64; omega)) (by have := D2.out; rw [n2_trip]; unfold sg; simp; unfold wrap64; split at this <;> omega) rfl, rfl⟩
          · have ch' : decide (hi < 0) = false := decide_eq_false ch
            have cd' : decide (d < 0) = true := decide_eq_true cd
            have hs : (!(decide (hi < 0) == decide (d < 0))) = true := by rw [ch', cd']; rfl
            have HS := Lib.hid hs
            have CH := Lib.hid ch'
            have CD := Lib.hid cd'
            clear hs
            by_cases u : 9223372036854775808 < n
            · have V := Lib.hid (symV_no h0 HN.out HL.out HS.out (cellOk_big _ u))
              go_wp2_with (go_at_call 38; refine (H.out _).mono ?_; rintro e w' ⟨rfl, rfl⟩)
              go_ret3
              exact ⟨by rw [V.out]; rfl, rfl⟩
            · have V := Lib.hid (symV_ok h0 HN.out HL.out HS.out CH.out (by unfold cellOk; simp; omega))
              go_wp2_with (go_at_call 38; refine (H.out _).mono ?_; rintro e w' ⟨rfl, rfl⟩)
              go_ret3
              exact ⟨by rw [V.out]; exact ret3 (by rw [n1_trip]; unfold sg; first | rfl | (simp; unfold wrap64; omega)) (by have := D2.out; rw [n2_trip]; unfold sg; simp; unfold wrap64; split at this <;> omega) rfl, rfl⟩
          · have ch' : decide (hi < 0) = false := decide_eq_false ch
            have cd' : decide (d < 0) = false := decide_eq_false cd
            have hs : (!(decide (hi < 0) == decide (d < 0))) = false := by rw [ch', cd']; rfl
            have HS := Lib.hid hs
            have CH := Lib.hid ch'
            have CD := Lib.hid cd'
            clear hs
            by_cases u : 9223372036854775808 ≤ n
            · have V := Lib.hid (symV_no h0 HN.out HL.out HS.out (by unfold cellOk; simp; omega))
              have t : dlo n < 0 := by have := D2.out; split at this <;> omega
              go_wp2_with (go_at_call 38; refine (H.out _).mono ?_; rintro e w' ⟨rfl, rfl⟩)
              go_ret3
              exact ⟨by rw [V.out]; rfl, rfl⟩
            · have V := Lib.hid (symV_ok h0 HN.out HL.out HS.out CH.out (by unfold cellOk; simp; omega))
              have t : 0 ≤ dlo n := by have := D2.out; split at this <;> omega
              go_wp2_with (go_at_call 38; refine (H.out _).mono ?_; rintro e w' ⟨rfl, rfl⟩)
              go_ret3
              exact ⟨by rw [V.out]; exact ret3 (by rw [n1_trip]; unfold sg; first | rfl | (simp; unfold wrap64; omega)) (by have := D2.out; rw [n2_trip]; unfold sg; simp; split at this <;> omega) rfl, rfl⟩
end Go.Proofs.Ytdelhinfablhjaa
