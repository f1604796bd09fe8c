/- The law StackPlays. -/
import Derived.Test.YticjepfcgfdmgaaZA
import Derived.Test.YticjepfcgfdmgaaG
import Derived.Deep.RegionWith
namespace Go.Proofs.Yticjepfcgfdmgaa
set_option linter.unusedVariables false
set_option linter.unusedSimpArgs false
open Go.RowKit

set_option maxHeartbeats 8000000 in
set_option maxRecDepth 100000 in
theorem lplays_walk (most over under : Int) (v : Value) (l : List (Int × Int × Int)) (w : World) (hr : Rd3 w v l) (hmw : -9223372036854775808 ≤ most ∧ most ≤ 9223372036854775807) : Calls Try.prog 5 #[.int .i64 most, .int .i64 over, .int .i64 under, v] w fun e w' => e = .returned (.bool true) ∧ Below w.heap.size w w' := by
  have HR := Lib.hid hr
  obtain ⟨a, c, rfl, hc, _⟩ := hr
  obtain ⟨L, hL⟩ : ∃ L, l.length = L := ⟨_, rfl⟩
  have HL := Lib.hid hL
  rw [hL] at HR hc ⊢
  clear hL
  have AW := Lib.hid (fun w => awake_c w)
  by_cases h4 : (300 : Int) < L
  · go_enter Try.func5, Try.ntmps5
    go_wp2_with (go_at_call 7; (with_reducible refine (AW.out _).mono ?_); rintro e w3 ⟨rfl, hb3⟩)
    go_ret
    exact ⟨rfl, hb3⟩
  · by_cases h5 : 2000 < most ∧ most ≤ 100000
    · obtain ⟨h5, h6⟩ := h5
      go_enter Try.func5, Try.ntmps5
      go_wp2_with (go_at_call 7; (with_reducible refine (AW.out _).mono ?_); rintro e w3 ⟨rfl, hb3⟩)
      go_ret
      exact ⟨rfl, hb3⟩
    · by_cases h6 : most < 0 ∨ (0 ≤ most ∧ 100000 < most)
      · have NB := Lib.hid (new_bad most over under w h6)
        rcases h6 with h6 | ⟨h6, h7⟩
        all_goals
          have h8 : ¬ (2000 < most ∧ most ≤ 100000) := by omega
          go_enter Try.func5, Try.ntmps5
          go_wp2_with (first
            | (go_at_call 8; (with_reducible refine (NB.out).mono ?_); rintro e w' ⟨rfl, rfl⟩)
            | (go_at_call 7; (with_reducible refine (AW.out _).mono ?_); rintro e w3 ⟨rfl, hb3⟩))
          go_ret
          exact ⟨rfl, hb3⟩
      · have h0 : 0 ≤ most := by omega
        have h1 : most ≤ 2000 := by omega
        have h2 : ¬ 2000 < most := by omega
        have h3 : ¬ most < 0 := by omega
        have h7 : ¬ 100000 < most := by omega
        clear h5 h6
        have hl3 : L ≤ 300 := by omega
        have N0 := Lib.hid (new_c most over under w h0 (by omega))
        have HM : Hid (most ≤ 100000) := Lib.hid (by omega)
        have MZ : Hid (∀ w1, IStk w1 w.heap.size w.heap.size (.slice none 0 0) [] most over under → Below w.heap.size w w1 → Both (w1.alloc (.cells #[.slice none 0 0, .int .i64 most, .int .i64 over, .int .i64 under] 39 (0, 0))) w.heap.size w.heap.size (.slice none 0 0) w1.heap.size (.slice none 0 0) [] most over under ∧ Below w.heap.size w (w1.alloc (.cells #[.slice none 0 0, .int .i64 most, .int .i64 over, .int .i64 under] 39 (0, 0)))) := by
          refine Lib.hid fun w1 s1 hb => ⟨⟨s1.below ((Below.refl _ _).alloc (Nat.le_refl _) _), ⟨heap_alloc_new w1 _, hb.size, World.ownsRow_nil _ _ _ _⟩, fun g h => (by cases h), h0⟩, hb.alloc hb.size _⟩
        go_enter Try.func5, Try.ntmps5
        go_wp2_with (go_at_call 8; (with_reducible refine (N0.out).mono ?_); rintro e w1 ⟨rfl, hs, hb1⟩; have S1 := Lib.hid (MZ.out w1 (hs w.heap.size (Nat.le_refl _)) hb1); clear hs)
        go_loopw [12] (fun x wr => ∃ (i : Nat) (v u : Value) (l' : List Int), i ≤ L ∧ x = .int .i64 i ∧ Below w.heap.size w wr ∧ Hid (Both wr w.heap.size w.heap.size v w1.heap.size u l' most over under)) (fun x _ => L - (intOf x).toNat)
        case atStart => exact ⟨0, _, _, _, Nat.zero_le _, rfl, S1.out.2, Lib.hid S1.out.1⟩
        case round =>
          obtain ⟨i, v, u, l', hi, rfl, hbw, HS⟩ := hrel
          obtain ⟨mb, hmb⟩ : ∃ mb, w1.heap.size = mb := ⟨_, rfl⟩
          rw [hmb] at HS ⊢
          by_cases hlt : i < L
          · obtain ⟨g, off, rfl, k0, k1, k2⟩ := (HR.out.below hbw).at_ (i := i) (by have := HL.out; omega)
            obtain ⟨⟨K, X, Y⟩, hk⟩ : ∃ k, l.getD i (0, 0, 0) = k := ⟨_, rfl⟩
            rw [hk] at k0 k1 k2
            clear hk
            have DOES : Hid (Calls Try.prog 13 #[.pointer (some ⟨w.heap.size, 0, none⟩), .pointer (some ⟨mb, 0, none⟩), .agg #[.int .i64 K, .int .i64 X, .int .i64 Y]] wr.drew fun e w' => e = .returned (.bool true) ∧ Went wr.drew w' w.heap.size w.heap.size v mb u most over under) :=
              Lib.hid (does_c K X Y w.heap.size mb v u l' most over under w.heap.size wr.drew (HS.out.below (below_drewN (Below.refl _ _) 1)) HM.out hbw.size)
            have AFT : Hid (∀ w2, Went wr.drew w2 w.heap.size w.heap.size v mb u most over under → _) := Lib.hid (fun w2 hw => after_step (HS.out.below (below_drewN (Below.refl _ _) 1)) hw hbw.size HM.out)
            go_wp2_with fail
            go_region_with (first
              | (go_at_call 13; (with_reducible refine (DOES.out).mono ?_); rintro e w2 ⟨rfl, hw2⟩; obtain ⟨v2, a2, n2, c2, l2, m2, hb2, HB2, HD, HA⟩ := AFT.out w2 hw2; clear hw2)
              | (go_at_call 17; (with_reducible refine (HD.out).mono ?_); rintro e w' ⟨rfl, rfl⟩)
              | (go_at_call 10; (with_reducible refine (HA.out).mono ?_); rintro e w3 ⟨a3, c3, rfl, m3, HB3, HSM⟩)
              | (go_at_call 11; (with_reducible refine (HSM.out).mono ?_); rintro e w4 ⟨rfl, hb4⟩))
            all_goals
              go_wp2_with fail
              go_roundw
              case rel =>
                have b2 := hbw.drew.trans hb2
                have b3 := below_then b2 b2.size HB3.out
                exact ⟨i + 1, v2, _, l2, by omega, by go_num, below_then b3 b3.size hb4, Lib.hid ((HB2.out.1.below HB3.out).below hb4)⟩
              case measure => simp [intOf]; omega
          · go_wp2_with (go_at_call 7; (with_reducible refine (AW.out _).mono ?_); rintro e w3 ⟨rfl, hb3⟩)
            go_ret
            exact ⟨rfl, below_then hbw hbw.size hb3⟩
end Go.Proofs.Yticjepfcgfdmgaa
