/- math/bits.Div64: quotient and rest of two words by one. -/
import Derived.Test.YtecgkhijiogggaaShelf
import Derived.Test.YtecgkhijiogggaaP2
import Derived.WalkSpells
import Derived.Lib.Hide
import Derived.BigQuiet
import Derived.Deep.QuietTactic
import Derived.Deep.DeepCutAuto
import Derived.Deep.CutBlock
import Derived.Deep.LoopGhost
import Derived.Deep.Light
namespace Go.Proofs.Ytecgkhijiogggaa.DV
open Go.RowKit Go.Shelf
theorem ret2 {k l : IntKind} {a b c d : Int} (h : a = b) (g : c = d) : Ending.returned (.tuple #[.int k a, .int l c]) = .returned (.tuple #[.int k b, .int l d]) := by rw [h, g]
theorem ret_int {k : IntKind} {a b : Int} (h : a = b) : Value.int k a = .int k b := by rw [h]
theorem lz64 (x : Int) (w : World) (h : Word x) :
    Calls Try.prog 107 #[.int .u64 x] w fun e w' => e = .returned (.int .i64 (64 - (Lib.bitLen x.toNat : Int))) ∧ w = w' :=
  (Try.bits_LeadingZeros64 x w h.1 (by have := h.2; omega)).mono fun _ _ ⟨a, b⟩ => ⟨a, b.symm⟩
set_option maxRecDepth 100000 in
set_option maxHeartbeats 1000000 in
theorem div64_big (hi lo y : Int) (w : World) (k1 : hi < y) (k2 : 0 < hi) (hl : 0 ≤ lo) (hl1 : lo < 18446744073709551616) (hy1 : y < 18446744073709551616) :
    Calls Try.prog 68 #[.int .u64 hi, .int .u64 lo, .int .u64 y] w fun e w' => e = .returned (.tuple #[.int .u64 ((hi * 18446744073709551616 + lo) / y), .int .u64 ((hi * 18446744073709551616 + lo) % y)]) ∧ w = w' := by
  obtain ⟨s, hs, hse0, hY, hY1⟩ := norm_shift y (by omega) hy1
  have P := pre_start hi lo y s hs (by omega) k1 hl hl1 hY hY1
  have hnz : ¬IntKind.u64.wrap (y * 2 ^ s) / 4294967296 = 0 := by rw [IntKind.wrap_u64]; omega
  have hse := Lib.hid hse0
  have HP := Lib.hid P
  have k0 : ¬ y = 0 := by omega
  clear hse0 hY hY1 P
  go_enter Try.func68, Try.ntmps68
  go_upto_region 8 with (go_at_call 107; refine (lz64 _ _ ⟨by omega, by omega⟩).mono ?_; rintro e w' ⟨rfl, rfl⟩; rw [hse.out])
  go_upto_region 14 with (fail)
  go_cut [2, 8, 9, 10, 11, 13, 14] (fun v2 v8 v9 v10 v11 v13 v14 wc => ∃ Y y1 y0 u n1 n0 : Int, v2 = .int .u64 Y ∧ v8 = .int .u64 s ∧ v9 = .int .u64 y1 ∧ v10 = .int .u64 y0 ∧ v11 = .int .u64 u ∧ v13 = .int .u64 n1 ∧ v14 = .int .u64 n0 ∧ Hid (Pre hi lo y s Y y1 y0 u n1 n0) ∧ w = wc)
  case first =>
    go_wp2
    go_meet
    case rel =>
      exact ⟨_, _, _, _, _, _, rfl, rfl, rfl, rfl, rfl, rfl, rfl, HP, rfl⟩
  case rest =>
    obtain ⟨Y, y1, y0, u, n1, n0, rfl, rfl, rfl, rfl, rfl, rfl, rfl, hP, rfl⟩ := hcut
    clear HP
    have b1 := hP.out.norm.y1l
    have b2 := hP.out.norm.y1h
    have b3 := hP.out.norm.y0l
    have b4 := hP.out.norm.y0h
    have b5 := hP.out.norm.n1l
    have b6 := hP.out.norm.n1h
    have b7 := hP.out.norm.ul
    have b8 := hP.out.norm.uh
    have c1 := hP.out.Y1
    have c2 := hP.out.n0l
    have c3 := hP.out.n0h
    have G := Lib.hid (guess_start hP.out.norm)
    go_upto_block 0 with (fail)
    go_cut [15, 16] (fun v15 v16 wc => (∃ q r : Int, v15 = .int .u64 q ∧ v16 = .int .u64 r ∧ Hid (q = (u * 4294967296 + n1) / (y1 * 4294967296 + y0))) ∧ w = wc)
    case first =>
      go_wp2_with fail
      go_loop [15, 16] (fun v15 v16 => ∃ q r : Int, v15 = .int .u64 q ∧ v16 = .int .u64 r ∧ Hid (Guess u n1 y1 y0 q r)) (fun v15 _ => (intOf v15).toNat)
      case atStart => exact ⟨_, _, rfl, ret_int (guess_rest (by omega) b7 b1).symm, G⟩
      case round =>
        obtain ⟨q, r, rfl, rfl, hg⟩ := hrel
        have g1 := hg.out.hi
        have g2 := hg.out.r0
        have g3 := hg.out.r1
        have g4 : 0 ≤ q := by have := hg.out.lo; have := hP.out.norm.digit; omega
        by_cases h1 : 4294967296 ≤ q
        · have d := guess_down hP.out.norm hg.out (.inl h1)
          have D := Lib.hid d
          clear d
          by_cases h3 : 4294967296 ≤ r + y1
          · go_wp2
            go_meet
            case rel => exact ⟨⟨_, _, rfl, rfl, guess_break hP.out.norm D.out.1 D.out.2.1 D.out.2.2.1 h3⟩, rfl⟩
          · go_wp2
            go_round
            case rel => exact ⟨_, _, rfl, rfl, ⟨D.out.2.1, by omega, D.out.1, by omega, by omega⟩⟩
            case measure => simp [intOf]; omega
        · have g5 := mul_small g4 (show q < 4294967296 by omega) b3 b4
          have g6 := g5.1
          have g7 := g5.2
          clear g5
          by_cases h2 : 4294967296 * r + n1 < q * y0
          · have d := guess_down hP.out.norm hg.out (.inr (by omega))
            have D := Lib.hid d
            clear d
            have g8 : 1 ≤ q := by have := D.out.2.2.2; omega
            by_cases h3 : 4294967296 ≤ r + y1
            · go_wp2
              go_meet
              case rel => exact ⟨⟨_, _, rfl, rfl, guess_break hP.out.norm D.out.1 D.out.2.1 D.out.2.2.1 h3⟩, rfl⟩
            · go_wp2
              go_round
              case rel => exact ⟨_, _, rfl, rfl, ⟨D.out.2.1, by omega, D.out.1, by omega, by omega⟩⟩
              case measure => simp [intOf]; omega
          · go_wp2
            go_meet
            case rel => exact ⟨⟨_, _, rfl, rfl, guess_done hP.out.norm hg.out (by omega)⟩, rfl⟩
    case rest =>
      obtain ⟨⟨q, r, rfl, rfl, hq⟩, rfl⟩ := hcut
      clear G
      go_upto_region 21 with (fail)
      go_cut [17] (fun v17 wc => (∃ t : Int, v17 = .int .u64 t ∧ Hid (t = (u * 4294967296 + n1) % Y)) ∧ w = wc)
      case first =>
        go_wp2
        go_meet
        case rel => exact ⟨⟨_, rfl, pre_rest hP.out hq.out⟩, rfl⟩
      case rest =>
        obtain ⟨⟨t, rfl, ht⟩, rfl⟩ := hcut
        have hN := Lib.hid (pre_second hP.out ht.out)
        have t0 := hN.out.ul
        have t1 := hN.out.uh
        have G2 := Lib.hid (guess_start hN.out)
        go_upto_block 2 with (fail)
        go_cut [18, 16] (fun v18 v16 wc => (∃ q r : Int, v18 = .int .u64 q ∧ v16 = .int .u64 r ∧ Hid (q = (t * 4294967296 + n0) / (y1 * 4294967296 + y0))) ∧ w = wc)
        case first =>
          go_wp2_with fail
          go_loop [18, 16] (fun v18 v16 => ∃ q r : Int, v18 = .int .u64 q ∧ v16 = .int .u64 r ∧ Hid (Guess t n0 y1 y0 q r)) (fun v18 _ => (intOf v18).toNat)
          case atStart => exact ⟨_, _, rfl, ret_int (guess_rest (by omega) t0 b1).symm, G2⟩
          case round =>
            obtain ⟨q, r, rfl, rfl, hg⟩ := hrel
            have g1 := hg.out.hi
            have g2 := hg.out.r0
            have g3 := hg.out.r1
            have g4 : 0 ≤ q := by have := hg.out.lo; have := hN.out.digit; omega
            by_cases h1 : 4294967296 ≤ q
            · have d := guess_down hN.out hg.out (.inl h1)
              have D := Lib.hid d
              clear d
              by_cases h3 : 4294967296 ≤ r + y1
              · go_wp2
                go_meet
                case rel => exact ⟨⟨_, _, rfl, rfl, guess_break hN.out D.out.1 D.out.2.1 D.out.2.2.1 h3⟩, rfl⟩
              · go_wp2
                go_round
                case rel => exact ⟨_, _, rfl, rfl, ⟨D.out.2.1, by omega, D.out.1, by omega, by omega⟩⟩
                case measure => simp [intOf]; omega
            · have g5 := mul_small g4 (show q < 4294967296 by omega) b3 b4
              have g6 := g5.1
              have g7 := g5.2
              clear g5
              by_cases h2 : 4294967296 * r + n0 < q * y0
              · have d := guess_down hN.out hg.out (.inr (by omega))
                have D := Lib.hid d
                clear d
                have g8 : 1 ≤ q := by have := D.out.2.2.2; omega
                by_cases h3 : 4294967296 ≤ r + y1
                · go_wp2
                  go_meet
                  case rel => exact ⟨⟨_, _, rfl, rfl, guess_break hN.out D.out.1 D.out.2.1 D.out.2.2.1 h3⟩, rfl⟩
                · go_wp2
                  go_round
                  case rel => exact ⟨_, _, rfl, rfl, ⟨D.out.2.1, by omega, D.out.1, by omega, by omega⟩⟩
                  case measure => simp [intOf]; omega
              · go_wp2
                go_meet
                case rel => exact ⟨⟨_, _, rfl, rfl, guess_done hN.out hg.out (by omega)⟩, rfl⟩
        case rest =>
          obtain ⟨⟨q0, r0, rfl, rfl, hq0⟩, rfl⟩ := hcut
          have F := Lib.hid (pre_out hP.out hq.out ht.out hq0.out)
          have hs1 : (s : Int) ≤ 63 := by omega
          go_wp2
          go_ret2
          exact ⟨ret2 F.out.1 F.out.2, rfl⟩

theorem div64_small (lo y : Int) (w : World) (k1 : 0 < y) (hl : 0 ≤ lo) (hl1 : lo < 18446744073709551616) :
    Calls Try.prog 68 #[.int .u64 0, .int .u64 lo, .int .u64 y] w fun e w' => e = .returned (.tuple #[.int .u64 (lo / y), .int .u64 (lo % y)]) ∧ ∃ n, w' = w.drewN n := by
  have k0 : ¬ y = 0 := by omega
  go_enter Try.func68, Try.ntmps68
  go_wp2_with fail
  go_quiet (fail)
  go_wp2
  go_ret2
  exact ⟨rfl, _, rfl⟩

/-- math/bits.Div64, where it answers. -/
theorem div64 (hi lo y : Int) (w : World) (h0 : 0 ≤ hi) (h1 : hi < y) (hl : Word lo) (hy : Word y) :
    Calls Try.prog 68 #[.int .u64 hi, .int .u64 lo, .int .u64 y] w fun e w' => e = .returned (.tuple #[.int .u64 ((hi * 18446744073709551616 + lo) / y), .int .u64 ((hi * 18446744073709551616 + lo) % y)]) ∧ ∃ n, w' = w.drewN n := by
  by_cases h : hi = 0
  · subst h
    rw [Int.zero_mul, Int.zero_add]
    exact div64_small lo y w h1 hl.1 hl.2
  · exact (div64_big hi lo y w h1 (by omega) hl.1 hl.2 hy.2).mono fun e w' ⟨he, hw⟩ => ⟨he, 0, hw.symm⟩

end Go.Proofs.Ytecgkhijiogggaa.DV
