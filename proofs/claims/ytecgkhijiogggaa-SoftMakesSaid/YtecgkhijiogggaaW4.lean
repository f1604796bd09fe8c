/- The program's Make: what it computes. -/
import Derived.Test.YtecgkhijiogggaaW3
namespace Go.Proofs.Ytecgkhijiogggaa
set_option linter.unusedVariables false
set_option linter.unusedSimpArgs false
open Go.RowKit Go.Shelf Go.ChangeShapes Go.WideShapes SF

theorem and_low32 {X r : Nat} (hX : X < 4294967296) (hr : r < 32) : bits .and .u32 (X : Int) (((2 : Int) ^ r - 1) % 4294967296) = ((X % 2 ^ r : Nat) : Int) := by
  have p : 2 ^ r ≤ 2 ^ 31 := pow_le (by omega)
  have p0 : 0 < 2 ^ r := Nat.two_pow_pos r
  have e2 : ((2 : Int) ^ r) = ((2 ^ r : Nat) : Int) := by rw [Int.natCast_pow]; rfl
  rw [show (2 : Nat) ^ 31 = 2147483648 by decide] at p
  have e : ((2 : Int) ^ r - 1) % 4294967296 = ((2 ^ r - 1 : Nat) : Int) := by rw [e2]; omega
  rw [e, u32_and_nat _ _ hX (by omega), Nat.and_two_pow_sub_one_eq_mod]
theorem bl_shr {M s : Nat} (h : bl M = 128 + s) : bl (M / 2 ^ s) ≤ 128 := by
  apply bl_le_of_lt
  rw [Nat.div_lt_iff_lt_mul (Nat.two_pow_pos s), ← Nat.pow_add, ← h]
  exact bl_lt M
set_option maxHeartbeats 2000000 in
theorem pmake_c (neg : Bool) (a : Option Addr) (n c : Nat) (l : List Int) (e : Int) (w : World) (hr : Rd w .u32 (.slice a n c) l) (hw : Words l) (hn : n ≤ 1000000) :
    Calls Try.prog 57 #[.bool neg, .slice a n c, .int .i64 e] w fun x w' => x = .returned (.int .u64 ((makeR neg (wv l) e : Nat) : Int)) ∧ Below w.heap.size w w' := by
  have HN := pnorm_c a n c l w hr hw (by omega)
  have hbl := len_bound hw
  have hln := hr.parts.1
  obtain ⟨M, hM⟩ : ∃ M, wv l = M := ⟨_, rfl⟩
  rw [hM] at HN hbl ⊢
  have HN := Lib.hid HN
  have bM : bl M ≤ 32000000 := by omega
  clear hbl hln hM hr hw hn
  by_cases g1 : 32000 < bl M
  · have HL := Lib.hid (fun (w1 : World) (a1 : Option Addr) (n1 c1 : Nat) (h : Nw w1 (.slice a1 n1 c1) M) => show 1000 < n1 by rw [(Rd.parts h).1]; exact len_gt.2 g1)
    have HR := Lib.hid (show ((makeR neg M e : Nat) : Int) = 9221120237041090560 by unfold makeR; rw [if_pos g1]; rfl)
    clear g1 bM
    go_enter Try.func57, Try.ntmps57
    go_wp2_with (go_at_call 103; (with_reducible refine (HN.out).mono ?_); rintro e1 w1 ⟨v1, rfl, hv1, hb1⟩; obtain ⟨a1, n1, c1, rfl⟩ := hv1.slice; have hl := HL.out _ _ _ _ hv1)
    go_ret
    exact ⟨ret1 HR.out.symm, hb1⟩
  have hR : makeR neg M e = makeV neg M e := makeR_ok neg e (by omega)
  rw [hR, ← make_clamp neg M e 100000 (by decide) (by omega)]
  clear hR
  have HB := Lib.hid (fun (w1 : World) (a1 : Option Addr) (n1 c1 : Nat) (h : Nw w1 (.slice a1 n1 c1) M) => pbits_c a1 n1 c1 M w1 h (by omega))
  by_cases g2 : bl M ≤ 128
  · obtain ⟨x0, x1, x2, x3, hx, b0, b1, b2, b3, o1, o2⟩ := four_get g2
    exact pmake_small neg a n c M e _ _ _ x0 x1 x2 x3 _ w HN (Lib.hid (fun w1 a1 n1 c1 h => plen h (by omega))) HB (by omega) (Lib.hid hx) b0 b1 b2 b3 o1 o2 (Lib.hid (fun w => ppack_n neg M g2 _ false w))
  · obtain ⟨s, hs⟩ : ∃ s, bl M = 128 + s := ⟨bl M - 128, by omega⟩
    have hV := bl_shr hs
    have N0 : M ≠ 0 := by intro h; subst h; rw [bl_zero] at hs; omega
    have hbw := bl_words N0
    have hxl := getD_word (words_ws M) ((ws M).length - 1)
    have bx : bl ((ws M).getD ((ws M).length - 1) 0).toNat ≤ 32 := bl_le_of_lt (k := 32) (by rw [show (2 : Nat) ^ 32 = 4294967296 by decide]; omega)
    have lM : (ws M).length ≤ 1000 := ws_len_le (by omega)
    obtain ⟨x0, x1, x2, x3, hx, b0, b1, b2, b3, o1, o2⟩ := four_get hV
    have hrw := rest_words (words_ws M) s
    rw [wv_ws] at hrw
    have gq := getD_word (words_ws M) (s / 32)
    obtain ⟨X, hX⟩ := Int.eq_ofNat_of_zero_le gq.1
    have hand := and_low32 (X := X) (r := s % 32) (by omega) (by omega)
    rw [hX, Int.toNat_natCast] at hrw
    rw [← hX] at hand
    have hR : (some0 (ws M) (s / 32) || (((X % 2 ^ (s % 32) : Nat) : Int) != 0)) = decide (M % 2 ^ s ≠ 0) := by
      rw [hrw]; congr 1
      rw [Bool.eq_iff_iff]; simp only [bne_iff_ne, decide_eq_true_eq]; omega
    have hmk : makeV neg M (min (max e (-100000)) 100000) = sg neg (pat (M / 2 ^ s) (min (max e (-100000)) 100000 + (s : Int)) (decide (M % 2 ^ s ≠ 0))) := by
      unfold makeV; rw [make_top M s _ hs]
    rw [hmk]
    exact pmake_great neg a n c M (M / 2 ^ s) s (s / 32) (s % 32) e _ (s : Int) _ _ x0 x1 x2 x3 _ _ _ w HN
      (Lib.hid (fun w1 a1 n1 c1 h => by have := (Rd.parts h).1; omega)) HB (by omega) (by omega) (by omega) (by omega) (by omega) (by omega) (by omega)
      (Lib.hid (fun k => getD_word (words_ws M) k)) (Lib.hid (fun k => some0_succ (words_ws M) k)) (Lib.hid (some0_zero _)) hand (Lib.hid hR)
      (Lib.hid (fun w1 a1 n1 c1 h => pshr_c a1 n1 c1 M s w1 h (by omega) (by omega) (by omega)))
      (Lib.hid (fun w1 a1 n1 c1 h => plen h (by omega))) (Lib.hid hx) b0 b1 b2 b3 o1 o2 (Lib.hid (fun w => ppack_n neg _ hV _ _ w))
end Go.Proofs.Ytecgkhijiogggaa
