/- The contract of the reference's Text: the walk. -/
import Derived.Test.YtjioombinbngpaaT
import Derived.Test.YtjioombinbngpaaJ
namespace Go.Proofs.Ytjioombinbngpaa
set_option linter.unusedVariables false
set_option linter.unusedSimpArgs false
open Go.RowKit Go.Shelf

theorem ownsRow_slice {w : World} {B : Nat} {e : TypeId} {v : Value} {n : Nat} {xs : List Value} (h : w.ownsRow B e 1 v n xs) : ∃ a c, v = .slice a n c := by
  rcases h.2 with ⟨rfl, rfl⟩ | ⟨g, c, cur, rfl, _⟩
  · exact ⟨_, _, rfl⟩
  · exact ⟨_, _, rfl⟩
theorem digs_succ (b N : Int) (k : Nat) : digs b N (k + 1) = digs b N k ++ [dig (N / b ^ k % b)] := by
  unfold digs; rw [List.range_succ, List.map_append]; rfl
theorem UDb (lo hi : Int) (hl : Cell lo) (hh : Cell hi) : ∃ N, UD lo hi = N ∧ 0 ≤ N ∧ N < M2 ∧ lo = dlo N ∧ hi = dhi N :=
  ⟨_, rfl, (UD_bounds lo hi).1, (UD_bounds lo hi).2, (dlo_UD lo hi hl hh).1.symm, (dlo_UD lo hi hl hh).2.symm⟩
set_option maxRecDepth 100000 in
set_option maxHeartbeats 2000000 in
theorem rtext_c (lo hi b : Int) (hl : Cell lo) (hh : Cell hi) (w : World) : Calls Try.prog 17 #[.int .i64 lo, .int .i64 hi, .int .i64 b] w fun e w' =>
    e = .returned (.string (strOfNums (txtS b (UD lo hi)))) ∧ Below w.heap.size w w' := by
  unfold txtS
  by_cases hb : b < 2 ∨ 36 < b
  · rw [if_pos hb]
    go_enter Try.func17, Try.ntmps17
    go_wp2
    all_goals (go_ret; exact ⟨rfl, Below.refl _ _⟩)
  · rw [if_neg hb]
    have b2 : 2 ≤ b := by omega
    have b36 : b ≤ 36 := by omega
    clear hb
    obtain ⟨N, hN, N0, N1, hlo, hhi⟩ := UDb lo hi hl hh
    rw [hN, hlo, hhi]
    clear hN hlo hhi
    go_enter Try.func17, Try.ntmps17
    go_wp2_with fail
    go_loopw [0, 1, 7, 8, 9, 10, 11] (fun v0 v1 v7 _ _ _ _ wr => ∃ (k : Nat) (a : Option Addr) (c : Nat), k ≤ 128 ∧ v0 = .int .i64 (dlo (N / b ^ k)) ∧ v1 = .int .i64 (dhi (N / b ^ k)) ∧ v7 = .slice a k c ∧ Below w.heap.size w wr ∧
      Hid (wr.ownsRow w.heap.size 5 1 (.slice a k c) k ((digs b N k).map (Value.int .u8)) ∧ (∀ j, 0 < j → j < k → ¬ N / b ^ j = 0)))
      (fun _ _ v7 _ _ _ _ _ => 128 - (match v7 with | .slice _ n _ => n | _ => 0))
    case atStart => exact ⟨0, none, 0, by omega, by simp, by simp, rfl, Below.refl _ _, World.ownsRow_nil _ _ _ _, fun j _ _ => by omega⟩
    case round =>
      obtain ⟨k, a, c, hk, rfl, rfl, rfl, hbw, HR⟩ := hrel
      have M0 : 0 ≤ N / b ^ k := Int.ediv_nonneg N0 (Int.le_of_lt (pow_pos' (by omega) k))
      have M1 : N / b ^ k < M2 := Int.lt_of_le_of_lt (Int.ediv_le_self _ N0) N1
      have e1 := div_pow_succ b N (by omega) k
      have e2 := digs_succ b N k
      have e3 : k = 128 → N / b ^ k = 0 := fun h => by rw [h]; exact div_small b N b2 N0 N1
      obtain ⟨M, hM⟩ : ∃ M, N / b ^ k = M := ⟨_, rfl⟩
      rw [hM] at M0 M1 e1 e2 e3 ⊢
      have HM := Lib.hid hM
      have HM1 := Lib.hid e1
      have HE := Lib.hid e2
      have i2 : IntKind.u64.wrap (dhi M) = M / 18446744073709551616 := by rw [IntKind.wrap_u64]; unfold dhi wrap64; unfold M2 at M1; omega
      have i5 : IntKind.u64.wrap ((M / 18446744073709551616).tdiv b) = M / 18446744073709551616 / b := by
        have g0 : 0 ≤ M / 18446744073709551616 := Int.ediv_nonneg M0 (by decide)
        have g1 : M / 18446744073709551616 < 18446744073709551616 := by unfold M2 at M1; omega
        have g2 : M / 18446744073709551616 / b ≤ M / 18446744073709551616 := Int.ediv_le_self _ g0
        have g3 : 0 ≤ M / 18446744073709551616 / b := Int.ediv_nonneg g0 (by omega)
        rw [Int.tdiv_eq_ediv_of_nonneg g0, IntKind.wrap_u64]; omega
      have r0 := Int.emod_nonneg M (show b ≠ 0 by omega)
      have r1 : M % b < 36 := by have := Int.emod_lt_of_pos M (show 0 < b by omega); omega
      have x0 := Int.emod_nonneg (M / 18446744073709551616) (show b ≠ 0 by omega)
      have x1 : M / 18446744073709551616 % b < 36 := by have := Int.emod_lt_of_pos (M / 18446744073709551616) (show 0 < b by omega); omega
      obtain ⟨x, hx⟩ : ∃ x, M / 18446744073709551616 % b = x := ⟨_, rfl⟩
      rw [hx] at x0 x1
      obtain ⟨t, ht⟩ : ∃ t, decide (k = 0 ∨ ¬ M = 0) = t := ⟨_, rfl⟩
      have HT := Lib.hid ht
      have HZ := Lib.hid (dlohi_zero M M0 M1)
      clear hM e1 e2 ht
      go_upto_region 4 with (fail)
      go_cut [30] from 20 to 56 (fun v30 wc => v30 = .bool t ∧ wr = wc)
      case first =>
        by_cases k0 : k = 0
        · have z1 : ((k : Int) == 0) = true := by rw [k0]; rfl
          have K0 := Lib.hid k0
          clear k0
          go_wp2
          go_meet
          case rel => exact ⟨by rw [← HT.out]; exact congrArg Value.bool (decide_eq_true (.inl K0.out)).symm, rfl⟩
        · have z1 : ((k : Int) == 0) = false := by simp; exact k0
          by_cases d0 : dlo M = 0
          · have z2 := bne_of d0
            have D0 := Lib.hid d0
            clear d0
            by_cases d1 : dhi M = 0
            · have z3 := bne_of d1
              have D1 := Lib.hid d1
              clear d1
              go_wp2
              go_meet
              case rel => exact ⟨by rw [← HT.out]; exact congrArg Value.bool (decide_eq_false (fun h => h.elim k0 (fun g => g (HZ.out D0.out D1.out)))).symm, rfl⟩
            · have z3 := bne_no d1
              go_wp2
              go_meet
              case rel => exact ⟨by rw [← HT.out]; exact congrArg Value.bool (decide_eq_true (.inr (fun g => d1 (by rw [g]; unfold dhi wrap64; omega)))).symm, rfl⟩
          · have z2 := bne_no d0
            go_wp2
            go_meet
            case rel => exact ⟨by rw [← HT.out]; exact congrArg Value.bool (decide_eq_true (.inr (fun g => d0 (by rw [g]; unfold dlo wrap64; omega)))).symm, rfl⟩
      case rest =>
        obtain ⟨rfl, rfl⟩ := hcut
        cases t
        · have hs := of_decide_eq_false HT.out
          have hs0 : ¬ k = 0 := fun h => hs (.inl h)
          have hsM : M = 0 := Decidable.byContradiction (fun h => hs (.inr h))
          have HTX := Lib.hid (txt_is b N (by omega) k hk (by omega) HR.out.2 (by rw [HM.out, hsM]))
          obtain ⟨w1, hw1⟩ : ∃ x, x = wr := ⟨_, rfl⟩
          subst hw1
          have hrd := Rd.of_own HR.out.1
          have hkl := digs_length b N k
          obtain ⟨l, hl⟩ : ∃ l, digs b N k = l := ⟨_, rfl⟩
          rw [hl] at hrd hkl HTX
          obtain ⟨_, _, hbi⟩ := hrd.bytesIn
          obtain ⟨g, off, rfl, hcl⟩ := hbi (by omega)
          have HKL := Lib.hid hkl
          clear hs hsM i2 i5 hx e3 hkl hl hbi hrd HE HR
          have kp : 1 ≤ k := by omega
          go_wp2_with fail
          go_loopw [12, 13] (fun v12 v13 wr => ∃ (p j : Nat) (a2 : Option Addr) (c2 : Nat), p + j = k ∧ v12 = .slice a2 j c2 ∧ v13 = .int .i64 ((p : Int) - 1) ∧ Below w1.heap.size w1 wr ∧
            Hid (wr.ownsRow w1.heap.size 5 1 (.slice a2 j c2) j ((l.reverse.take j).map (Value.int .u8))))
            (fun _ v13 _ => (intOf v13 + 1).toNat)
          case atStart => exact ⟨k, 0, none, 0, rfl, rfl, rfl, Below.refl _ _, World.ownsRow_nil _ _ _ _⟩
          case round =>
            obtain ⟨p, j, a2, c2, hpj, rfl, rfl, hb2, HO2⟩ := hrel
            have HPJ := Lib.hid hpj
            cases p with
            | zero =>
              have hjk : j = k := by omega
              have hrd : Rd wr .u8 (.slice a2 j c2) (txt b N) := by
                rw [HTX.out]
                have := Rd.of_own HO2.out
                rwa [List.take_of_length_le (by rw [List.length_reverse]; have := HKL.out; omega)] at this
              have HRD := Lib.hid hrd
              clear hpj hjk hrd
              go_wp2_with (rw [HRD.out.to_string Try.underlying22 Try.underlying5 Try.underlying9])
              go_ret
              exact ⟨rfl, below_then hbw hbw.size hb2⟩
            | succ q =>
              have hq := cell_below hb2 (hcl q (by omega))
              obtain ⟨y, hy⟩ : ∃ y, l.getD q 0 = y := ⟨_, rfl⟩
              rw [hy] at hq
              have HT2 := Lib.hid (show l.reverse.take (j + 1) = l.reverse.take j ++ [y] by
                have h1 : j < l.reverse.length := by rw [List.length_reverse]; have := HKL.out; omega
                rw [List.take_succ_eq_append_getElem h1, List.getElem_reverse]
                have h2 : l.length - 1 - j = q := by have := HKL.out; omega
                have h3 : q < l.length := by have := HKL.out; omega
                have h4 : l[l.length - 1 - j]'(by omega) = y := by
                  rw [← hy, List.getD_eq_getElem?_getD]
                  simp only [h2, List.getElem?_eq_getElem h3, Option.getD_some]
                rw [h4])
              have hqk : q < k := by omega
              have hjk : j < 128 := by omega
              clear hpj hy hcl
              go_wp2_with (at_builtin; go_loud (refine wp_app 22 5 (.int .u8 0) 1 Try.underlying22 info_u8 rfl w1.heap.size (.slice a2 j c2) j _ (.int .u8 y) wr _ rfl (by rfl) (.tmp 64) (.tmp 69) (by rfl) (by rfl) (by rfl) HO2.out hb2.size rfl (by omega) (by decide) ?_); intro v' w' hown hbel)
              obtain ⟨a', c', rfl⟩ := ownsRow_slice hown
              have HO := Lib.hid hown
              clear hown
              go_wp2
              go_roundw
              case rel =>
                refine ⟨q, j + 1, a', c', by have := HPJ.out; omega, rfl, rfl, hb2.trans hbel, ?_⟩
                have := HO.out
                rw [HT2.out, List.map_append]
                exact this
              case measure => simp [intOf]
        · have hs := of_decide_eq_true HT.out
          have hk' : k < 128 := by
            rcases hs with h | h
            · omega
            · rcases Nat.lt_or_ge k 128 with h2 | h2
              · exact h2
              · exact absurd (e3 (by omega)) h
          have HS := Lib.hid (show ∀ j, 0 < j → j < k + 1 → ¬ N / b ^ j = 0 from fun j hj hj' => by
            by_cases e : j = k
            · subst e
              rcases hs with h | h
              · omega
              · rw [HM.out]; exact h
            · exact HR.out.2 j hj (by omega))
          clear hs e3
          have hal := alpha_get (M % b) r0 r1
          go_wp2_with (first
            | (go_at_call 28; with_reducible refine (rudivS M b x M0 M1 b2 b36 hx _).mono ?_; rintro e w' ⟨rfl, rfl⟩)
            | (at_builtin; go_loud (refine wp_app 22 5 (.int .u8 0) 1 Try.underlying22 info_u8 rfl w.heap.size (.slice a k c) k _ (.int .u8 (dig (M % b))) wr _ rfl (by rfl) (.tmp 52) (.tmp 55) (by rfl) (by rfl) (by rfl) HR.out.1 hbw.size rfl (by omega) (by decide) ?_); intro v' w' hown hbel))
          obtain ⟨a', c', rfl⟩ := ownsRow_slice hown
          have HO := Lib.hid hown
          clear hown
          go_wp2
          go_roundw
          case rel =>
            refine ⟨k + 1, a', c', by omega, val_int (by rw [HM1.out]), val_int (by rw [HM1.out]; exact dhi_div M b (by omega)), rfl, hbw.trans hbel, ?_, HS.out⟩
            have := HO.out
            rw [HE.out, List.map_append]
            exact this
          case measure => simp; omega
end Go.Proofs.Ytjioombinbngpaa
