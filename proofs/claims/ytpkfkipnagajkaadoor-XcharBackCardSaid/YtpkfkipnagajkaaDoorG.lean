/- The reference's Back; both texts' Garbage and Columns. -/
import Derived.Test.YtpkfkipnagajkaaDoorV
namespace Go.Proofs.YtpkfkipnagajkaaDoor
set_option linter.unusedVariables false
set_option linter.unusedSimpArgs false
open Go.RowKit Go.Shelf

theorem decT_zero {l : List Int} (h : decT l = 0) : (dec l).2 ≠ 0 := fun g => by unfold decT at h; rw [if_pos g] at h; cases h
theorem dec_suffix_iff (l : List Int) (k s : Nat) (hk : 1 ≤ k) (hs : l.length = s + k) : bkAt l k ↔ (decT (l.drop s) = 0 ∧ (dec (l.drop s)).2 = k) := by
  unfold bkAt
  rw [show l.length - k = s by omega]
  constructor
  · rintro ⟨_, h⟩
    refine ⟨?_, h⟩
    unfold decT; rw [if_neg (by omega)]
  · rintro ⟨_, h⟩
    exact ⟨by omega, h⟩
set_option maxHeartbeats 1600000 in
theorem rback_c (v : Value) (l : List Int) (w : World) (hr : Rd w .u8 v l) (hb : Byt l) (hlen : l.length ≤ 9223372036854775807) :
    Calls Tryd.prog 11 #[v] w fun e w' => e = .returned (.tuple #[.int .i64 (bkN l), .int .i64 (bkT l)]) ∧ w = w' := by
  have hr0 := hr
  obtain ⟨a, c, rfl, hc, hcell⟩ := hr
  rcases hcell with rfl | ⟨g, off, rfl, _⟩
  · have e1 : bkN [] = 0 := by decide
    have e2 : bkT [] = -77 := by decide
    rw [e1, e2]
    clear e1 e2 hr0
    go_enter Tryd.func11, Tryd.ntmps11
    go_wp2
    refine wp_loop_rounds 1 ?_
    rw [rounds_succ]
    go_wp2
    go_ret2
    exact ⟨rfl, rfl⟩
  · have HB := Lib.hid hb
    clear hb
    go_enter Tryd.func11, Tryd.ntmps11
    go_wp2
    go_loop [4] (fun i => ∃ k : Nat, 1 ≤ k ∧ k ≤ 5 ∧ (∀ j, 1 ≤ j → j < k → ¬ bkAt l j) ∧ i = .int .i64 k) (fun i => 5 - (intOf i).toNat)
    case atStart => exact ⟨1, by omega, by omega, fun j h1 h2 => by omega, rfl⟩
    case round =>
      obtain ⟨k, hk1, hk5, hno, rfl⟩ := hrel
      have HNO := Lib.hid hno
      clear hno
      by_cases h1 : k ≤ 4 ∧ k ≤ l.length
      · obtain ⟨h4, hkl⟩ := h1
        obtain ⟨s, hs⟩ : ∃ s, l.length = s + k := ⟨l.length - k, by omega⟩
        have D := fun (v : Value) (h : Rd w .u8 v (l.drop s)) => rdecode_c v (l.drop s) w h (fun x hx => HB.out x (List.mem_of_mem_drop hx))
        have iff := dec_suffix_iff l k s hk1 hs
        have hR : ∀ (n' c' : Nat), n' = l.length - s → c' = c - s → Rd w .u8 (.slice (some ⟨g, off + s, none⟩) n' c') (l.drop s) := fun n' c' e1 e2 => hr0.drop (by omega) e1 e2
        obtain ⟨u, hu⟩ : ∃ u, (dec (l.drop s)).1 = u := ⟨_, rfl⟩
        obtain ⟨n, hn⟩ : ∃ u, (dec (l.drop s)).2 = u := ⟨_, rfl⟩
        obtain ⟨t, ht⟩ : ∃ u, decT (l.drop s) = u := ⟨_, rfl⟩
        simp only [hu, hn, ht] at D iff
        obtain ⟨L, hL⟩ : ∃ L, l.length = L := ⟨_, rfl⟩
        have hLs : (L : Int) - (k : Int) = s := by omega
        have hLn : ((L : Int) - (k : Int)).toNat = s := by omega
        have hsL : s ≤ L := by omega
        rw [hL] at hc hkl hR
        have HD := Lib.hid D
        have HI := Lib.hid iff
        have HR := Lib.hid hR
        have HLs := Lib.hid hLs
        have HLL := Lib.hid hL
        have hs63 : s ≤ 9223372036854775807 := by omega
        clear D iff hR hu hn ht hs
        by_cases hok : t = 0 ∧ n = k
        · obtain ⟨rfl, rfl⟩ := hok
          have hbk := HI.out.2 ⟨rfl, rfl⟩
          have e1 := bkN_is l k ⟨hk1, h4⟩ hbk HNO.out
          have E1 := Lib.hid e1
          have E2 : Hid (bkT l = 0) := Lib.hid (by unfold bkT; rw [e1, if_neg (by omega)])
          clear e1 hbk
          rw [hL]
          clear hL
          go_wp2_with (go_at_call 9; refine (HD.out _ (HR.out _ _ (by omega) (by omega))).mono ?_; rintro e w' ⟨rfl, rfl⟩)
          go_ret2
          exact ⟨ret2 E1.out.symm E2.out.symm, rfl⟩
        · have hno2 : ∀ j, 1 ≤ j → j < k + 1 → ¬ bkAt l j := fun j h1 h2 => by
            by_cases e : j = k
            · subst e; exact fun g => hok (HI.out.1 g)
            · exact HNO.out j h1 (by omega)
          have HNO2 := Lib.hid hno2
          rw [hL]
          clear hno2 hL
          by_cases ht0 : t = 0
          · subst ht0
            have hnk : ¬ n = k := fun g => hok ⟨rfl, g⟩
            have hB := beq_no hnk
            clear hok hnk
            go_wp2_with (go_at_call 9; refine (HD.out _ (HR.out _ _ (by omega) (by omega))).mono ?_; rintro e w' ⟨rfl, rfl⟩)
            go_round
            case rel => exact ⟨k + 1, by omega, by omega, HNO2.out, by go_num⟩
            case measure => simp [intOf]; omega
          · have hB := beq_no ht0
            clear hok ht0
            go_wp2_with (go_at_call 9; refine (HD.out _ (HR.out _ _ (by omega) (by omega))).mono ?_; rintro e w' ⟨rfl, rfl⟩)
            go_round
            case rel => exact ⟨k + 1, by omega, by omega, HNO2.out, by go_num⟩
            case measure => simp [intOf]; omega
      · have e1 : bkN l = 0 := by
          refine bkN_zero l ?_ ?_ ?_ ?_
          all_goals
            intro g
            have g2 := g.1
            exact HNO.out _ (by decide) (by omega) g
        have E1 := Lib.hid e1
        have E2 := Lib.hid (bkT_fail e1)
        clear e1
        by_cases h4 : k ≤ 4
        · have h5 : ¬ k ≤ l.length := fun g => h1 ⟨h4, g⟩
          clear h1
          go_wp2
          go_ret2
          exact ⟨ret2 E1.out.symm E2.out.symm, rfl⟩
        · clear h1
          go_wp2
          go_ret2
          exact ⟨ret2 E1.out.symm E2.out.symm, rfl⟩
end Go.Proofs.YtpkfkipnagajkaaDoor
