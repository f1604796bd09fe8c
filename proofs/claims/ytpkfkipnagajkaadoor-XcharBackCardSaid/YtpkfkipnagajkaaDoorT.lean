/- The contract of the reference's Decode. -/
import Derived.Test.YtpkfkipnagajkaaDoorS
namespace Go.Proofs.YtpkfkipnagajkaaDoor
set_option linter.unusedVariables false
set_option linter.unusedSimpArgs false
open Go.RowKit Go.Shelf

theorem and192 : ∀ x : Fin 256, bits .and .u8 ((x.val : Nat) : Int) 192 = (((x.val / 64 * 64 : Nat)) : Int) := by decide +kernel
theorem and63b : ∀ x : Fin 256, bits .and .u8 ((x.val : Nat) : Int) 63 = (((x.val % 64 : Nat)) : Int) := by decide +kernel
theorem and31 : ∀ x : Fin 256, bits .and .i64 ((x.val : Nat) : Int) 31 = (((x.val % 32 : Nat)) : Int) := by decide +kernel
theorem and15 : ∀ x : Fin 256, bits .and .i64 ((x.val : Nat) : Int) 15 = (((x.val % 16 : Nat)) : Int) := by decide +kernel
theorem and7 : ∀ x : Fin 256, bits .and .i64 ((x.val : Nat) : Int) 7 = (((x.val % 8 : Nat)) : Int) := by decide +kernel
theorem fin_of {x : Int} (h : 0 ≤ x ∧ x < 256) : ∃ k : Fin 256, ((k.val : Nat) : Int) = x := ⟨⟨x.toNat, by omega⟩, by simp; omega⟩
theorem and192' {x : Int} (h : 0 ≤ x ∧ x < 256) : bits .and .u8 x 192 = x / 64 * 64 := by
  obtain ⟨k, rfl⟩ := fin_of h; rw [and192 k]; omega
theorem and63' {x : Int} (h : 0 ≤ x ∧ x < 256) : bits .and .u8 x 63 = x % 64 := by
  obtain ⟨k, rfl⟩ := fin_of h; rw [and63b k]; omega
theorem and31' {x : Int} (h : 0 ≤ x ∧ x < 256) : bits .and .i64 x 31 = x % 32 := by
  obtain ⟨k, rfl⟩ := fin_of h; rw [and31 k]; omega
theorem and15' {x : Int} (h : 0 ≤ x ∧ x < 256) : bits .and .i64 x 15 = x % 16 := by
  obtain ⟨k, rfl⟩ := fin_of h; rw [and15 k]; omega
theorem and7' {x : Int} (h : 0 ≤ x ∧ x < 256) : bits .and .i64 x 7 = x % 8 := by
  obtain ⟨k, rfl⟩ := fin_of h; rw [and7 k]; omega
theorem or_six (u y : Int) (h0 : 0 ≤ u) (h1 : u < 1000000) (y0 : 0 ≤ y) (y1 : y < 64) : bits .or .i64 (u * 64) y = u * 64 + y := by
  obtain ⟨n, rfl⟩ := Int.eq_ofNat_of_zero_le h0
  have := or_at 6 (n * 64) y y0 (by show y < (64 : Int); exact y1) (by omega) (by omega) (by omega)
  rw [show ((n : Int)) * 64 = ((n * 64 : Nat) : Int) by push_cast; rfl]
  exact this
theorem rdec_none (v : Value) (l : List Int) (w : World) (hr : Rd w .u8 v l) (hb : Byt l) (h : l = [] ∨ szT (l.getD 0 0) ≠ 0 ∨ (l.length : Int) < szN (l.getD 0 0)) :
    Calls Tryd.prog 9 #[v] w fun e w' => e = .returned (.tuple #[.int .i64 0, .int .i64 0, .int .i64 (-77)]) ∧ w = w' := by
  obtain ⟨a, c, rfl, hc, hcell⟩ := hr
  by_cases hne : l = []
  · subst hne
    clear hcell h
    go_enter Tryd.func9, Tryd.ntmps9
    go_wp2
    go_ret3
    exact ⟨rfl, rfl⟩
  · obtain ⟨g, off, rfl, hcl⟩ : ∃ g off, a = some ⟨g, off, none⟩ ∧ ∀ i, i < l.length → w.cell? ⟨g, off + i, none⟩ = some (.int .u8 (l.getD i 0)) := by
      rcases hcell with h | h
      · exact absurd h hne
      · exact h
    have l0 : 1 ≤ l.length := by
      rcases Nat.eq_zero_or_pos l.length with h | h
      · exact absurd (List.eq_nil_of_length_eq_zero h) hne
      · exact h
    have c0 := hcl 0 (by omega)
    simp only [Nat.add_zero] at c0
    have b0 := getD_byte l hb 0
    obtain ⟨x, hx⟩ : ∃ x, l.getD 0 0 = x := ⟨_, rfl⟩
    rw [hx] at c0 b0 h
    have t0 : ((l.length : Int) == 0) = false := by simp; omega
    rcases h with h | h | h
    · exact absurd h hne
    · have t1 := bne_no h
      clear hcl hne h
      go_enter Tryd.func9, Tryd.ntmps9
      go_wp2_with (go_at_call 21; refine (rsize_c _ b0.1 b0.2 _).mono ?_; rintro e w' ⟨rfl, rfl⟩)
      go_ret3
      exact ⟨rfl, rfl⟩
    · clear hcl hne
      go_enter Tryd.func9, Tryd.ntmps9
      go_wp2_with (go_at_call 21; refine (rsize_c _ b0.1 b0.2 _).mono ?_; rintro e w' ⟨rfl, rfl⟩)
      all_goals go_ret3
      all_goals exact ⟨rfl, rfl⟩
set_option maxHeartbeats 4000000 in
theorem rdec_go (v : Value) (l : List Int) (w : World) (hr : Rd w .u8 v l) (hb : Byt l) (hne : l ≠ []) (ht : szT (l.getD 0 0) = 0) (hn : szN (l.getD 0 0) ≤ (l.length : Int)) :
    Calls Tryd.prog 9 #[v] w fun e w' => e = .returned (.tuple #[.int .i64 (dec l).1, .int .i64 (dec l).2, .int .i64 (decT l)]) ∧ w = w' := by
  obtain ⟨a, c, rfl, hc, hcell⟩ := hr
  obtain ⟨g, off, rfl, hcl⟩ : ∃ g off, a = some ⟨g, off, none⟩ ∧ ∀ i, i < l.length → w.cell? ⟨g, off + i, none⟩ = some (.int .u8 (l.getD i 0)) := by
    rcases hcell with h | h
    · exact absurd h hne
    · exact h
  have l0 : 1 ≤ l.length := by
    rcases Nat.eq_zero_or_pos l.length with h | h
    · exact absurd (List.eq_nil_of_length_eq_zero h) hne
    · exact h
  have c0 := hcl 0 (by omega)
  simp only [Nat.add_zero] at c0
  have b0 := getD_byte l hb 0
  have b1 := getD_byte l hb 1
  have b2 := getD_byte l hb 2
  have b3 := getD_byte l hb 3
  have c1 := hcl 1
  have c2 := hcl 2
  have c3 := hcl 3
  have E : dec l = D4 l.length (l.getD 0 0) (l.getD 1 0) (l.getD 2 0) (l.getD 3 0) := rfl
  obtain ⟨x, hx⟩ : ∃ x, l.getD 0 0 = x := ⟨_, rfl⟩
  obtain ⟨y, hy⟩ : ∃ x, l.getD 1 0 = x := ⟨_, rfl⟩
  obtain ⟨z, hz⟩ : ∃ x, l.getD 2 0 = x := ⟨_, rfl⟩
  obtain ⟨q, hq⟩ : ∃ x, l.getD 3 0 = x := ⟨_, rfl⟩
  rw [hx, hy, hz, hq] at E
  rw [hx] at c0 b0 ht hn
  rw [hy] at c1 b1
  rw [hz] at c2 b2
  rw [hq] at c3 b3
  have t0 : ((l.length : Int) == 0) = false := by simp; omega
  have T0 := bne_of ht
  have S := fun w => rsize_c x b0.1 b0.2 w
  have a7 := and7' b0
  have a15 := and15' b0
  have a31 := and31' b0
  have a63y := and63' b1
  have a63z := and63' b2
  have a63q := and63' b3
  have a192y := and192' b1
  have a192z := and192' b2
  have a192q := and192' b3
  rw [ht] at S
  clear hcl hne hx hy hz hq hcell
  unfold decT
  by_cases x1 : x < 128
  · have e1 : szN x = 1 := by unfold szN; rw [if_pos x1]
    have eD : dec l = (x, 1) := by rw [E]; unfold D4; rw [if_neg (by omega), if_pos x1]
    have wv : wd x = 1 := by unfold wd; rw [isC_yes b0.1 (by omega) (by omega), if_pos rfl, if_pos x1]
    rw [e1] at S
    rw [eD]
    have HS := Lib.hid S
    clear S E eD e1 ht c1 c2 c3
    go_enter Tryd.func9, Tryd.ntmps9
    go_wp2_with (go_at_call 21; refine (HS.out _).mono ?_; rintro e w' ⟨rfl, rfl⟩)
    refine wp_loop_rounds 1 ?_
    rw [rounds_succ]
    go_wp2_with (go_at_call 22; refine (rwidth_c _ _).mono ?_; rintro e w' ⟨rfl, rfl⟩)
    go_ret3
    exact ⟨rfl, rfl⟩
  · have xt : 194 ≤ x ∧ x < 245 := by
      unfold szT at ht
      rw [if_neg x1] at ht
      by_cases h : x < 194
      · rw [if_pos h] at ht; omega
      · rw [if_neg h] at ht
        by_cases h2 : x < 245
        · omega
        · rw [if_neg h2] at ht; omega
    by_cases x2 : x < 224
    · have e1 : szN x = 2 := by unfold szN; rw [if_neg x1, if_neg (by omega), if_pos x2]
      rw [e1] at S hn
      have HS := Lib.hid S
      have c1' := c1 (by omega)
      have n3 : ¬ ok3 l.length x y z := fun h => by unfold ok3 at h; omega
      have n4 : ¬ ok4 l.length x y z q := fun h => by unfold ok4 at h; omega
      by_cases cy : co y
      · have A1 : bits .and .u8 y 192 = 128 := by rw [a192y]; unfold co at cy; omega
        have B1 : bits .and .u8 y 63 = y - 128 := by rw [a63y]; unfold co at cy; omega
        have M1 : bits .and .i64 x 31 = x - 192 := by rw [a31]; omega
        unfold co at cy
        have O1 : bits .or .i64 ((x - 192) * 64) (y - 128) = u2 x y := or_six _ _ (by omega) (by omega) (by omega) (by omega)
        have ub : 128 ≤ u2 x y ∧ u2 x y < 2048 := by unfold u2; omega
        have wv : wd (u2 x y) = 2 := by unfold wd; rw [isC_yes (by omega) (by omega) (by omega), if_pos rfl, if_neg (by omega), if_pos (by omega)]
        have eD : dec l = (u2 x y, 2) := by rw [E]; unfold D4; rw [if_neg (by omega), if_neg x1, if_pos (show ok2 l.length x y by unfold ok2 co; omega)]
        rw [eD]
        obtain ⟨u, hu⟩ : ∃ u, u2 x y = u := ⟨_, rfl⟩
        rw [hu] at O1 ub wv ⊢
        clear S E eD e1 ht c1 c2 c3 hu n3 n4 a192y a192z a192q a63y a63z a63q a31 a15 a7 hb T0
        go_enter Tryd.func9, Tryd.ntmps9
        go_wp2_with (go_at_call 21; refine (HS.out _).mono ?_; rintro e w' ⟨rfl, rfl⟩)
        refine wp_loop_rounds 2 ?_
        rw [rounds_succ]
        go_wp2
        rw [rounds_succ]
        go_wp2_with (go_at_call 22; refine (rwidth_c _ _).mono ?_; rintro e w' ⟨rfl, rfl⟩)
        go_ret3
        exact ⟨rfl, rfl⟩
      · have A1 : (bits .and .u8 y 192 != 128) = true := bne_no (by rw [a192y]; unfold co at cy; omega)
        have eD : dec l = (0, 0) := by rw [E]; unfold D4; rw [if_neg (by omega), if_neg x1, if_neg (fun h : ok2 l.length x y => by unfold ok2 at h; exact cy h.2.2.2.1), if_neg n3, if_neg n4]
        rw [eD]
        clear S E eD e1 ht c1 c2 c3 n3 n4 a192y a192z a192q a63y a63z a63q a31 a15 a7 hb T0 cy
        go_enter Tryd.func9, Tryd.ntmps9
        go_wp2_with (go_at_call 21; refine (HS.out _).mono ?_; rintro e w' ⟨rfl, rfl⟩)
        refine wp_loop_rounds 1 ?_
        rw [rounds_succ]
        go_wp2_with (go_at_call 22; refine (rwidth_c _ _).mono ?_; rintro e w' ⟨rfl, rfl⟩)
        go_ret3
        exact ⟨rfl, rfl⟩
    · have n2 : ¬ ok2 l.length x y := fun h => by unfold ok2 at h; omega
      by_cases x3 : x < 240
      · have e1 : szN x = 3 := by unfold szN; rw [if_neg x1, if_neg (by omega), if_neg x2, if_pos x3]
        rw [e1] at S hn
        have HS := Lib.hid S
        have c1' := c1 (by omega)
        have c2' := c2 (by omega)
        have n4 : ¬ ok4 l.length x y z q := fun h => by unfold ok4 at h; omega
        by_cases cy : co y
        · have A1 : bits .and .u8 y 192 = 128 := by rw [a192y]; unfold co at cy; omega
          have B1 : bits .and .u8 y 63 = y - 128 := by rw [a63y]; unfold co at cy; omega
          have M1 : bits .and .i64 x 15 = x - 224 := by rw [a15]; omega
          unfold co at cy
          have O1 : bits .or .i64 ((x - 224) * 64) (y - 128) = (x - 224) * 64 + (y - 128) := or_six _ _ (by omega) (by omega) (by omega) (by omega)
          obtain ⟨m, hm⟩ : ∃ m, (x - 224) * 64 + (y - 128) = m := ⟨_, rfl⟩
          rw [hm] at O1
          have mb : 0 ≤ m ∧ m < 1024 := by omega
          by_cases cz : co z
          · have A2 : bits .and .u8 z 192 = 128 := by rw [a192z]; unfold co at cz; omega
            have B2 : bits .and .u8 z 63 = z - 128 := by rw [a63z]; unfold co at cz; omega
            unfold co at cz
            have O2 : bits .or .i64 (m * 64) (z - 128) = u3 x y z := (or_six _ _ (by omega) (by omega) (by omega) (by omega)).trans (by unfold u3; omega)
            have ub : 0 ≤ u3 x y z ∧ u3 x y z < 65536 := by unfold u3; omega
            by_cases hv : 2048 ≤ u3 x y z ∧ ¬ (55296 ≤ u3 x y z ∧ u3 x y z ≤ 57343)
            · have wv : wd (u3 x y z) = 3 := by unfold wd; rw [isC_yes (by omega) (by omega) hv.2, if_pos rfl, if_neg (by omega), if_neg (by omega), if_pos (by omega)]
              have eD : dec l = (u3 x y z, 3) := by rw [E]; unfold D4; rw [if_neg (by omega), if_neg x1, if_neg n2, if_pos (show ok3 l.length x y z by unfold ok3 co; omega)]
              rw [eD]
              obtain ⟨u, hu⟩ : ∃ u, u3 x y z = u := ⟨_, rfl⟩
              rw [hu] at O2 ub wv ⊢
              clear S E eD e1 ht c1 c2 c3 hu n2 n4 a192y a192z a192q a63y a63z a63q a31 a15 a7 hb T0 hv hm
              go_enter Tryd.func9, Tryd.ntmps9
              go_wp2_with (go_at_call 21; refine (HS.out _).mono ?_; rintro e w' ⟨rfl, rfl⟩)
              refine wp_loop_rounds 3 ?_
              rw [rounds_succ]
              go_wp2
              rw [rounds_succ]
              go_wp2
              rw [rounds_succ]
              go_wp2_with (go_at_call 22; refine (rwidth_c _ _).mono ?_; rintro e w' ⟨rfl, rfl⟩)
              go_ret3
              exact ⟨rfl, rfl⟩
            · have wv : ¬ wd (u3 x y z) = 3 := by
                unfold wd
                by_cases hc : isC (u3 x y z) = true
                · rw [if_pos hc]
                  have := isC_iff hc
                  split
                  · omega
                  · split
                    · omega
                    · rw [if_pos (by omega)]; omega
                · rw [if_neg hc]; omega
              have eD : dec l = (0, 0) := by rw [E]; unfold D4; rw [if_neg (by omega), if_neg x1, if_neg n2, if_neg (fun h : ok3 l.length x y z => by unfold ok3 at h; exact hv h.2.2.2.2.2), if_neg n4]
              rw [eD]
              obtain ⟨u, hu⟩ : ∃ u, u3 x y z = u := ⟨_, rfl⟩
              rw [hu] at O2 ub wv
              have W1 := bne_no wv
              clear S E eD e1 ht c1 c2 c3 hu n2 n4 a192y a192z a192q a63y a63z a63q a31 a15 a7 hb T0 hv hm wv
              go_enter Tryd.func9, Tryd.ntmps9
              go_wp2_with (go_at_call 21; refine (HS.out _).mono ?_; rintro e w' ⟨rfl, rfl⟩)
              refine wp_loop_rounds 3 ?_
              rw [rounds_succ]
              go_wp2
              rw [rounds_succ]
              go_wp2
              rw [rounds_succ]
              go_wp2_with (go_at_call 22; refine (rwidth_c _ _).mono ?_; rintro e w' ⟨rfl, rfl⟩)
              go_ret3
              exact ⟨rfl, rfl⟩
          · have A2 : (bits .and .u8 z 192 != 128) = true := bne_no (by rw [a192z]; unfold co at cz; omega)
            have eD : dec l = (0, 0) := by rw [E]; unfold D4; rw [if_neg (by omega), if_neg x1, if_neg n2, if_neg (fun h : ok3 l.length x y z => by unfold ok3 at h; exact cz h.2.2.2.2.1), if_neg n4]
            rw [eD]
            clear S E eD e1 ht c1 c2 c3 n2 n4 a192y a192z a192q a63y a63z a63q a31 a15 a7 hb T0 cz hm
            go_enter Tryd.func9, Tryd.ntmps9
            go_wp2_with (go_at_call 21; refine (HS.out _).mono ?_; rintro e w' ⟨rfl, rfl⟩)
            refine wp_loop_rounds 2 ?_
            rw [rounds_succ]
            go_wp2
            rw [rounds_succ]
            go_wp2_with (go_at_call 22; refine (rwidth_c _ _).mono ?_; rintro e w' ⟨rfl, rfl⟩)
            go_ret3
            exact ⟨rfl, rfl⟩
        · have A1 : (bits .and .u8 y 192 != 128) = true := bne_no (by rw [a192y]; unfold co at cy; omega)
          have eD : dec l = (0, 0) := by rw [E]; unfold D4; rw [if_neg (by omega), if_neg x1, if_neg n2, if_neg (fun h : ok3 l.length x y z => by unfold ok3 at h; exact cy h.2.2.2.1), if_neg n4]
          rw [eD]
          clear S E eD e1 ht c1 c2 c3 n2 n4 a192y a192z a192q a63y a63z a63q a31 a15 a7 hb T0 cy
          go_enter Tryd.func9, Tryd.ntmps9
          go_wp2_with (go_at_call 21; refine (HS.out _).mono ?_; rintro e w' ⟨rfl, rfl⟩)
          refine wp_loop_rounds 1 ?_
          rw [rounds_succ]
          go_wp2_with (go_at_call 22; refine (rwidth_c _ _).mono ?_; rintro e w' ⟨rfl, rfl⟩)
          go_ret3
          exact ⟨rfl, rfl⟩
      · have e1 : szN x = 4 := by unfold szN; rw [if_neg x1, if_neg (by omega), if_neg x2, if_neg x3, if_pos xt.2]
        rw [e1] at S hn
        have HS := Lib.hid S
        have c1' := c1 (by omega)
        have c2' := c2 (by omega)
        have c3' := c3 (by omega)
        have n3 : ¬ ok3 l.length x y z := fun h => by unfold ok3 at h; omega
        by_cases cy : co y
        · have A1 : bits .and .u8 y 192 = 128 := by rw [a192y]; unfold co at cy; omega
          have B1 : bits .and .u8 y 63 = y - 128 := by rw [a63y]; unfold co at cy; omega
          have M1 : bits .and .i64 x 7 = x - 240 := by rw [a7]; omega
          unfold co at cy
          have O1 : bits .or .i64 ((x - 240) * 64) (y - 128) = (x - 240) * 64 + (y - 128) := or_six _ _ (by omega) (by omega) (by omega) (by omega)
          obtain ⟨m, hm⟩ : ∃ m, (x - 240) * 64 + (y - 128) = m := ⟨_, rfl⟩
          rw [hm] at O1
          have mb : 0 ≤ m ∧ m < 320 := by omega
          by_cases cz : co z
          · have A2 : bits .and .u8 z 192 = 128 := by rw [a192z]; unfold co at cz; omega
            have B2 : bits .and .u8 z 63 = z - 128 := by rw [a63z]; unfold co at cz; omega
            unfold co at cz
            have O2 : bits .or .i64 (m * 64) (z - 128) = m * 64 + (z - 128) := or_six _ _ (by omega) (by omega) (by omega) (by omega)
            obtain ⟨m2, hm2⟩ : ∃ m2, m * 64 + (z - 128) = m2 := ⟨_, rfl⟩
            rw [hm2] at O2
            have mb2 : 0 ≤ m2 ∧ m2 < 20480 := by omega
            by_cases cq : co q
            · have A3 : bits .and .u8 q 192 = 128 := by rw [a192q]; unfold co at cq; omega
              have B3 : bits .and .u8 q 63 = q - 128 := by rw [a63q]; unfold co at cq; omega
              unfold co at cq
              have O3 : bits .or .i64 (m2 * 64) (q - 128) = u4 x y z q := (or_six _ _ (by omega) (by omega) (by omega) (by omega)).trans (by unfold u4; omega)
              have ub : 0 ≤ u4 x y z q ∧ u4 x y z q < 1310720 := by unfold u4; omega
              by_cases hv : 65536 ≤ u4 x y z q ∧ u4 x y z q ≤ 1114111
              · have wv : wd (u4 x y z q) = 4 := by unfold wd; rw [isC_yes (by omega) (by omega) (by omega), if_pos rfl, if_neg (by omega), if_neg (by omega), if_neg (by omega)]
                have eD : dec l = (u4 x y z q, 4) := by rw [E]; unfold D4; rw [if_neg (by omega), if_neg x1, if_neg n2, if_neg n3, if_pos (show ok4 l.length x y z q by unfold ok4 co; omega)]
                rw [eD]
                obtain ⟨u, hu⟩ : ∃ u, u4 x y z q = u := ⟨_, rfl⟩
                rw [hu] at O3 ub wv ⊢
                clear S E eD e1 ht c1 c2 c3 hu n2 n3 a192y a192z a192q a63y a63z a63q a31 a15 a7 hb T0 hv hm hm2
                go_enter Tryd.func9, Tryd.ntmps9
                go_wp2_with (go_at_call 21; refine (HS.out _).mono ?_; rintro e w' ⟨rfl, rfl⟩)
                refine wp_loop_rounds 4 ?_
                rw [rounds_succ]
                go_wp2
                rw [rounds_succ]
                go_wp2
                rw [rounds_succ]
                go_wp2
                rw [rounds_succ]
                go_wp2_with (go_at_call 22; refine (rwidth_c _ _).mono ?_; rintro e w' ⟨rfl, rfl⟩)
                go_ret3
                exact ⟨rfl, rfl⟩
              · have wv : ¬ wd (u4 x y z q) = 4 := by
                  unfold wd
                  by_cases hc : isC (u4 x y z q) = true
                  · rw [if_pos hc]
                    have := isC_iff hc
                    split
                    · omega
                    · split
                      · omega
                      · rw [if_pos (by omega)]; omega
                  · rw [if_neg hc]; omega
                have eD : dec l = (0, 0) := by rw [E]; unfold D4; rw [if_neg (by omega), if_neg x1, if_neg n2, if_neg n3, if_neg (fun h : ok4 l.length x y z q => by unfold ok4 at h; exact hv h.2.2.2.2.2.2)]
                rw [eD]
                obtain ⟨u, hu⟩ : ∃ u, u4 x y z q = u := ⟨_, rfl⟩
                rw [hu] at O3 ub wv
                have W1 := bne_no wv
                clear S E eD e1 ht c1 c2 c3 hu n2 n3 a192y a192z a192q a63y a63z a63q a31 a15 a7 hb T0 hv hm hm2 wv
                go_enter Tryd.func9, Tryd.ntmps9
                go_wp2_with (go_at_call 21; refine (HS.out _).mono ?_; rintro e w' ⟨rfl, rfl⟩)
                refine wp_loop_rounds 4 ?_
                rw [rounds_succ]
                go_wp2
                rw [rounds_succ]
                go_wp2
                rw [rounds_succ]
                go_wp2
                rw [rounds_succ]
                go_wp2_with (go_at_call 22; refine (rwidth_c _ _).mono ?_; rintro e w' ⟨rfl, rfl⟩)
                go_ret3
                exact ⟨rfl, rfl⟩
            · have A3 : (bits .and .u8 q 192 != 128) = true := bne_no (by rw [a192q]; unfold co at cq; omega)
              have eD : dec l = (0, 0) := by rw [E]; unfold D4; rw [if_neg (by omega), if_neg x1, if_neg n2, if_neg n3, if_neg (fun h : ok4 l.length x y z q => by unfold ok4 at h; exact cq h.2.2.2.2.2.1)]
              rw [eD]
              clear S E eD e1 ht c1 c2 c3 n2 n3 a192y a192z a192q a63y a63z a63q a31 a15 a7 hb T0 cq hm hm2
              go_enter Tryd.func9, Tryd.ntmps9
              go_wp2_with (go_at_call 21; refine (HS.out _).mono ?_; rintro e w' ⟨rfl, rfl⟩)
              refine wp_loop_rounds 3 ?_
              rw [rounds_succ]
              go_wp2
              rw [rounds_succ]
              go_wp2
              rw [rounds_succ]
              go_wp2_with (go_at_call 22; refine (rwidth_c _ _).mono ?_; rintro e w' ⟨rfl, rfl⟩)
              go_ret3
              exact ⟨rfl, rfl⟩
          · have A2 : (bits .and .u8 z 192 != 128) = true := bne_no (by rw [a192z]; unfold co at cz; omega)
            have eD : dec l = (0, 0) := by rw [E]; unfold D4; rw [if_neg (by omega), if_neg x1, if_neg n2, if_neg n3, if_neg (fun h : ok4 l.length x y z q => by unfold ok4 at h; exact cz h.2.2.2.2.1)]
            rw [eD]
            clear S E eD e1 ht c1 c2 c3 n2 n3 a192y a192z a192q a63y a63z a63q a31 a15 a7 hb T0 cz hm
            go_enter Tryd.func9, Tryd.ntmps9
            go_wp2_with (go_at_call 21; refine (HS.out _).mono ?_; rintro e w' ⟨rfl, rfl⟩)
            refine wp_loop_rounds 2 ?_
            rw [rounds_succ]
            go_wp2
            rw [rounds_succ]
            go_wp2_with (go_at_call 22; refine (rwidth_c _ _).mono ?_; rintro e w' ⟨rfl, rfl⟩)
            go_ret3
            exact ⟨rfl, rfl⟩
        · have A1 : (bits .and .u8 y 192 != 128) = true := bne_no (by rw [a192y]; unfold co at cy; omega)
          have eD : dec l = (0, 0) := by rw [E]; unfold D4; rw [if_neg (by omega), if_neg x1, if_neg n2, if_neg n3, if_neg (fun h : ok4 l.length x y z q => by unfold ok4 at h; exact cy h.2.2.2.1)]
          rw [eD]
          clear S E eD e1 ht c1 c2 c3 n2 n3 a192y a192z a192q a63y a63z a63q a31 a15 a7 hb T0 cy
          go_enter Tryd.func9, Tryd.ntmps9
          go_wp2_with (go_at_call 21; refine (HS.out _).mono ?_; rintro e w' ⟨rfl, rfl⟩)
          refine wp_loop_rounds 1 ?_
          rw [rounds_succ]
          go_wp2_with (go_at_call 22; refine (rwidth_c _ _).mono ?_; rintro e w' ⟨rfl, rfl⟩)
          go_ret3
          exact ⟨rfl, rfl⟩
theorem rdecode_c (v : Value) (l : List Int) (w : World) (hr : Rd w .u8 v l) (hb : Byt l) :
    Calls Tryd.prog 9 #[v] w fun e w' => e = .returned (.tuple #[.int .i64 (dec l).1, .int .i64 (dec l).2, .int .i64 (decT l)]) ∧ w = w' := by
  by_cases h : l = [] ∨ szT (l.getD 0 0) ≠ 0 ∨ (l.length : Int) < szN (l.getD 0 0)
  · have eD : dec l = (0, 0) := by
      have b0 := getD_byte l hb 0
      rcases D4_cases l.length (l.getD 0 0) (l.getD 1 0) (l.getD 2 0) (l.getD 3 0) with g | ⟨g1, g2, g⟩ | ⟨g1, g2, g⟩ | ⟨g1, g2, g⟩ | ⟨g1, g2, g⟩
      · exact g
      · exfalso
        rcases h with h | h | h
        · exact g1 (by rw [h]; rfl)
        · exact h (by unfold szT; rw [if_pos g2])
        · have : szN (l.getD 0 0) = 1 := by unfold szN; rw [if_pos g2]
          omega
      · exfalso
        unfold ok2 co u2 at g2
        rcases h with h | h | h
        · rw [h] at g2; simp at g2
        · exact h (by unfold szT; rw [if_neg g1, if_neg (by omega), if_pos (by omega)])
        · have : szN (l.getD 0 0) = 2 := by unfold szN; rw [if_neg g1, if_neg (by omega), if_pos (by omega)]
          omega
      · exfalso
        unfold ok3 co u3 at g2
        rcases h with h | h | h
        · rw [h] at g2; simp at g2
        · exact h (by unfold szT; rw [if_neg g1, if_neg (by omega), if_pos (by omega)])
        · have : szN (l.getD 0 0) = 3 := by unfold szN; rw [if_neg g1, if_neg (by omega), if_neg (by omega), if_pos (by omega)]
          omega
      · exfalso
        unfold ok4 co u4 at g2
        rcases h with h | h | h
        · rw [h] at g2; simp at g2
        · exact h (by unfold szT; rw [if_neg g1, if_neg (by omega), if_pos (by omega)])
        · have : szN (l.getD 0 0) = 4 := by unfold szN; rw [if_neg g1, if_neg (by omega), if_neg (by omega), if_neg (by omega), if_pos (by omega)]
          omega
    rw [eD, decT_fail eD]
    exact rdec_none v l w hr hb h
  · exact rdec_go v l w hr hb (fun g => h (.inl g)) (Decidable.byContradiction fun g => h (.inr (.inl g))) (by have := fun g => h (.inr (.inr g)); omega)
end Go.Proofs.YtpkfkipnagajkaaDoor
