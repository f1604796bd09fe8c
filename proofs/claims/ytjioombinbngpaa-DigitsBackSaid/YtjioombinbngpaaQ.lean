/- The contract of digits.Text. -/
import Derived.Test.YtjioombinbngpaaI
import Derived.Test.YtjioombinbngpaaO
import Derived.Test.YtjioombinbngpaaD
namespace Go.Proofs.Ytjioombinbngpaa
set_option linter.unusedVariables false
set_option linter.unusedSimpArgs false
open Go.RowKit Go.Shelf

def txtS (b N : Int) : List Int := if b < 2 ∨ 36 < b then [] else txt b N
/-- A block is a row of bytes, free to write. -/
def Arr (w : World) (B n : Nat) (g : Nat → Int) : Prop := ∀ i, i < n → w.cell? ⟨B, i, none⟩ = some (.int .u8 (g i)) ∧ w.frozen? ⟨B, i, none⟩ = false
theorem Arr.drewN {w : World} {B n : Nat} {g : Nat → Int} (h : Arr w B n g) (k : Nat) : Arr (w.drewN k) B n g := h
theorem Arr.set {w : World} {B n : Nat} {g : Nat → Int} (h : Arr w B n g) (m : Nat) (hm : m < n) (x : Int) : Arr (w.setCell ⟨B, m, none⟩ (.int .u8 x)) B n (fun i => if i = m then x else g i) := by
  intro i hi
  by_cases e : i = m
  · subst e
    refine ⟨?_, by rw [World.frozen?_setCell]; exact (h i hi).2⟩
    rw [World.cell?_setCell_same' w _ _ (by rw [(h i hi).1]; rfl)]
    simp only [if_true]
  · have hne : (⟨B, m, none⟩ : Addr) ≠ ⟨B, i, none⟩ := by intro h; injection h with _ h2; exact e h2.symm
    refine ⟨?_, by rw [World.frozen?_setCell]; exact (h i hi).2⟩
    rw [World.cell?_setCell_other w _ _ _ hne]
    simp only [if_neg e]
    exact (h i hi).1
theorem arr_new (w : World) (n : Nat) (T : TypeId) : Arr (w.alloc (.cells (Array.replicate n (.int .u8 0)) T)) w.heap.size n (fun _ => 0) := by
  intro i hi
  constructor
  · simp [go_sem, hi]
  · simp [go_sem]
theorem zeroArr (w : World) : (zeroValue 48).run Try.prog w = .ok (.agg (Array.replicate 128 (.int .u8 0))) w := by kernel_rfl
theorem div64a (h b : Int) (q r : Int) (w : World) (wh : Word h) (hb : 0 < b) (hb1 : Word b) (hq : h / b = q) (hr : h % b = r) :
    Calls Try.prog 27 #[.int .u64 0, .int .u64 h, .int .u64 b] w fun e w' => e = .returned (.tuple #[.int .u64 q, .int .u64 r]) ∧ ∃ n, w' = w.drewN n := by
  have := div64 0 h b w (Int.le_refl 0) hb wh hb1
  rw [Int.zero_mul, Int.zero_add, hq, hr] at this
  exact this
theorem div64b (x l b : Int) (q r : Int) (w : World) (h0 : 0 ≤ x) (h1 : x < b) (wl : Word l) (hb1 : Word b) (hq : (x * 18446744073709551616 + l) / b = q) (hr : (x * 18446744073709551616 + l) % b = r) :
    Calls Try.prog 27 #[.int .u64 x, .int .u64 l, .int .u64 b] w fun e w' => e = .returned (.tuple #[.int .u64 q, .int .u64 r]) ∧ ∃ n, w' = w.drewN n := by
  have := div64 x l b w h0 h1 wl hb1
  rw [hq, hr] at this
  exact this
/-- One digit more. -/
theorem step_rel {W : World} {B m : Nat} {b N q l r : Int} {g g' : Nat → Int} (hm : m < 128) (hb : 2 ≤ b) (h0 : 0 ≤ N) (h1 : N < M2) (harr : Arr W B 128 g') (hg : ∀ j, m < j → j < 128 → g j = dig (N / b ^ (127 - j) % b)) (hne : ∀ j, 0 < j → j ≤ 127 - m → ¬ N / b ^ j = 0)
    (hd : N / b ^ (127 - m + 1) = q * 18446744073709551616 + l) (hnz : ¬ (q * 18446744073709551616 + l = 0)) (hr : r = N / b ^ (127 - m) % b) (e1 : g' m = dig r) (e2 : ∀ i, i ≠ m → g' i = g i) :
    1 ≤ m ∧ N / b ^ (127 - (m - 1)) = q * 18446744073709551616 + l ∧ Arr W B 128 g' ∧ (∀ j, m - 1 < j → j < 128 → g' j = dig (N / b ^ (127 - j) % b)) ∧ (∀ j, 0 < j → j ≤ 127 - (m - 1) → ¬ N / b ^ j = 0) := by
  have m1 : 1 ≤ m := by
    rcases Nat.eq_zero_or_pos m with h | h
    · subst h
      have := div_small b N hb h0 h1
      rw [show 127 - 0 + 1 = 128 from rfl, this] at hd
      omega
    · exact h
  have e3 : 127 - (m - 1) = 127 - m + 1 := by omega
  refine ⟨m1, by rw [e3]; exact hd, harr, fun j hj hj' => ?_, fun j hj hj' => ?_⟩
  · by_cases e : j = m
    · subst e; rw [e1, hr]
    · rw [e2 j e]; exact hg j (by omega) hj'
  · by_cases e : j = 127 - m + 1
    · subst e; rw [hd]; exact hnz
    · exact hne j hj (by omega)
theorem end_rel {W : World} {B m : Nat} {b N r : Int} {g g' : Nat → Int} (hm : m < 128) (hb : 2 ≤ b) (harr : Arr W B 128 g') (hg : ∀ j, m < j → j < 128 → g j = dig (N / b ^ (127 - j) % b)) (hne : ∀ j, 0 < j → j ≤ 127 - m → ¬ N / b ^ j = 0)
    (hd : N / b ^ (127 - m + 1) = 0) (hr : r = N / b ^ (127 - m) % b) (e1 : g' m = dig r) (e2 : ∀ i, i ≠ m → g' i = g i) : Rd W .u8 (.slice (some ⟨B, m, none⟩) (128 - m) (128 - m)) (txt b N) := by
  rw [txt_is b N (by omega) (127 - m + 1) (by omega) (by omega) (fun j hj hj' => hne j hj (by omega)) hd]
  refine Rd.mk B m (by rw [List.length_reverse, digs_length]; omega) (Nat.le_refl _) (fun i hi => ?_)
  rw [List.length_reverse, digs_length] at hi
  rw [(harr (m + i) (by omega)).1, digs_rev_get b N _ i hi]
  by_cases e : i = 0
  · subst e; rw [Nat.add_zero, e1, hr]; rfl
  · rw [e2 (m + i) (by omega), hg (m + i) (by omega) (by omega)]
    have : 127 - (m + i) = 127 - m + 1 - 1 - i := by omega
    rw [this]
theorem slice_tail (w : World) (B m : Nat) (hm : m < 128) : (Instr.sliceAt 48 (.pointer (some ⟨B, 0, none⟩)) (some (.int .i64 (m : Int))) none none).run Try.prog w = .ok (.slice (some ⟨B, m, none⟩) (128 - m) (128 - m)) w := by
  have e1 : Try.prog.arrayLen 48 = 128 := by kernel_rfl
  have e2 : Try.prog.elem 48 = 5 := by kernel_rfl
  have e3 : Try.prog.underlying 48 = some (.array (Try.prog.arrayLen 48) (Try.prog.elem 48)) := by kernel_rfl
  have e4 : (sizeOf 5).run Try.prog w = .ok 1 w := by kernel_rfl
  rw [run_sliceAt_array_l w _ _ e3 .i64 m (by omega) (by rw [e1]; omega), e1, e2, e4]
  have e5 : ¬ (128 = m) := by omega
  simp [slicedAt, Addr.add, e5, Result.andThen]
  omega
set_option maxRecDepth 100000 in
set_option maxHeartbeats 2000000 in
theorem text_c (lo hi b : Int) (hl : Cell lo) (hh : Cell hi) (w : World) : Calls Try.prog 16 #[.int .i64 lo, .int .i64 hi, .int .i64 b] w fun e w' =>
    e = .returned (.string (strOfNums (txtS b (UD lo hi)))) ∧ Below w.heap.size w w' := by
  unfold txtS
  by_cases hb : b < 2 ∨ 36 < b
  · rw [if_pos hb]
    go_enter Try.func16, Try.ntmps16
    go_wp2
    all_goals (go_ret; exact ⟨rfl, Below.refl _ _⟩)
  · rw [if_neg hb]
    have b2 : 2 ≤ b := by omega
    have b36 : b ≤ 36 := by omega
    clear hb
    have uB := UD_bounds lo hi
    obtain ⟨N, hN⟩ : ∃ N, UD lo hi = N := ⟨_, rfl⟩
    have i1 : IntKind.u64.wrap lo = N % 18446744073709551616 := by rw [IntKind.wrap_u64, ← hN]; unfold UD; omega
    have i2 : IntKind.u64.wrap hi = N / 18446744073709551616 := by rw [IntKind.wrap_u64, ← hN]; unfold UD; omega
    rw [hN] at uB ⊢
    clear hN
    go_enter Try.func16, Try.ntmps16
    go_wp2_with (simp only [zeroArr])
    go_loopw [7, 8, 10, 11, 12] (fun v7 v8 v10 _ _ wr => ∃ (m : Nat) (l h : Int) (g : Nat → Int), m < 128 ∧ v7 = .int .u64 l ∧ v8 = .int .u64 h ∧ v10 = .int .i64 m ∧ Below w.heap.size w wr ∧ Word l ∧ Word h ∧
      Hid (N / b ^ (127 - m) = h * 18446744073709551616 + l ∧ Arr wr w.heap.size 128 g ∧ (∀ j, m < j → j < 128 → g j = dig (N / b ^ (127 - j) % b)) ∧ (∀ j, 0 < j → j ≤ 127 - m → ¬ N / b ^ j = 0)))
      (fun _ _ v10 _ _ _ => (intOf v10).toNat)
    case atStart => exact ⟨127, _, _, fun _ => 0, by omega, rfl, rfl, rfl, (Below.refl _ _).alloc (Nat.le_refl _) _, ⟨by omega, by omega⟩, ⟨by omega, by omega⟩, by simp; omega, arr_new _ _ _, fun j hj hj' => by omega, fun j hj hj' => by omega⟩
    case round =>
      obtain ⟨m, l, hw, g, hm, rfl, rfl, rfl, hbw, wl, wh, HR⟩ := hrel
      clear i1 i2
      obtain ⟨hNk, harr, hg, hne⟩ := HR.out
      have wb : Word b := ⟨by omega, by omega⟩
      obtain ⟨DW1, DW2, DW3, DW4⟩ := div_words hw l b b2 b36 wh.1 wh.2 wl.1 wl.2 _ hNk
      have x0 := Int.emod_nonneg hw (show b ≠ 0 by omega)
      have x1 := Int.emod_lt_of_pos hw (show 0 < b by omega)
      have q0 : 0 ≤ hw / b := Int.ediv_nonneg wh.1 (by omega)
      have q1 : hw / b ≤ hw := Int.ediv_le_self _ wh.1
      have r0 := Int.emod_nonneg (N / b ^ (127 - m)) (show b ≠ 0 by omega)
      have r1 := Int.emod_lt_of_pos (N / b ^ (127 - m)) (show 0 < b by omega)
      obtain ⟨q, hq⟩ : ∃ q, hw / b = q := ⟨_, rfl⟩
      obtain ⟨x, hx⟩ : ∃ q, hw % b = q := ⟨_, rfl⟩
      rw [hq] at q0 q1 DW1
      rw [hx] at x0 x1 DW1 DW2 DW3 DW4
      obtain ⟨l', hl'⟩ : ∃ q, (x * 18446744073709551616 + l) / b = q := ⟨_, rfl⟩
      obtain ⟨r, hr⟩ : ∃ q, (x * 18446744073709551616 + l) % b = q := ⟨_, rfl⟩
      rw [hl'] at DW1 DW3 DW4
      rw [hr] at DW2
      rw [← DW2] at r0 r1
      have hdv : N / b ^ (127 - m + 1) = q * 18446744073709551616 + l' := by rw [div_pow_succ b N (by omega), DW1]
      have HQ := Lib.hid hq
      have HX := Lib.hid hx
      have HL := Lib.hid hl'
      have HRR := Lib.hid hr
      have HD := Lib.hid hdv
      have H2 := Lib.hid DW2
      have hcm : ∀ n1, (wr.drewN n1).cell? ⟨w.heap.size, m, none⟩ = some (.int .u8 (g m)) := fun _ => (harr m hm).1
      have hfm : ∀ n1, (wr.drewN n1).frozen? ⟨w.heap.size, m, none⟩ = false := fun _ => (harr m hm).2
      have HS := Lib.hid (And.intro harr (And.intro hg hne))
      clear hNk harr hg hne HR DW1 DW2 hq hx hl' hr hdv
      by_cases r10 : r < 10
      · skip
        by_cases hl0 : l' = 0
        · by_cases hq0 : q = 0
          · have hRd : ∀ n, Rd ((wr.drewN n).setCell ⟨w.heap.size, m, none⟩ (.int .u8 (r + 48))) .u8 (.slice (some ⟨w.heap.size, m, none⟩) (128 - m) (128 - m)) (txt b N) := fun n =>
              end_rel hm b2 ((HS.out.1.drewN _).set m hm (r + 48)) HS.out.2.1 HS.out.2.2 (HD.out.trans (by rw [hl0, hq0]; rfl)) H2.out (by simp only [if_true]; unfold dig; rw [if_pos r10]; omega) (fun i hi => by simp only [if_neg hi])
            have z1 := beq_of hl0
            have z2 := beq_of hq0
            clear hl0 hq0
            go_wp2_with (first
              | (go_at_call 27; with_reducible refine (div64a hw b q x _ wh (by omega) wb HQ.out HX.out).mono ?_; rintro e w' ⟨rfl, n1, rfl⟩)
              | (go_at_call 27; with_reducible refine (div64b x l b l' r _ x0 x1 wl wb HL.out HRR.out).mono ?_; rintro e w' ⟨rfl, n2, rfl⟩)
              | rw [slice_tail _ _ _ hm]
              | rw [(hRd _).to_string Try.underlying22 Try.underlying5 Try.underlying9])
            go_ret
            exact ⟨rfl, ((below_drewN hbw _).setCell (Nat.le_refl _) _)⟩
          · have z1 := beq_of hl0
            have z2 := beq_no hq0
            have hl1 := Lib.hid hl0
            clear hl0
            go_wp2_with (first
              | (go_at_call 27; with_reducible refine (div64a hw b q x _ wh (by omega) wb HQ.out HX.out).mono ?_; rintro e w' ⟨rfl, n1, rfl⟩)
              | (go_at_call 27; with_reducible refine (div64b x l b l' r _ x0 x1 wl wb HL.out HRR.out).mono ?_; rintro e w' ⟨rfl, n2, rfl⟩)
              | rw [slice_tail _ _ _ hm]
              | rw [(hRd _).to_string Try.underlying22 Try.underlying5 Try.underlying9])
            go_roundw
            case rel =>
              obtain ⟨s1, s2, s3, s4, s5⟩ := step_rel hm b2 uB.1 uB.2 ((HS.out.1.drewN _).set m hm (r + 48)) HS.out.2.1 HS.out.2.2 HD.out (by have := hl1.out; omega) H2.out (by simp only [if_true]; unfold dig; rw [if_pos r10]; omega) (fun i hi => by simp only [if_neg hi])
              exact ⟨m - 1, _, _, _, by omega, rfl, rfl, val_int (by omega), ((below_drewN hbw _).setCell (Nat.le_refl _) _), ⟨DW3, DW4⟩, ⟨q0, by have := wh.2; omega⟩, s2, s3, s4, s5⟩
            case measure =>
              have m1 := (step_rel hm b2 uB.1 uB.2 ((HS.out.1.drewN 0).set m hm (r + 48)) HS.out.2.1 HS.out.2.2 HD.out (by have := hl1.out; omega) H2.out (by simp only [if_true]; unfold dig; rw [if_pos r10]; omega) (fun i hi => by simp only [if_neg hi])).1
              simp [intOf]; omega
        · have z1 := beq_no hl0
          go_wp2_with (first
            | (go_at_call 27; with_reducible refine (div64a hw b q x _ wh (by omega) wb HQ.out HX.out).mono ?_; rintro e w' ⟨rfl, n1, rfl⟩)
            | (go_at_call 27; with_reducible refine (div64b x l b l' r _ x0 x1 wl wb HL.out HRR.out).mono ?_; rintro e w' ⟨rfl, n2, rfl⟩)
            | rw [slice_tail _ _ _ hm]
            | rw [(hRd _).to_string Try.underlying22 Try.underlying5 Try.underlying9])
          go_roundw
          case rel =>
            obtain ⟨s1, s2, s3, s4, s5⟩ := step_rel hm b2 uB.1 uB.2 ((HS.out.1.drewN _).set m hm (r + 48)) HS.out.2.1 HS.out.2.2 HD.out (by omega) H2.out (by simp only [if_true]; unfold dig; rw [if_pos r10]; omega) (fun i hi => by simp only [if_neg hi])
            exact ⟨m - 1, _, _, _, by omega, rfl, rfl, val_int (by omega), ((below_drewN hbw _).setCell (Nat.le_refl _) _), ⟨DW3, DW4⟩, ⟨q0, by have := wh.2; omega⟩, s2, s3, s4, s5⟩
          case measure =>
            have m1 := (step_rel hm b2 uB.1 uB.2 ((HS.out.1.drewN 0).set m hm (r + 48)) HS.out.2.1 HS.out.2.2 HD.out (by omega) H2.out (by simp only [if_true]; unfold dig; rw [if_pos r10]; omega) (fun i hi => by simp only [if_neg hi])).1
            simp [intOf]; omega
      · skip
        by_cases hl0 : l' = 0
        · by_cases hq0 : q = 0
          · have hRd : ∀ n, Rd (((wr.drewN n).setCell ⟨w.heap.size, m, none⟩ (.int .u8 (r + 48))).setCell ⟨w.heap.size, m, none⟩ (.int .u8 (r - 10 + 65))) .u8 (.slice (some ⟨w.heap.size, m, none⟩) (128 - m) (128 - m)) (txt b N) := fun n =>
              end_rel hm b2 (((HS.out.1.drewN _).set m hm (r + 48)).set m hm (r - 10 + 65)) HS.out.2.1 HS.out.2.2 (HD.out.trans (by rw [hl0, hq0]; rfl)) H2.out (by simp only [if_true]; unfold dig; rw [if_neg (show ¬ r < 10 by omega)]; omega) (fun i hi => by simp only [if_neg hi])
            have z1 := beq_of hl0
            have z2 := beq_of hq0
            clear hl0 hq0
            go_wp2_with (first
              | (go_at_call 27; with_reducible refine (div64a hw b q x _ wh (by omega) wb HQ.out HX.out).mono ?_; rintro e w' ⟨rfl, n1, rfl⟩)
              | (go_at_call 27; with_reducible refine (div64b x l b l' r _ x0 x1 wl wb HL.out HRR.out).mono ?_; rintro e w' ⟨rfl, n2, rfl⟩)
              | rw [slice_tail _ _ _ hm]
              | rw [(hRd _).to_string Try.underlying22 Try.underlying5 Try.underlying9])
            go_ret
            exact ⟨rfl, (((below_drewN hbw _).setCell (Nat.le_refl _) _).setCell (Nat.le_refl _) _)⟩
          · have z1 := beq_of hl0
            have z2 := beq_no hq0
            have hl1 := Lib.hid hl0
            clear hl0
            go_wp2_with (first
              | (go_at_call 27; with_reducible refine (div64a hw b q x _ wh (by omega) wb HQ.out HX.out).mono ?_; rintro e w' ⟨rfl, n1, rfl⟩)
              | (go_at_call 27; with_reducible refine (div64b x l b l' r _ x0 x1 wl wb HL.out HRR.out).mono ?_; rintro e w' ⟨rfl, n2, rfl⟩)
              | rw [slice_tail _ _ _ hm]
              | rw [(hRd _).to_string Try.underlying22 Try.underlying5 Try.underlying9])
            go_roundw
            case rel =>
              obtain ⟨s1, s2, s3, s4, s5⟩ := step_rel hm b2 uB.1 uB.2 (((HS.out.1.drewN _).set m hm (r + 48)).set m hm (r - 10 + 65)) HS.out.2.1 HS.out.2.2 HD.out (by have := hl1.out; omega) H2.out (by simp only [if_true]; unfold dig; rw [if_neg (show ¬ r < 10 by omega)]; omega) (fun i hi => by simp only [if_neg hi])
              exact ⟨m - 1, _, _, _, by omega, rfl, rfl, val_int (by omega), (((below_drewN hbw _).setCell (Nat.le_refl _) _).setCell (Nat.le_refl _) _), ⟨DW3, DW4⟩, ⟨q0, by have := wh.2; omega⟩, s2, s3, s4, s5⟩
            case measure =>
              have m1 := (step_rel hm b2 uB.1 uB.2 (((HS.out.1.drewN 0).set m hm (r + 48)).set m hm (r - 10 + 65)) HS.out.2.1 HS.out.2.2 HD.out (by have := hl1.out; omega) H2.out (by simp only [if_true]; unfold dig; rw [if_neg (show ¬ r < 10 by omega)]; omega) (fun i hi => by simp only [if_neg hi])).1
              simp [intOf]; omega
        · have z1 := beq_no hl0
          go_wp2_with (first
            | (go_at_call 27; with_reducible refine (div64a hw b q x _ wh (by omega) wb HQ.out HX.out).mono ?_; rintro e w' ⟨rfl, n1, rfl⟩)
            | (go_at_call 27; with_reducible refine (div64b x l b l' r _ x0 x1 wl wb HL.out HRR.out).mono ?_; rintro e w' ⟨rfl, n2, rfl⟩)
            | rw [slice_tail _ _ _ hm]
            | rw [(hRd _).to_string Try.underlying22 Try.underlying5 Try.underlying9])
          go_roundw
          case rel =>
            obtain ⟨s1, s2, s3, s4, s5⟩ := step_rel hm b2 uB.1 uB.2 (((HS.out.1.drewN _).set m hm (r + 48)).set m hm (r - 10 + 65)) HS.out.2.1 HS.out.2.2 HD.out (by omega) H2.out (by simp only [if_true]; unfold dig; rw [if_neg (show ¬ r < 10 by omega)]; omega) (fun i hi => by simp only [if_neg hi])
            exact ⟨m - 1, _, _, _, by omega, rfl, rfl, val_int (by omega), (((below_drewN hbw _).setCell (Nat.le_refl _) _).setCell (Nat.le_refl _) _), ⟨DW3, DW4⟩, ⟨q0, by have := wh.2; omega⟩, s2, s3, s4, s5⟩
          case measure =>
            have m1 := (step_rel hm b2 uB.1 uB.2 (((HS.out.1.drewN 0).set m hm (r + 48)).set m hm (r - 10 + 65)) HS.out.2.1 HS.out.2.2 HD.out (by omega) H2.out (by simp only [if_true]; unfold dig; rw [if_neg (show ¬ r < 10 by omega)]; omega) (fun i hi => by simp only [if_neg hi])).1
            simp [intOf]; omega
end Go.Proofs.Ytjioombinbngpaa
