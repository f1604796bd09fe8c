/- The reference's FromDouble and Widen. -/
import Derived.Test.YtecgkhijiogggaaY9
namespace Go.Proofs.Ytecgkhijiogggaa
set_option linter.unusedVariables false
set_option linter.unusedSimpArgs false
open Go.RowKit Go.Shelf SF

def Cell64 (a : Int) : Prop := -9223372036854775808 ≤ a ∧ a ≤ 9223372036854775807
theorem xor_not64 (x : Int) (h : Cell64 x) : bits .xor .i64 (-1) x = -x - 1 := by
  obtain ⟨h0, h1⟩ := h
  have e : (BitVec.ofInt 64 (-1) ^^^ BitVec.ofInt 64 x) = ~~~ (BitVec.ofInt 64 x) := by
    rw [← BitVec.allOnes_xor]; rfl
  show IntKind.i64.wrap ((BitVec.ofInt 64 (-1) ^^^ BitVec.ofInt 64 x).toNat : Int) = _
  rw [e, BitVec.toNat_not, BitVec.toNat_ofInt, IntKind.wrap_i64]
  omega
theorem wr_eq (x : Int) : wr x = wrap64 x := by unfold wr wrap64; omega
theorem rneg2_c (lo hi : Int) (hl : Cell64 lo) (h : Cell64 hi) (w : World) : Calls Try.prog 112 #[.int .i64 lo, .int .i64 hi] w fun e w' =>
    e = .returned (.tuple #[.int .i64 (wr (-(dI lo hi))), .int .i64 (wr (-(dI lo hi) / 18446744073709551616))]) ∧ w = w' := by
  have hx := Lib.hid (xor_not64 hi h)
  have b0 := h.1
  have b1 := h.2
  have b2 := hl.1
  have b3 := hl.2
  unfold wr dI
  by_cases c : lo = 0
  · subst c
    go_enter Try.func112, Try.ntmps112
    go_wp2
    go_ret2
    exact ⟨ret2 (by (try unfold wrap64); omega) (by (try unfold wrap64); omega), rfl⟩
  · have c' : (lo == 0) = false := by simpa using c
    go_enter Try.func112, Try.ntmps112
    go_wp2
    go_ret2
    exact ⟨ret2 (by (try unfold wrap64); omega) (by rw [hx.out]; (try unfold wrap64); omega), rfl⟩
theorem rNeg2_c (lo hi : Int) (hl : Cell64 lo) (h : Cell64 hi) (w : World) : Calls Try.prog 88 #[.int .i64 lo, .int .i64 hi] w fun e w' =>
    e = .returned (.tuple #[.int .i64 (wr (-(dI lo hi))), .int .i64 (wr (-(dI lo hi) / 18446744073709551616))]) ∧ w = w' := by
  have HN := Lib.hid (fun w => rneg2_c lo hi hl h w)
  obtain ⟨l, hl⟩ : ∃ l, wr (-(dI lo hi)) = l := ⟨_, rfl⟩
  obtain ⟨k, hk⟩ : ∃ l, wr (-(dI lo hi) / 18446744073709551616) = l := ⟨_, rfl⟩
  rw [hl, hk] at HN ⊢
  clear hl hk
  go_enter Try.func88, Try.ntmps88
  go_wp2_with (go_at_call 112; (with_reducible refine (HN.out _).mono ?_); rintro e1 w1 ⟨rfl, rfl⟩)
  go_ret2
  exact ⟨rfl, rfl⟩
theorem rd_four (w : World) (x y z u : Int) (t : TypeId) : Rd (w.alloc (.cells #[.int .u32 x, .int .u32 y, .int .u32 z, .int .u32 u] t)) .u32 (.slice (some ⟨w.heap.size, 0, none⟩) 4 4) [x, y, z, u] :=
  Rd.mk _ 0 rfl (by decide) (fun i hi => by
    match i, hi with
    | 0, _ => simp [go_sem]
    | 1, _ => simp [go_sem]
    | 2, _ => simp [go_sem]
    | 3, _ => simp [go_sem])
/-- The words of two cells. -/
theorem four_words (lo hi : Int) : Words [lo % 4294967296, lo % 18446744073709551616 / 4294967296 % 4294967296, hi % 4294967296, hi % 18446744073709551616 / 4294967296 % 4294967296] ∧
    ((wv [lo % 4294967296, lo % 18446744073709551616 / 4294967296 % 4294967296, hi % 4294967296, hi % 18446744073709551616 / 4294967296 % 4294967296] : Nat) : Int) = lo % 18446744073709551616 + 18446744073709551616 * (hi % 18446744073709551616) := by
  refine ⟨words_cons.2 ⟨by omega, words_cons.2 ⟨by omega, words_cons.2 ⟨by omega, words_cons.2 ⟨by omega, words_nil⟩⟩⟩⟩, ?_⟩
  simp only [wv]; omega
theorem rmake4 (g : Bool) (x y z u : Int) (M : Nat) (hx : 0 ≤ x ∧ x < 4294967296) (hy : 0 ≤ y ∧ y < 4294967296) (hz : 0 ≤ z ∧ z < 4294967296) (hu : 0 ≤ u ∧ u < 4294967296) (hM : x + 4294967296 * (y + 4294967296 * (z + 4294967296 * u)) = M) (w : World) (t : TypeId) :
    Calls Try.prog 58 #[.bool g, .slice (some ⟨w.heap.size, 0, none⟩) 4 4, .int .i64 0] (w.alloc (.cells #[.int .u32 x, .int .u32 y, .int .u32 z, .int .u32 u] t)) fun x w' =>
      x = .returned (.int .u64 ((makeV g M 0 : Nat) : Int)) ∧ Below w.heap.size w w' := by
  have hw : Words [x, y, z, u] := words_cons.2 ⟨hx, words_cons.2 ⟨hy, words_cons.2 ⟨hz, words_cons.2 ⟨hu, words_nil⟩⟩⟩⟩
  have hb := len_bound hw
  have e : wv [x, y, z, u] = M := by simp only [wv]; omega
  have h := rmakeG_c g _ 4 4 _ 0 _ (rd_four w x y z u t) hw (by decide) (by decide)
  rw [e] at h hb
  have hb' : bl M ≤ 128 := hb
  rw [makeR_ok g 0 (by omega)] at h
  exact h.mono fun x w' ⟨h1, h2⟩ => ⟨h1, btn ((Below.refl _ _).alloc (Nat.le_refl _) _) h2⟩
abbrev PMk4 (g : Bool) (x y z u R : Int) : Prop := ∀ (w : World) (t : TypeId), Calls Try.prog 58 #[.bool g, .slice (some ⟨w.heap.size, 0, none⟩) 4 4, .int .i64 0] (w.alloc (.cells #[.int .u32 x, .int .u32 y, .int .u32 z, .int .u32 u] t)) fun e w' => e = .returned (.int .u64 R) ∧ Below w.heap.size w w'
set_option maxRecDepth 100000 in
set_option maxHeartbeats 2000000 in
theorem rFrom_pos (lo hi x y z u : Int) (hl : Cell64 lo) (hh : Cell64 hi) (hn : ¬ hi < 0) (R : Int) (e1 : lo % 4294967296 = x) (e2 : IntKind.u64.wrap lo / 4294967296 % 4294967296 = y) (e3 : hi % 4294967296 = z) (e4 : hi / 4294967296 = u) (HM : Hid (PMk4 false x y z u R)) (w : World) :
    Calls Try.prog 30 #[.int .i64 lo, .int .i64 hi] w fun e w' => e = .returned (.int .u64 R) ∧ Below w.heap.size w w' := by
  have b0 := hl.1
  have b1 := hl.2
  have b2 := hh.1
  have b3 := hh.2
  clear hl hh
  go_enter Try.func30, Try.ntmps30
  go_wp2_with (go_at_call 58; (with_reducible refine (HM.out _ _).mono ?_); rintro e1 w1 ⟨rfl, hb1⟩)
  go_ret
  exact ⟨rfl, hb1⟩
set_option maxRecDepth 100000 in
set_option maxHeartbeats 2000000 in
theorem rFrom_neg (lo hi l h x y z u : Int) (hl : Cell64 l) (hh : Cell64 h) (hn : hi < 0) (R : Int) (HN : Hid (∀ w, Calls Try.prog 88 #[.int .i64 lo, .int .i64 hi] w fun e w' => e = .returned (.tuple #[.int .i64 l, .int .i64 h]) ∧ w = w'))
    (h0 : l ≠ 0 ∨ h ≠ 0) (e1 : l % 4294967296 = x) (e2 : IntKind.u64.wrap l / 4294967296 % 4294967296 = y) (e3 : h % 4294967296 = z) (e4 : IntKind.u64.wrap h / 4294967296 % 4294967296 = u) (HM : Hid (PMk4 true x y z u R)) (w : World) :
    Calls Try.prog 30 #[.int .i64 lo, .int .i64 hi] w fun e w' => e = .returned (.int .u64 R) ∧ Below w.heap.size w w' := by
  have b0 := hl.1
  have b1 := hl.2
  have b2 := hh.1
  have b3 := hh.2
  clear hl hh
  by_cases l0 : l = 0
  · have h1 : ¬ h = 0 := by rcases h0 with g | g; exact absurd l0 g; exact g
    have z0 := bne_of l0
    have z1 := bne_no h1
    clear h0 l0 h1
    go_enter Try.func30, Try.ntmps30
    go_wp2_with (first
      | (go_at_call 88; (with_reducible refine (HN.out _).mono ?_); rintro e1 w1 ⟨rfl, rfl⟩)
      | (go_at_call 58; (with_reducible refine (HM.out _ _).mono ?_); rintro e1 w1 ⟨rfl, hb1⟩))
    go_ret
    exact ⟨rfl, hb1⟩
  · have z0 := bne_no l0
    clear h0 l0
    go_enter Try.func30, Try.ntmps30
    go_wp2_with (first
      | (go_at_call 88; (with_reducible refine (HN.out _).mono ?_); rintro e1 w1 ⟨rfl, rfl⟩)
      | (go_at_call 58; (with_reducible refine (HM.out _ _).mono ?_); rintro e1 w1 ⟨rfl, hb1⟩))
    go_ret
    exact ⟨rfl, hb1⟩
theorem packI_nat' (n : Nat) (e : Int) : packI (n : Int) e = sg false (pat n e false) := by
  by_cases h : n = 0
  · subst h; unfold packI; rw [if_pos (by rfl), pat_zero, sg_false]
  · exact packI_pos e h
theorem rFrom_c (lo hi : Int) (hl : Cell64 lo) (hh : Cell64 hi) (w : World) : Calls Try.prog 30 #[.int .i64 lo, .int .i64 hi] w fun e w' => e = .returned (.int .u64 ((fromV lo hi : Nat) : Int)) ∧ Below w.heap.size w w' := by
  have b0 := hl.1
  have b1 := hl.2
  have b2 := hh.1
  have b3 := hh.2
  unfold fromV
  by_cases hn : hi < 0
  · obtain ⟨M, hM⟩ : ∃ M : Nat, dI lo hi = -(M : Int) := ⟨(-(dI lo hi)).toNat, by unfold dI; omega⟩
    have M0 : M ≠ 0 := by unfold dI at hM; omega
    rw [hM, packI_neg 0 M0]
    have HN := fun w => rNeg2_c lo hi hl hh w
    rw [hM, Int.neg_neg] at HN
    have cl : Cell64 (wr (M : Int)) := by unfold Cell64 wr; omega
    have ch : Cell64 (wr ((M : Int) / 18446744073709551616)) := by unfold Cell64 wr; omega
    have hMb : M < 340282366920938463463374607431768211456 := by unfold dI at hM; omega
    have hS : wr (M : Int) % 18446744073709551616 + 18446744073709551616 * (wr ((M : Int) / 18446744073709551616) % 18446744073709551616) = (M : Int) := by unfold wr; omega
    obtain ⟨l, hll⟩ : ∃ l, wr (M : Int) = l := ⟨_, rfl⟩
    obtain ⟨h, hhh⟩ : ∃ l, wr ((M : Int) / 18446744073709551616) = l := ⟨_, rfl⟩
    rw [hll] at HN hS cl
    rw [hhh] at HN hS ch
    refine rFrom_neg lo hi l h _ _ _ _ cl ch hn _ (Lib.hid HN) (by omega) rfl rfl rfl rfl (Lib.hid (fun w t => rmake4 true _ _ _ _ M (by omega) (by omega) (by omega) (by omega) ?_ w t)) w
    simp only [IntKind.wrap_u64]; omega
  · obtain ⟨M, hM⟩ : ∃ M : Nat, dI lo hi = (M : Int) := ⟨(dI lo hi).toNat, by unfold dI; omega⟩
    rw [hM, packI_nat']
    refine rFrom_pos lo hi _ _ _ _ hl hh hn _ rfl rfl rfl rfl (Lib.hid (fun w t => rmake4 false _ _ _ _ M (by omega) (by omega) (by omega) (by omega) ?_ w t)) w
    simp only [IntKind.wrap_u64]; unfold dI at hM; omega
end Go.Proofs.Ytecgkhijiogggaa
