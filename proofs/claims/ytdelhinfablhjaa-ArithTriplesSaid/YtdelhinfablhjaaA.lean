/- Contracts of bobbin/arith's and bobbinref1's small functions: each returns what plain arithmetic says. -/
import Derived.Test.YtdelhinfablhjaaP
import Derived.Test.YtdelhinfablhjaaShelf
import Derived.WalkSpells
import Derived.Lib.Hide
namespace Go.Proofs.Ytdelhinfablhjaa
open Go.RowKit Go.Shelf

theorem ret1 {k : IntKind} {a b : Int} (h : a = b) : Ending.returned (.int k a) = .returned (.int k b) := by rw [h]
theorem retb {a b : Bool} (h : a = b) : Ending.returned (.bool a) = .returned (.bool b) := by rw [h]
theorem ret2 {k l : IntKind} {a b c d : Int} (h : a = b) (g : c = d) : Ending.returned (.tuple #[.int k a, .int l c]) = .returned (.tuple #[.int k b, .int l d]) := by rw [h, g]
theorem ret3 {k l m : IntKind} {a b c d e f : Int} (h : a = b) (g : c = d) (i : e = f) : Ending.returned (.tuple #[.int k a, .int l c, .int m e]) = .returned (.tuple #[.int k b, .int l d, .int m f]) := by rw [h, g, i]
theorem ret2b {k l : IntKind} {a b c d : Int} {x y : Bool} (h : a = b) (g : c = d) (i : x = y) : Ending.returned (.tuple #[.int k a, .int l c, .bool x]) = .returned (.tuple #[.int k b, .int l d, .bool y]) := by rw [h, g, i]
theorem ret1b {k : IntKind} {a b : Int} {x y : Bool} (h : a = b) (i : x = y) : Ending.returned (.tuple #[.int k a, .bool x]) = .returned (.tuple #[.int k b, .bool y]) := by rw [h, i]

theorem word_wrap (a : Int) : Word (IntKind.u64.wrap a) := by rw [IntKind.wrap_u64]; exact ⟨by omega, by omega⟩

/-! ### math/bits -/
theorem mul64 (x y : Int) (hx : Word x) (hy : Word y) (w : World) : Calls Try.prog 45 #[.int .u64 x, .int .u64 y] w fun e w' =>
    e = .returned (.tuple #[.int .u64 (x * y / 18446744073709551616), .int .u64 (x * y % 18446744073709551616)]) ∧ w = w' := by
  obtain ⟨x0, x1⟩ := hx
  obtain ⟨y0, y1⟩ := hy
  obtain ⟨x, rfl⟩ := Int.eq_ofNat_of_zero_le x0
  obtain ⟨y, rfl⟩ := Int.eq_ofNat_of_zero_le y0
  refine (Try.bits_Mul64 x y (by omega) (by omega) w).mono ?_
  rintro e w' ⟨rfl, rfl⟩
  exact ⟨ret2 (by rw [Int.natCast_ediv, Int.natCast_mul]; rfl) (by rw [Int.natCast_emod, Int.natCast_mul]; rfl), rfl⟩
def bor (x y : Int) : Int := if x < y then 1 else 0
theorem bor_01 (x y : Int) : 0 ≤ bor x y ∧ bor x y ≤ 1 := by unfold bor; split <;> omega
theorem add64 (x y c : Int) (hx : 0 ≤ x) (hy : 0 ≤ y) (hc0 : 0 ≤ c) (hc : c ≤ 1) (w : World) : (callFunc 43 #[.int .u64 x, .int .u64 y, .int .u64 c]).run Try.prog w =
    .ok (.value (.tuple #[.int .u64 ((x + y + c) % 18446744073709551616), .int .u64 ((x + y + c) / 18446744073709551616)])) w := by
  obtain ⟨x, rfl⟩ := Int.eq_ofNat_of_zero_le hx
  obtain ⟨y, rfl⟩ := Int.eq_ofNat_of_zero_le hy
  obtain ⟨c, rfl⟩ := Int.eq_ofNat_of_zero_le hc0
  refine (Any7.bits_Add64 Try.lays25 x y c (by omega) w).trans ?_
  congr 5 <;> omega
theorem sub64 (x y b : Int) (hx : 0 ≤ x) (hy : 0 ≤ y) (hy' : y < 18446744073709551616) (hb0 : 0 ≤ b) (hb : b ≤ 1) (w : World) : (callFunc 44 #[.int .u64 x, .int .u64 y, .int .u64 b]).run Try.prog w =
    .ok (.value (.tuple #[.int .u64 ((x - y - b) % 18446744073709551616), .int .u64 (bor x (y + b))])) w := by
  unfold bor
  obtain ⟨x, rfl⟩ := Int.eq_ofNat_of_zero_le hx
  obtain ⟨y, rfl⟩ := Int.eq_ofNat_of_zero_le hy
  obtain ⟨b, rfl⟩ := Int.eq_ofNat_of_zero_le hb0
  have e1 : (((x + 18446744073709551616 - y - b) % 18446744073709551616 : Nat) : Int) = ((x : Int) - y - b) % 18446744073709551616 := by omega
  have e2 : ((if x < y + b then 1 else 0 : Nat) : Int) = if (x : Int) < y + b then 1 else 0 := by split <;> split <;> omega
  rw [← e1, ← e2]
  exact Any7.bits_Sub64 Try.lays26 x y b (by omega) w
theorem add64_0 (x y : Int) (hx : 0 ≤ x) (hy : 0 ≤ y) (w : World) : (callFunc 43 #[.int .u64 x, .int .u64 y, .int .u64 0]).run Try.prog w =
    .ok (.value (.tuple #[.int .u64 ((x + y) % 18446744073709551616), .int .u64 ((x + y) / 18446744073709551616)])) w := by
  simpa using add64 x y 0 hx hy (Int.le_refl 0) (by decide) w
theorem sub64_0 (x y : Int) (hx : 0 ≤ x) (hy : 0 ≤ y) (hy' : y < 18446744073709551616) (w : World) : (callFunc 44 #[.int .u64 x, .int .u64 y, .int .u64 0]).run Try.prog w =
    .ok (.value (.tuple #[.int .u64 ((x - y) % 18446744073709551616), .int .u64 (bor x y)])) w := by
  simpa using sub64 x y 0 hx hy hy' (Int.le_refl 0) (by decide) w

/-! ### bobbin/arith -/
theorem negated_c (l h : Int) (hl : Word l) (hh : Word h) (w : World) : Calls Try.prog 53 #[.int .u64 l, .int .u64 h] w fun e w' =>
    e = .returned (.tuple #[.int .u64 (-(h * 18446744073709551616 + l) % 18446744073709551616), .int .u64 (-(h * 18446744073709551616 + l) / 18446744073709551616 % 18446744073709551616)]) ∧ w = w' := by
  obtain ⟨l0, l1⟩ := hl
  obtain ⟨h0, h1⟩ := hh
  have k := bor_01 0 l
  go_enter Try.func53, Try.ntmps53
  go_wp2_with (first | simp only [sub64_0 0 l (Int.le_refl 0) l0 l1] | simp only [sub64 0 h _ (Int.le_refl 0) h0 h1 k.1 k.2])
  go_ret2
  refine ⟨ret2 (by omega) ?_, rfl⟩
  unfold bor
  split <;> omega

theorem abs_c (a : Int) (ha : Cell a) (w : World) : Calls Try.prog 46 #[.int .i64 a] w fun e w' => e = .returned (.int .u64 (aC a)) ∧ w = w' := by
  obtain ⟨a0, a1⟩ := ha
  unfold aC
  by_cases c : a < 0
  · rw [if_pos c]
    go_enter Try.func46, Try.ntmps46
    go_wp2
    go_ret
    exact ⟨ret1 (by simp only [IntKind.wrap_u64] <;> omega), rfl⟩
  · rw [if_neg c]
    go_enter Try.func46, Try.ntmps46
    go_wp2
    go_ret
    exact ⟨ret1 (by first | rfl | (simp only [IntKind.wrap_u64] <;> omega)), rfl⟩

theorem size_c (lo hi : Int) (hh : Cell hi) (w : World) : Calls Try.prog 48 #[.int .i64 lo, .int .i64 hi] w fun e w' =>
    e = .returned (.tuple #[.int .u64 (aD lo hi % 18446744073709551616), .int .u64 (aD lo hi / 18446744073709551616), .bool (decide (hi < 0))]) ∧ w = w' := by
  obtain ⟨a0, a1⟩ := hh
  unfold aD D
  by_cases c : hi < 0
  · rw [if_pos c]
    go_enter Try.func48, Try.ntmps48
    go_wp2_with (go_at_call 53; refine (negated_c _ _ (word_wrap _) (word_wrap _) _).mono ?_; rintro e w' ⟨rfl, rfl⟩)
    go_ret3
    exact ⟨ret2b (by simp only [IntKind.wrap_u64] <;> omega) (by simp only [IntKind.wrap_u64] <;> omega) (by simp [c]), rfl⟩
  · rw [if_neg c]
    go_enter Try.func48, Try.ntmps48
    go_wp2
    go_ret3
    exact ⟨ret2b (by simp only [IntKind.wrap_u64] <;> omega) (by first | omega | (simp only [IntKind.wrap_u64] <;> omega)) (by simp [c]), rfl⟩

theorem signed_c (l h : Int) (b : Bool) (hl : Word l) (hh : Word h) (w : World) : Calls Try.prog 47 #[.int .u64 l, .int .u64 h, .bool b] w fun e w' =>
    e = .returned (.tuple #[.int .i64 (dlo (sg b (h * 18446744073709551616 + l))), .int .i64 (dhi (sg b (h * 18446744073709551616 + l)))]) ∧ w = w' := by
  unfold sg dlo dhi
  have hl' := hl
  have hh' := hh
  obtain ⟨l0, l1⟩ := hl'
  obtain ⟨h0, h1⟩ := hh'
  cases b
  · go_enter Try.func47, Try.ntmps47
    go_wp2
    go_ret2
    exact ⟨ret2 (by unfold wrap64; simp <;> omega) (by unfold wrap64; simp <;> omega), rfl⟩
  · go_enter Try.func47, Try.ntmps47
    go_wp2_with (go_at_call 53; refine (negated_c _ _ hl hh _).mono ?_; rintro e w' ⟨rfl, rfl⟩)
    go_ret2
    exact ⟨ret2 (by unfold wrap64; simp <;> omega) (by unfold wrap64; simp <;> omega), rfl⟩

theorem umul_c (a b : Int) (w : World) : Calls Try.prog 28 #[.int .i64 a, .int .i64 b] w fun e w' =>
    e = .returned (.tuple #[.int .i64 (dlo (U a * U b)), .int .i64 (dhi (U a * U b))]) ∧ w = w' := by
  unfold dlo dhi U
  go_enter Try.func28, Try.ntmps28
  go_wp2_with (go_at_call 45; refine (mul64 _ _ (word_wrap _) (word_wrap _) _).mono ?_; rintro e w' ⟨rfl, rfl⟩)
  go_ret2
  exact ⟨ret2 (by simp only [IntKind.wrap_u64]; unfold wrap64; omega) (by simp only [IntKind.wrap_u64]), rfl⟩

theorem mul_c (a b : Int) (ha : Cell a) (hb : Cell b) (w : World) : Calls Try.prog 30 #[.int .i64 a, .int .i64 b] w fun e w' =>
    e = .returned (.tuple #[.int .i64 (dlo (a * b)), .int .i64 (dhi (a * b))]) ∧ w = w' := by
  have wa := aC_word ha
  have wb := aC_word hb
  have H := Lib.hid (mul_sg a b)
  have p1 := hi_word wa wb
  go_enter Try.func30, Try.ntmps30
  go_wp2_with (first
    | (go_at_call 46; refine (abs_c _ (by assumption) _).mono ?_; rintro e w' ⟨rfl, rfl⟩)
    | (go_at_call 45; refine (mul64 _ _ wa wb _).mono ?_; rintro e w' ⟨rfl, rfl⟩)
    | (go_at_call 47; refine (signed_c _ _ _ (mod_word _) p1 _).mono ?_; rintro e w' ⟨rfl, rfl⟩))
  go_ret2
  exact ⟨ret2 (by rw [H.out, Int.ediv_mul_add_emod]) (by rw [H.out, Int.ediv_mul_add_emod]), rfl⟩
end Go.Proofs.Ytdelhinfablhjaa
