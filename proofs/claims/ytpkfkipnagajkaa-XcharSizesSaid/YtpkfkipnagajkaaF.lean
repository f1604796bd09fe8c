/- The walks of the laws of encoders and sizes. -/
import Derived.Test.YtpkfkipnagajkaaE
namespace Go.Proofs.Ytpkfkipnagajkaa
set_option linter.unusedVariables false
set_option linter.unusedSimpArgs false
open Go.RowKit Go.Shelf
theorem byt_two : Byt [195, 169] := by intro x hx; simp at hx; omega
theorem awake_c (w : World) : Calls Try.prog 10 #[] w fun e w' => e = .returned (.bool true) ∧ Below w.heap.size w w' := by
  have e1 : enc 233 = [195, 169] := by decide
  have e2 : thr 233 = 0 := by decide
  have e3 : wd 55296 = 0 := by decide
  have C := encode_c 233
  rw [e1, e2] at C
  have H := Lib.hid C
  have W0 := Lib.hid (width_c 55296)
  clear C
  go_enter Try.func10, Try.ntmps10
  go_wp2_with (go_at_call 5; refine (H.out _).mono ?_; rintro e w1 ⟨v, rfl, hr, hb⟩)
  have hr2 := hr.below ((Below.refl _ _).alloc (Nat.le_refl _) (.cells #[.int .u8 195, .int .u8 169] 5))
  have hr3 := Rd.of_alloc w1 .u8 [195, 169] 5
  go_wp2_with (first
    | (go_at_call 7; refine (same_c _ _ _ _ _ hr2 hr3 byt_two byt_two).mono ?_; rintro e w' ⟨rfl, rfl⟩)
    | (go_at_call 8; refine (W0.out _).mono ?_; rintro e w' ⟨rfl, rfl⟩))
  go_ret
  exact ⟨rfl, below_then hb hb.size ((Below.refl _ _).alloc (Nat.le_refl _) _)⟩
theorem encodes_walk (u : Int) (w : World) : Calls Try.prog 3 #[.int .i64 u] w fun e w' => e = .returned (.bool true) ∧ Below w.heap.size w w' := by
  go_enter Try.func3, Try.ntmps3
  go_wp2_with (first
    | (go_at_call 5; refine (encode_c _ _).mono ?_; rintro e w1 ⟨v1, rfl, hr1, hb1⟩)
    | (go_at_call 6; refine (rencode_c _ _).mono ?_; rintro e w2 ⟨v2, rfl, hr2, hb2⟩; have hr1' := hr1.below hb2)
    | (go_at_call 7; refine (same_c _ _ _ _ _ hr1' hr2 (enc_byt _) (enc_byt _)).mono ?_; rintro e w' ⟨rfl, rfl⟩)
    | (go_at_call 8; refine (width_c _ _).mono ?_; rintro e w' ⟨rfl, rfl⟩)
    | (go_at_call 9; refine (rwidth_c _ _).mono ?_; rintro e w' ⟨rfl, rfl⟩)
    | (go_at_call 10; refine (awake_c _).mono ?_; rintro e w3 ⟨rfl, hb3⟩))
  go_ret
  exact ⟨rfl, below_then (below_then hb1 hb1.size hb2) (Nat.le_trans hb1.size hb2.size) hb3⟩
def szN (b : Int) : Int := if b < 128 then 1 else if b < 194 then 0 else if b < 224 then 2 else if b < 240 then 3 else if b < 245 then 4 else 0
def szT (b : Int) : Int := if b < 128 then 0 else if b < 194 then -77 else if b < 245 then 0 else -77
theorem size_c (b : Int) (h0 : 0 ≤ b) (h1 : b < 256) (w : World) : Calls Try.prog 11 #[.int .u8 b] w fun e w' => e = .returned (.tuple #[.int .i64 (szN b), .int .i64 (szT b)]) ∧ w = w' := by
  unfold szN szT
  go_enter Try.func11, Try.ntmps11
  go_wp2
  all_goals (go_ret2; exact ⟨ret2 (by (repeat' split) <;> first | rfl | omega) (by (repeat' split) <;> first | rfl | omega), rfl⟩)
theorem rsize_c (b : Int) (h0 : 0 ≤ b) (h1 : b < 256) (w : World) : Calls Try.prog 12 #[.int .u8 b] w fun e w' => e = .returned (.tuple #[.int .i64 (szN b), .int .i64 (szT b)]) ∧ w = w' := by
  unfold szN szT
  go_enter Try.func12, Try.ntmps12
  go_wp2
  all_goals (go_ret2; exact ⟨ret2 (by (repeat' split) <;> first | rfl | omega) (by (repeat' split) <;> first | rfl | omega), rfl⟩)
theorem sizes_walk (b : Int) (h0 : 0 ≤ b) (h1 : b < 256) (w : World) : Calls Try.prog 4 #[.int .u8 b] w fun e w' => e = .returned (.bool true) ∧ Below w.heap.size w w' := by
  go_enter Try.func4, Try.ntmps4
  go_wp2_with (first
    | (go_at_call 11; refine (size_c _ h0 h1 _).mono ?_; rintro e w' ⟨rfl, rfl⟩)
    | (go_at_call 12; refine (rsize_c _ h0 h1 _).mono ?_; rintro e w' ⟨rfl, rfl⟩)
    | (go_at_call 10; refine (awake_c _).mono ?_; rintro e w3 ⟨rfl, hb3⟩))
  go_ret
  exact ⟨rfl, hb3⟩
end Go.Proofs.Ytpkfkipnagajkaa
