/- The walks of the laws of encoders and sizes. -/
import Derived.Test.YtpkfkipnagajkaaDoorE
namespace Go.Proofs.YtpkfkipnagajkaaDoor
set_option linter.unusedVariables false
set_option linter.unusedSimpArgs false
open Go.RowKit Go.Shelf
theorem byt_two : Byt [195, 169] := by intro x hx; simp at hx; omega
theorem awake_c (w : World) : Calls Tryd.prog 7 #[] w fun e w' => e = .returned (.bool true) ∧ Below w.heap.size w w' := by
  have e1 : enc 233 = [195, 169] := by decide
  have e2 : thr 233 = 0 := by decide
  have e3 : wd 55296 = 0 := by decide
  have C := encode_c 233
  rw [e1, e2] at C
  have H := Lib.hid C
  have W0 := Lib.hid (width_c 55296)
  clear C
  go_enter Tryd.func7, Tryd.ntmps7
  go_wp2_with (go_at_call 16; refine (H.out _).mono ?_; rintro e w1 ⟨v, rfl, hr, hb⟩)
  have hr2 := hr.below ((Below.refl _ _).alloc (Nat.le_refl _) (.cells #[.int .u8 195, .int .u8 169] 5))
  have hr3 := Rd.of_alloc w1 .u8 [195, 169] 5
  go_wp2_with (first
    | (go_at_call 19; refine (same_c _ _ _ _ _ hr2 hr3 byt_two byt_two).mono ?_; rintro e w' ⟨rfl, rfl⟩)
    | (go_at_call 17; refine (W0.out _).mono ?_; rintro e w' ⟨rfl, rfl⟩))
  go_ret
  exact ⟨rfl, below_then hb hb.size ((Below.refl _ _).alloc (Nat.le_refl _) _)⟩
def szN (b : Int) : Int := if b < 128 then 1 else if b < 194 then 0 else if b < 224 then 2 else if b < 240 then 3 else if b < 245 then 4 else 0
def szT (b : Int) : Int := if b < 128 then 0 else if b < 194 then -77 else if b < 245 then 0 else -77
theorem size_c (b : Int) (h0 : 0 ≤ b) (h1 : b < 256) (w : World) : Calls Tryd.prog 18 #[.int .u8 b] w fun e w' => e = .returned (.tuple #[.int .i64 (szN b), .int .i64 (szT b)]) ∧ w = w' := by
  unfold szN szT
  go_enter Tryd.func18, Tryd.ntmps18
  go_wp2
  all_goals (go_ret2; exact ⟨ret2 (by (repeat' split) <;> first | rfl | omega) (by (repeat' split) <;> first | rfl | omega), rfl⟩)
theorem rsize_c (b : Int) (h0 : 0 ≤ b) (h1 : b < 256) (w : World) : Calls Tryd.prog 21 #[.int .u8 b] w fun e w' => e = .returned (.tuple #[.int .i64 (szN b), .int .i64 (szT b)]) ∧ w = w' := by
  unfold szN szT
  go_enter Tryd.func21, Tryd.ntmps21
  go_wp2
  all_goals (go_ret2; exact ⟨ret2 (by (repeat' split) <;> first | rfl | omega) (by (repeat' split) <;> first | rfl | omega), rfl⟩)
end Go.Proofs.YtpkfkipnagajkaaDoor
