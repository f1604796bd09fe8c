/- awake, and the laws of chapter 8. -/
import Derived.Test.YtjioombinbngpaaV
import Derived.Test.YtjioombinbngpaaM
namespace Go.Proofs.Ytjioombinbngpaa
set_option linter.unusedVariables false
set_option linter.unusedSimpArgs false
open Go.RowKit Go.Shelf

theorem awake_num : pnum [36, 45, 102, 102] 10 = .agg #[.int .i64 1, .int .i64 (-255), .int .i64 0] := by
  simp [pnum, pk, prefS, cutP, cutPb, cutSb, cutS, prefB, moU, moN, dv, sg, dlo, dhi, wrap64, M2]
theorem awake_txt : strOfNums (txtS 16 (UD (-1) 0)) = ⟨#[70, 70, 70, 70, 70, 70, 70, 70, 70, 70, 70, 70, 70, 70, 70, 70]⟩ := by
  have e : UD (-1) 0 = 18446744073709551615 := by decide
  rw [e]
  decide
theorem conv4 (w : World) (a b c d : Int) (N : Nat) (h : w.heap.size = N) : (convert 22 22 (.slice (some ⟨N, 0, none⟩) 4 4)).run Try.prog (w.alloc (.cells #[.int .u8 a, .int .u8 b, .int .u8 c, .int .u8 d] 5)) = .ok (.slice (some ⟨N, 0, none⟩) 4 4) (w.alloc (.cells #[.int .u8 a, .int .u8 b, .int .u8 c, .int .u8 d] 5 (4, 5))) := by
  subst h
  exact Go.Lib.run_convert_bytes_const w 22 5 #[.int .u8 a, .int .u8 b, .int .u8 c, .int .u8 d] 4 4 (by first | rfl | decide) (by first | rfl | decide)
theorem rd_four (w : World) (a b c d : Int) (m : Nat × Nat) : Rd (w.alloc (.cells #[.int .u8 a, .int .u8 b, .int .u8 c, .int .u8 d] 5 m)) .u8 (.slice (some ⟨w.heap.size, 0, none⟩) 4 4) [a, b, c, d] := by
  refine Rd.mk _ 0 rfl (Nat.le_refl _) (fun i hi => ?_)
  rw [World.cell?_alloc_mark]
  match i, hi with
  | 0, _ => rfl
  | 1, _ => rfl
  | 2, _ => rfl
  | 3, _ => rfl
theorem byt_four : Byt [36, 45, 102, 102] := by intro x hx; simp at hx; omega
theorem awake_c (w : World) : Calls Try.prog 11 #[] w fun e w' => e = .returned (.bool true) ∧ Below w.heap.size w w' := by
  have hp := rd_four w 36 45 102 102 (4, 5)
  have C := parse_c 10 _ _ _ hp byt_four (by decide)
  rw [awake_num] at C
  have HC := Lib.hid C
  have T := fun w => text_c (-1) 0 16 ⟨by omega, by omega⟩ ⟨by omega, by omega⟩ w
  rw [awake_txt] at T
  have HT := Lib.hid T
  clear C T hp
  go_enter Try.func11, Try.ntmps11
  go_wp2_with (first
    | (go_at_call 9; refine (HC.out).mono ?_; rintro e w1 ⟨rfl, hb1⟩)
    | (go_at_call 16; refine (HT.out _).mono ?_; rintro e w2 ⟨rfl, hb2⟩)
    | rw [conv4 _ _ _ _ _ _ rfl])
  go_ret
  exact ⟨rfl, below_then ((Below.refl _ w).alloc (Nat.le_refl _) _) (by simp) (hb1.trans (hb2.mono hb1.size))⟩
theorem lvalue_walk (c b : Int) (h0 : 0 ≤ c) (h1 : c < 256) (w : World) : Calls Try.prog 5 #[.int .u8 c, .int .i64 b] w fun e w' => e = .returned (.bool true) ∧ Below w.heap.size w w' := by
  obtain ⟨v, hv⟩ : ∃ v, dv c b = v := ⟨_, rfl⟩
  have HV := Lib.hid hv
  go_enter Try.func5, Try.ntmps5
  go_wp2_with (first
    | (go_at_call 14; refine (value_c _ _ h0 h1 _).mono ?_; rintro e w' ⟨rfl, rfl⟩)
    | (go_at_call 15; refine (rvalue_c _ _ h0 h1 _).mono ?_; rintro e w' ⟨rfl, rfl⟩)
    | (go_at_call 11; refine (awake_c _).mono ?_; rintro e w1 ⟨rfl, hb1⟩))
  go_ret
  exact ⟨rfl, hb1⟩
theorem ltext_walk (lo hi b : Int) (hl : Cell lo) (hh : Cell hi) (w : World) : Calls Try.prog 6 #[.int .i64 lo, .int .i64 hi, .int .i64 b] w fun e w' => e = .returned (.bool true) ∧ Below w.heap.size w w' := by
  have T := fun w => text_c lo hi b hl hh w
  have R := fun w => rtext_c lo hi b hl hh w
  obtain ⟨v, hv⟩ : ∃ v, strOfNums (txtS b (UD lo hi)) = v := ⟨_, rfl⟩
  rw [hv] at T R
  have HT := Lib.hid T
  have HR := Lib.hid R
  clear T R hv
  go_enter Try.func6, Try.ntmps6
  go_wp2_with (first
    | (go_at_call 16; refine (HT.out _).mono ?_; rintro e w1 ⟨rfl, hb1⟩)
    | (go_at_call 17; refine (HR.out _).mono ?_; rintro e w2 ⟨rfl, hb2⟩)
    | (go_at_call 11; refine (awake_c _).mono ?_; rintro e w3 ⟨rfl, hb3⟩))
  go_ret
  exact ⟨rfl, below_then hb1 hb1.size (hb2.trans (hb3.mono hb2.size))⟩
end Go.Proofs.Ytjioombinbngpaa
