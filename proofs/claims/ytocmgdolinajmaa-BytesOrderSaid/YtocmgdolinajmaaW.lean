/- BytesOrder. -/
import Derived.Test.YtocmgdolinajmaaV
namespace Go.Proofs.Ytocmgdolinajmaa
set_option linter.unusedVariables false
set_option linter.unusedSimpArgs false
open Go.RowKit

theorem cmpB_val : ∀ (a b : List Int), cmpB a b = -1 ∨ cmpB a b = 0 ∨ cmpB a b = 1
  | [], [] => .inr (.inl rfl)
  | [], _ :: _ => .inl rfl
  | _ :: _, [] => .inr (.inr rfl)
  | x :: a, y :: b => by
    unfold cmpB
    split
    · exact .inl rfl
    · split
      · exact .inr (.inr rfl)
      · exact cmpB_val a b
theorem cmpB_neg : ∀ (a b : List Int), cmpB b a = -cmpB a b
  | [], [] => rfl
  | [], _ :: _ => rfl
  | _ :: _, [] => rfl
  | x :: a, y :: b => by
    unfold cmpB
    have := cmpB_neg a b
    split
    · rw [if_neg (by omega)]
    · split
      · rfl
      · exact this
theorem cmpB_eq : ∀ (a b : List Int), cmpB a b = 0 ↔ a = b
  | [], [] => by simp [cmpB]
  | [], _ :: _ => by simp [cmpB]
  | _ :: _, [] => by simp [cmpB]
  | x :: a, y :: b => by
    have ih := cmpB_eq a b
    unfold cmpB
    split
    · simp; omega
    · split
      · simp; omega
      · rw [ih]
        simp only [List.cons.injEq]
        constructor
        · intro h; exact ⟨by omega, h⟩
        · intro h; exact h.2
theorem cmpB_trans : ∀ (a b c : List Int), cmpB a b ≤ 0 → cmpB b c ≤ 0 → cmpB a c ≤ 0
  | [], _, [], _, _ => by simp [cmpB]
  | [], _, _ :: _, _, _ => by simp [cmpB]
  | _ :: _, [], _, h, _ => by simp [cmpB] at h
  | _ :: _, _ :: _, [], _, h => by simp [cmpB] at h
  | x :: a, y :: b, z :: c, h1, h2 => by
    have ih := cmpB_trans a b c
    unfold cmpB at h1 h2 ⊢
    by_cases g1 : x < y
    · by_cases g2 : y < z
      · rw [if_pos (by omega)]; omega
      · rw [if_neg g2] at h2
        by_cases g3 : z < y
        · rw [if_pos g3] at h2; omega
        · rw [if_pos (by omega)]; omega
    · rw [if_neg g1] at h1
      by_cases g3 : y < x
      · rw [if_pos g3] at h1; omega
      · rw [if_neg g3] at h1
        by_cases g2 : y < z
        · rw [if_pos (by omega)]; omega
        · rw [if_neg g2] at h2
          by_cases g4 : z < y
          · rw [if_pos g4] at h2; omega
          · rw [if_neg g4] at h2
            rw [if_neg (by omega), if_neg (by omega)]
            exact ih h1 h2
set_option maxRecDepth 100000 in
set_option maxHeartbeats 4000000 in
theorem lorder_s (La Lb Lc : Nat) (aa ab ac : Option Addr) (ca cb cc : Nat) (w : World) (l1 : La ≤ 400) (l2 : Lb ≤ 400) (l3 : Lc ≤ 400)
    (k kb r nk : Int) (q : Bool) (hk : (k = -1 ∧ nk = 1 ∧ q = false) ∨ (k = 0 ∧ nk = 0 ∧ q = true) ∨ (k = 1 ∧ nk = -1 ∧ q = false)) (hkb : kb = -1 ∨ kb = 0 ∨ kb = 1) (hr : k ≤ 0 → kb ≤ 0 → r ≤ 0)
    (C1 : Hid (Calls Try.prog 14 #[(.slice aa La ca), (.slice ab Lb cb)] w fun e w' => e = .returned (.int .i64 k) ∧ w = w'))
    (C2 : Hid (Calls Try.prog 14 #[(.slice ab Lb cb), (.slice aa La ca)] w fun e w' => e = .returned (.int .i64 nk) ∧ w = w'))
    (C3 : Hid (Calls Try.prog 14 #[(.slice aa La ca), (.slice aa La ca)] w fun e w' => e = .returned (.int .i64 0) ∧ w = w'))
    (C4 : Hid (Calls Try.prog 14 #[(.slice ab Lb cb), (.slice ac Lc cc)] w fun e w' => e = .returned (.int .i64 kb) ∧ w = w'))
    (C5 : Hid (Calls Try.prog 14 #[(.slice aa La ca), (.slice ac Lc cc)] w fun e w' => e = .returned (.int .i64 r) ∧ w = w'))
    (S : Hid (Calls Try.prog 12 #[(.slice aa La ca), (.slice ab Lb cb)] w fun e w' => e = .returned (.bool q) ∧ w = w')) :
    Calls Try.prog 4 #[(.slice aa La ca), (.slice ab Lb cb), (.slice ac Lc cc)] w fun e w' => e = .returned (.bool true) ∧ Below w.heap.size w w' := by
  have AW := Lib.hid awake_c
  rcases hk with ⟨rfl, rfl, rfl⟩ | ⟨rfl, rfl, rfl⟩ | ⟨rfl, rfl, rfl⟩ <;> rcases hkb with rfl | rfl | rfl
  all_goals
    (first
      | (have hr2 := hr (by decide) (by decide); clear hr; have hr3 : decide (0 < r) = false := decide_eq_false (by omega))
      | clear hr)
    go_enter Try.func4, Try.ntmps4
    go_wp2_with (first
      | (go_at_call 14; (with_reducible refine (C1.out).mono ?_); rintro e w' ⟨rfl, rfl⟩)
      | (go_at_call 14; (with_reducible refine (C2.out).mono ?_); rintro e w' ⟨rfl, rfl⟩)
      | (go_at_call 14; (with_reducible refine (C3.out).mono ?_); rintro e w' ⟨rfl, rfl⟩)
      | (go_at_call 14; (with_reducible refine (C4.out).mono ?_); rintro e w' ⟨rfl, rfl⟩)
      | (go_at_call 14; (with_reducible refine (C5.out).mono ?_); rintro e w' ⟨rfl, rfl⟩)
      | (go_at_call 12; (with_reducible refine (S.out).mono ?_); rintro e w' ⟨rfl, rfl⟩)
      | (go_at_call 8; (with_reducible refine (AW.out _).mono ?_); rintro e w5 ⟨rfl, hb5⟩))
    go_ret
    exact ⟨rfl, hb5⟩
set_option maxRecDepth 100000 in
theorem lorder_long (La Lb Lc : Nat) (aa ab ac : Option Addr) (ca cb cc : Nat) (w : World) (h : 400 < La ∨ (La ≤ 400 ∧ 400 < Lb) ∨ (La ≤ 400 ∧ Lb ≤ 400 ∧ 400 < Lc)) :
    Calls Try.prog 4 #[(.slice aa La ca), (.slice ab Lb cb), (.slice ac Lc cc)] w fun e w' => e = .returned (.bool true) ∧ Below w.heap.size w w' := by
  have AW := Lib.hid awake_c
  rcases h with h | ⟨h, h'⟩ | ⟨h, h', h''⟩
  all_goals
    go_enter Try.func4, Try.ntmps4
    go_wp2_with (go_at_call 8; (with_reducible refine (AW.out _).mono ?_); rintro e w5 ⟨rfl, hb5⟩)
    go_ret
    exact ⟨rfl, hb5⟩
theorem lorder_walk (va vb vc : Value) (la lb lc : List Int) (w : World) (ha : Rd w .u8 va la) (hb : Rd w .u8 vb lb) (hc : Rd w .u8 vc lc) (ba : Byt la) (bb : Byt lb) (bc : Byt lc) :
    Calls Try.prog 4 #[va, vb, vc] w fun e w' => e = .returned (.bool true) ∧ Below w.heap.size w w' := by
  have c1 := cmp_c va vb la lb w ha hb ba bb
  have c2 := cmp_c vb va lb la w hb ha bb ba
  have c3 := cmp_c va va la la w ha ha ba ba
  have c4 := cmp_c vb vc lb lc w hb hc bb bc
  have c5 := cmp_c va vc la lc w ha hc ba bc
  have s1 := same_c va vb la lb w ha hb ba bb
  rw [(cmpB_eq la la).2 rfl] at c3
  rw [cmpB_neg la lb] at c2
  obtain ⟨aa, ca, rfl⟩ := ha.len
  obtain ⟨ab, cb, rfl⟩ := hb.len
  obtain ⟨ac, cc, rfl⟩ := hc.len
  by_cases hl : la.length ≤ 400 ∧ lb.length ≤ 400 ∧ lc.length ≤ 400
  · refine lorder_s _ _ _ _ _ _ _ _ _ w hl.1 hl.2.1 hl.2.2 _ _ _ _ _ ?_ (cmpB_val lb lc) (fun h1 h2 => by have := cmpB_trans la lb lc h1 h2; omega) (Lib.hid c1) (Lib.hid c2) (Lib.hid c3) (Lib.hid c4) (Lib.hid c5) (Lib.hid s1)
    have e := cmpB_eq la lb
    have q : (la == lb) = decide (cmpB la lb = 0) := by
      rw [Bool.eq_iff_iff]; simp only [beq_iff_eq, decide_eq_true_eq]; exact e.symm
    rw [q]
    rcases cmpB_val la lb with h | h | h <;> rw [h]
    · exact .inl ⟨rfl, rfl, rfl⟩
    · exact .inr (.inl ⟨rfl, rfl, rfl⟩)
    · exact .inr (.inr ⟨rfl, rfl, rfl⟩)
  · exact lorder_long _ _ _ _ _ _ _ _ _ w (by omega)
end Go.Proofs.Ytocmgdolinajmaa
