/- root, Sqrt. -/
import Derived.Test.YtecgkhijiogggaaH
namespace Go.Proofs.Ytecgkhijiogggaa
set_option linter.unusedVariables false
set_option linter.unusedSimpArgs false
open Go.RowKit Go.Shelf SF
theorem i64_and1 (n : Int) : bits .and .i64 n 1 = n % 2 := by
  have h1 : (BitVec.ofInt 64 1).toNat = 2 ^ 1 - 1 := by decide
  have key : (BitVec.ofInt 64 n &&& BitVec.ofInt 64 1).toNat = (n % ((2 ^ 64 : Nat) : Int)).toNat % 2 ^ 1 := by
    rw [BitVec.toNat_and, BitVec.toNat_ofInt, h1, Nat.and_two_pow_sub_one_eq_mod]
  show IntKind.i64.wrap ((BitVec.ofInt 64 n &&& BitVec.ofInt 64 1).toNat : Nat) = n % 2
  rw [key, IntKind.wrap_i64]
  omega
/-- Where the root's loop stands. -/
structure RootAt (m i : Nat) (s b : Int) (r t : Nat) : Prop where
  hi : i ≤ 61
  hs : s = (r : Int)
  hb : b = ((if i = 0 then 0 else 2 ^ (i - 1) : Nat) : Int)
  hm : r % 2 ^ i = 0
  hl : r + 2 ^ i ≤ 2305843009213693952
  hr : rootL m i r = t
theorem root_at (m t : Nat) (h : rootL m 61 0 = t) : RootAt m 61 0 1152921504606846976 0 t := ⟨by decide, rfl, by decide, by decide, by decide, h⟩
theorem half_pow (j : Nat) : ((2 ^ j : Nat) : Int) / 2 = ((if j = 0 then 0 else 2 ^ (j - 1) : Nat) : Int) := by
  by_cases h : j = 0
  · subst h; rfl
  · rw [if_neg h]
    obtain ⟨k, rfl⟩ : ∃ k, j = k + 1 := ⟨j - 1, by omega⟩
    rw [Nat.add_sub_cancel, Nat.pow_succ]; omega
/-- A round of it. -/
theorem root_round {m j r t : Nat} {s b : Int} (h : RootAt m (j + 1) s b r t) :
    bits .or .u64 s b = ((r + 2 ^ j : Nat) : Int) ∧ W (r + 2 ^ j) ∧ b = ((2 ^ j : Nat) : Int) ∧ 0 < 2 ^ j ∧
    ((r + 2 ^ j) * (r + 2 ^ j) ≤ m → RootAt m j ((r + 2 ^ j : Nat) : Int) (b / 2) (r + 2 ^ j) t) ∧ (¬ (r + 2 ^ j) * (r + 2 ^ j) ≤ m → RootAt m j s (b / 2) r t) := by
  have hb : b = ((2 ^ j : Nat) : Int) := h.hb
  have hm := h.hm
  have hl := h.hl
  have hr := h.hr
  have hi := h.hi
  have pj := pow_pos j
  rw [Nat.pow_succ] at hm hl
  have d1 : r % 2 ^ j = 0 := by
    have := Nat.mod_mul_right_mod r (2 ^ j) 2
    rw [hm] at this; rw [← this]; exact Nat.zero_mod _
  have Wt : W (r + 2 ^ j) := by unfold W; omega
  refine ⟨?_, Wt, hb, pj, fun c => ⟨by omega, rfl, by rw [hb, half_pow], by rw [Nat.add_mod_right]; exact d1, by omega, ?_⟩, fun c => ⟨by omega, h.hs, by rw [hb, half_pow], d1, by omega, ?_⟩⟩
  · rw [h.hs, hb]
    have hm' : r % 2 ^ (j + 1) = 0 := h.hm
    exact bor_at (s := j + 1) hm' (by rw [Nat.pow_succ]; omega) (by unfold W at *; omega) (by unfold W at *; omega)
  · rw [← hr]; show _ = if _ then _ else _; rw [if_pos c]
  · rw [← hr]; show _ = if _ then _ else _; rw [if_neg c]
theorem sq_le {t hi lo : Nat} (h : W lo) : t * t ≤ two hi lo ↔ (t * t / 18446744073709551616 < hi ∨ (t * t / 18446744073709551616 = hi ∧ t * t % 18446744073709551616 ≤ lo)) := by
  unfold two
  unfold W at h
  generalize t * t = x
  omega
theorem sq_eq {t hi lo : Nat} (hl : W lo) : t * t = two hi lo ↔ (t * t / 18446744073709551616 = hi ∧ t * t % 18446744073709551616 = lo) := by
  unfold two
  unfold W at hl
  generalize t * t = x
  omega
theorem root_c (hi lo : Nat) (hh : W hi) (hl : W lo) (R : Nat) (hR : rootL (two hi lo) 61 0 = R) (z : Bool) (hz : decide (R * R ≠ two hi lo) = z) (hRW : W R) (w : World) : Calls Try.prog 76 #[.int .u64 hi, .int .u64 lo] w fun e w' => e = .returned (.tuple #[.int .u64 R, .bool z]) ∧ w = w' := by
  have S := Lib.hid (root_at _ _ hR)
  have LAST := Lib.hid (mul64_c R R hRW hRW)
  have LE := Lib.hid (sq_eq (t := R) (hi := hi) hl)
  have HZ := Lib.hid hz
  have hlo := Lib.hid hl
  clear hz hR hh hl
  go_enter Try.func76, Try.ntmps76
  go_wp2_with fail
  go_loop [6, 7] (fun s b => ∃ (x y : Int), s = .int .u64 x ∧ b = .int .u64 y ∧ Hid (∃ i r, RootAt (two hi lo) i x y r R)) (fun _ b => (intOf b).toNat)
  case atStart => exact ⟨_, _, rfl, rfl, Lib.hid ⟨_, _, S.out⟩⟩
  case round =>
    obtain ⟨s, b, rfl, rfl, hA⟩ := hrel
    obtain ⟨i, r, hA⟩ := hA.out
    clear S
    cases i with
    | zero =>
      have hb0 : b = 0 := hA.hb
      have hr0 : r = R := hA.hr
      have hs0 : s = (R : Int) := by rw [hA.hs, hr0]
      subst hs0 hb0
      clear hA
      generalize R * R / 18446744073709551616 = h at LAST LE
      generalize R * R % 18446744073709551616 = l at LAST LE
      by_cases c1 : h = hi
      · subst c1
        have ez : ((l : Int) != (lo : Int)) = z := by
          rw [← HZ.out, Bool.eq_iff_iff]; simp only [bne_iff_ne, decide_eq_true_eq]
          have := LE.out
          constructor
          · intro g c; exact g (by have := (this.1 c).2; omega)
          · intro g c; exact g (this.2 ⟨rfl, by omega⟩)
        clear LE HZ
        have EZ := Lib.hid ez
        clear ez
        go_wp2_with (first
          | (go_at_call 89; (with_reducible refine (LAST.out _).mono ?_); rintro e1 w1 ⟨rfl, rfl⟩))
        go_ret2
        refine ⟨?_, rfl⟩
        rw [← EZ.out]; rfl
      · have e1 : ¬ (h : Int) = (hi : Int) := by omega
        have ez : z = true := by rw [← HZ.out, decide_eq_true]; exact fun g => c1 (LE.out.1 g).1
        subst ez
        clear LE HZ c1
        go_wp2_with (first
          | (go_at_call 89; (with_reducible refine (LAST.out _).mono ?_); rintro e1 w1 ⟨rfl, rfl⟩))
        go_ret2
        exact ⟨rfl, rfl⟩
    | succ j =>
      obtain ⟨q1, q2, q3, q4, q5, q6⟩ := root_round hA
      have b0 : 0 < b := by omega
      have SL := sq_le (t := r + 2 ^ j) (hi := hi) (lo := lo) hlo.out
      rw [SL] at q5 q6
      have HM := Lib.hid (mul64_c (r + 2 ^ j) (r + 2 ^ j) q2 q2)
      clear hA LE HZ LAST SL q2 q3 q4
      generalize (r + 2 ^ j) * (r + 2 ^ j) / 18446744073709551616 = h at HM q5 q6
      generalize (r + 2 ^ j) * (r + 2 ^ j) % 18446744073709551616 = l at HM q5 q6
      generalize r + 2 ^ j = T at HM q1 q5
      have Q5 := Lib.hid q5
      have Q6 := Lib.hid q6
      clear q5 q6
      by_cases c1 : (h : Int) < hi
      · have N := Q5.out (.inl (by omega))
        clear Q5 Q6
        go_wp2_with (first
          | (go_at_call 89; (with_reducible refine (HM.out _).mono ?_); rintro e1 w1 ⟨rfl, rfl⟩))
        go_round
        case rel => exact ⟨_, _, rfl, rfl, Lib.hid ⟨_, _, N⟩⟩
        case measure => simp [intOf]; omega
      · by_cases c2 : (h : Int) = (hi : Int)
        · by_cases c3 : (l : Int) ≤ lo
          · have N := Q5.out (.inr ⟨by omega, by omega⟩)
            clear Q5 Q6
            go_wp2_with (first
              | (go_at_call 89; (with_reducible refine (HM.out _).mono ?_); rintro e1 w1 ⟨rfl, rfl⟩))
            go_round
            case rel => exact ⟨_, _, rfl, rfl, Lib.hid ⟨_, _, N⟩⟩
            case measure => simp [intOf]; omega
          · have N := Q6.out (fun g => by rcases g with g | g <;> omega)
            clear Q5 Q6
            go_wp2_with (first
              | (go_at_call 89; (with_reducible refine (HM.out _).mono ?_); rintro e1 w1 ⟨rfl, rfl⟩))
            go_round
            case rel => exact ⟨_, _, rfl, rfl, Lib.hid ⟨_, _, N⟩⟩
            case measure => simp [intOf]; omega
        · skip
          have N := Q6.out (fun g => by rcases g with g | g; omega; exact absurd g.1 (by omega))
          clear Q5 Q6
          go_wp2_with (first
            | (go_at_call 89; (with_reducible refine (HM.out _).mono ?_); rintro e1 w1 ⟨rfl, rfl⟩))
          go_round
          case rel => exact ⟨_, _, rfl, rfl, Lib.hid ⟨_, _, N⟩⟩
          case measure => simp [intOf]; omega
end Go.Proofs.Ytecgkhijiogggaa
