/- The reference's escapes. -/
import Derived.Test.YtocmgdolinajmaaQ
namespace Go.Proofs.Ytocmgdolinajmaa
set_option linter.unusedVariables false
set_option linter.unusedSimpArgs false
open Go.RowKit

theorem rhex_c (c : Int) (h0 : 0 ≤ c) (h1 : c < 256) (w : World) : Calls Try.prog 29 #[.int .u8 c] w fun e w' => e = .returned (.int .i64 (hexV c)) ∧ w = w' := by
  by_cases a : 48 ≤ c ∧ c ≤ 57
  · have e := Lib.hid (show hexV c = c - 48 from if_pos a)
    obtain ⟨a1, a2⟩ := a
    go_enter Try.func29, Try.ntmps29
    go_wp2
    go_ret
    exact ⟨ret1 (by rw [e.out]), rfl⟩
  · by_cases b : 97 ≤ c ∧ c ≤ 102
    · have e := Lib.hid (show hexV c = c - 87 by unfold hexV; rw [if_neg a, if_pos b])
      obtain ⟨b1, b2⟩ := b
      have a : ¬ c ≤ 57 := by omega
      have i1 : IntKind.u8.wrap (c - 97) = c - 97 := by simp only [IntKind.wrap_u8]; omega
      go_enter Try.func29, Try.ntmps29
      go_wp2
      go_ret
      exact ⟨ret1 (by rw [e.out]; omega), rfl⟩
    · by_cases d : 65 ≤ c ∧ c ≤ 70
      · have e := Lib.hid (show hexV c = c - 55 by unfold hexV; rw [if_neg a, if_neg b, if_pos d])
        obtain ⟨d1, d2⟩ := d
        have a : ¬ c ≤ 57 := by omega
        have b : ¬ 97 ≤ c := by omega
        have i1 : IntKind.u8.wrap (c - 65) = c - 65 := by simp only [IntKind.wrap_u8]; omega
        go_enter Try.func29, Try.ntmps29
        go_wp2
        go_ret
        exact ⟨ret1 (by rw [e.out]; omega), rfl⟩
      · have e := Lib.hid (show hexV c = -1 by unfold hexV; rw [if_neg a, if_neg b, if_neg d])
        by_cases a1 : 48 ≤ c <;> by_cases b1 : 97 ≤ c <;> by_cases d1 : 65 ≤ c
        all_goals first
          | omega
          | (have a2 : c < 48 ∨ 57 < c := by omega
             have b2 : c < 97 ∨ 102 < c := by omega
             have d2 : c < 65 ∨ 70 < c := by omega
             clear a b d
             rcases a2 with a2 | a2 <;> rcases b2 with b2 | b2 <;> rcases d2 with d2 | d2
             all_goals first
               | omega
               | (go_enter Try.func29, Try.ntmps29
                  go_wp2
                  go_ret
                  exact ⟨ret1 (by rw [e.out]), rfl⟩))
/-- An escape is read by the reference. -/
def REscOk (s : List Int) (w : World) (e : Ending) (w' : World) : Prop :=
  Below w.heap.size w w' ∧ ∃ v, e = .returned (.tuple #[v, .int .i64 ((oneV s).2 : Nat)]) ∧ Rd w' .u8 v (oneV s).1
theorem resc_letter (x : Int) (s : List Int) (w : World) (h : oneV s = ([x], 1)) : REscOk s w (.returned (.tuple #[.slice (some ⟨w.heap.size, 0, none⟩) 1 1, .int .i64 1])) (w.alloc (.cells #[.int .u8 x] 5)) := by
  unfold REscOk
  rw [h]
  exact ⟨(Below.refl _ _).alloc (Nat.le_refl _) _, _, rfl, Rd.made1 _ _ _⟩
theorem resc_two (x y : Int) (s : List Int) (w : World) (h : oneV s = ([x, y], 1)) : REscOk s w (.returned (.tuple #[.slice (some ⟨w.heap.size, 0, none⟩) 2 2, .int .i64 1])) (w.alloc (.cells #[.int .u8 x, .int .u8 y] 5)) := by
  unfold REscOk
  rw [h]
  exact ⟨(Below.refl _ _).alloc (Nat.le_refl _) _, _, rfl, Rd.made2 _ _ _ _⟩
theorem resc_none (s : List Int) (w w' : World) (h : oneV s = ([], 0)) (hb : Below w.heap.size w w') : REscOk s w (.returned (.tuple #[.slice none 0 0, .int .i64 0])) w' := by
  unfold REscOk
  rw [h]
  exact ⟨hb, _, rfl, Rd.nil _ _ _⟩
set_option maxHeartbeats 2000000 in
theorem one_c (v : Value) (s : List Int) (w : World) (hr : Rd w .u8 v s) (hs : s.length ≤ 1000000) (hx : s.getD 0 0 ≠ 120) : Calls Try.prog 21 #[v] w fun e w' => REscOk s w e w' := by
  cases s with
  | nil =>
    obtain ⟨a, c, rfl⟩ := hr.len
    clear hr hs hx
    go_enter Try.func21, Try.ntmps21
    go_wp2
    go_ret2
    exact resc_none _ _ _ rfl (Below.refl _ _)
  | cons x t =>
    obtain ⟨a, c, rfl⟩ := hr.len
    obtain ⟨hn, hc, g, off, rfl, hcell, _⟩ := hr.cons
    have hx : x ≠ 120 := hx
    rw [List.length_cons] at hs ⊢
    have hl : ¬ ((t.length + 1 : Nat) : Int) = 0 := by omega
    clear hr hn hc
    rcases one_letter x with rfl | rfl | rfl | rfl | rfl | rfl | rfl | rfl | rfl | rfl | rfl | rfl | rfl | rfl | rfl | h
    all_goals try (exact absurd rfl hx)
    all_goals clear hx
    all_goals first
      | (go_enter Try.func21, Try.ntmps21
         go_wp2
         go_ret2
         first
           | exact resc_letter _ _ _ rfl
           | exact resc_two _ _ _ _ rfl)
      | (have H := Lib.hid (one_none (t := t) h)
         obtain ⟨h1, h2, h3, h4, h5, h6, h7, h8, h9, h10, h11, h12, h13, h14, h15⟩ := h
         go_enter Try.func21, Try.ntmps21
         go_wp2
         go_ret2
         exact resc_none _ _ _ H.out (Below.refl _ _))
theorem one_short (g off n c : Nat) (w : World) (h : n = 1 ∨ n = 2) (c0 : w.cell? ⟨g, off, none⟩ = some (.int .u8 120)) : Calls Try.prog 21 #[.slice (some ⟨g, off, none⟩) n c] w fun e w' => e = .returned (.tuple #[.slice none 0 0, .int .i64 0]) ∧ Below w.heap.size w w' := by
  rcases h with rfl | rfl
  · go_enter Try.func21, Try.ntmps21
    go_wp2
    go_ret2
    exact ⟨rfl, Below.refl _ _⟩
  · go_enter Try.func21, Try.ntmps21
    go_wp2
    go_ret2
    exact ⟨rfl, Below.refl _ _⟩
set_option maxHeartbeats 2000000 in
theorem one_xn (g off n c : Nat) (y z a b : Int) (w : World) (hn : 3 ≤ n) (c0 : w.cell? ⟨g, off, none⟩ = some (.int .u8 120)) (c1 : w.cell? ⟨g, off + 1, none⟩ = some (.int .u8 y)) (c2 : w.cell? ⟨g, off + 2, none⟩ = some (.int .u8 z))
    (hy : Hid (∀ w, Calls Try.prog 29 #[.int .u8 y] w fun e w' => e = .returned (.int .i64 a) ∧ w = w')) (hz : Hid (∀ w, Calls Try.prog 29 #[.int .u8 z] w fun e w' => e = .returned (.int .i64 b) ∧ w = w')) (h : a < 0 ∨ (0 ≤ a ∧ b < 0)) :
    Calls Try.prog 21 #[.slice (some ⟨g, off, none⟩) n c] w fun e w' => e = .returned (.tuple #[.slice none 0 0, .int .i64 0]) ∧ Below w.heap.size w w' := by
  have h0 : ((n : Int) == 0) = false := by rw [beq_eq_false_iff_ne]; omega
  have h3 : (3 : Int) ≤ n := by omega
  have h4 : (1 : Int) < n := by omega
  have h5 : (2 : Int) < n := by omega
  rcases h with h | ⟨h, h'⟩
  · go_enter Try.func21, Try.ntmps21
    go_wp2_with (first
      | (go_at_call 29; (with_reducible refine (hy.out _).mono ?_); rintro e w5 ⟨rfl, rfl⟩)
      | (go_at_call 29; (with_reducible refine (hz.out _).mono ?_); rintro e w5 ⟨rfl, rfl⟩))
    go_ret2
    exact ⟨rfl, Below.refl _ _⟩
  · go_enter Try.func21, Try.ntmps21
    go_wp2_with (first
      | (go_at_call 29; (with_reducible refine (hy.out _).mono ?_); rintro e w5 ⟨rfl, rfl⟩)
      | (go_at_call 29; (with_reducible refine (hz.out _).mono ?_); rintro e w5 ⟨rfl, rfl⟩))
    go_ret2
    exact ⟨rfl, Below.refl _ _⟩
set_option maxHeartbeats 2000000 in
theorem one_xx (g off n c : Nat) (y z a b : Int) (w : World) (hn : 3 ≤ n) (c0 : w.cell? ⟨g, off, none⟩ = some (.int .u8 120)) (c1 : w.cell? ⟨g, off + 1, none⟩ = some (.int .u8 y)) (c2 : w.cell? ⟨g, off + 2, none⟩ = some (.int .u8 z))
    (hy : Hid (∀ w, Calls Try.prog 29 #[.int .u8 y] w fun e w' => e = .returned (.int .i64 a) ∧ w = w')) (hz : Hid (∀ w, Calls Try.prog 29 #[.int .u8 z] w fun e w' => e = .returned (.int .i64 b) ∧ w = w')) (ha : 0 ≤ a) (ha' : a ≤ 15) (hb : 0 ≤ b) (hb' : b ≤ 15) :
    Calls Try.prog 21 #[.slice (some ⟨g, off, none⟩) n c] w fun e w' => e = .returned (.tuple #[.slice (some ⟨w.heap.size, 0, none⟩) 1 1, .int .i64 3]) ∧ w' = (w.alloc (.cells #[.int .u8 (16 * a + b)] 5)).drew := by
  have h0 : ((n : Int) == 0) = false := by rw [beq_eq_false_iff_ne]; omega
  have h3 : (3 : Int) ≤ n := by omega
  have h4 : (1 : Int) < n := by omega
  have h5 : (2 : Int) < n := by omega
  have i1 : IntKind.i64.wrap (16 * a) = 16 * a := by simp only [IntKind.wrap_i64]; omega
  have i2 : IntKind.i64.wrap (16 * a + b) = 16 * a + b := by simp only [IntKind.wrap_i64]; omega
  have i3 : IntKind.u8.wrap (16 * a + b) = 16 * a + b := by simp only [IntKind.wrap_u8]; omega
  go_enter Try.func21, Try.ntmps21
  go_wp2_with (first
    | (go_at_call 29; (with_reducible refine (hy.out _).mono ?_); rintro e w5 ⟨rfl, rfl⟩)
    | (go_at_call 29; (with_reducible refine (hz.out _).mono ?_); rintro e w5 ⟨rfl, rfl⟩))
  go_region_with (first
    | (go_at_call 29; (with_reducible refine (hy.out _).mono ?_); rintro e w5 ⟨rfl, rfl⟩)
    | (go_at_call 29; (with_reducible refine (hz.out _).mono ?_); rintro e w5 ⟨rfl, rfl⟩))
  all_goals
    (go_wp2; go_ret2; exact ⟨rfl, rfl⟩)
theorem one_any (v : Value) (s : List Int) (w : World) (hr : Rd w .u8 v s) (hb : Byt s) (hs : s.length ≤ 1000000) : Calls Try.prog 21 #[v] w fun e w' => REscOk s w e w' := by
  by_cases hx : s.getD 0 0 = 120
  · match s, hr, hb, hs, hx with
    | [x], hr, hb, hs, hx =>
      have hx : x = 120 := hx
      subst hx
      obtain ⟨a, c, rfl⟩ := hr.len
      obtain ⟨hn, hc, g, off, rfl, hcell, _⟩ := hr.cons
      refine (one_short g off _ c w (.inl rfl) hcell).mono ?_
      rintro e w' ⟨rfl, h⟩
      exact resc_none _ _ _ rfl h
    | [x, y], hr, hb, hs, hx =>
      have hx : x = 120 := hx
      subst hx
      obtain ⟨a, c, rfl⟩ := hr.len
      obtain ⟨hn, hc, g, off, rfl, hcell, _⟩ := hr.cons
      refine (one_short g off _ c w (.inr rfl) hcell).mono ?_
      rintro e w' ⟨rfl, h⟩
      exact resc_none _ _ _ rfl h
    | x :: y :: z :: t, hr, hb, hs, hx =>
      have hx : x = 120 := hx
      subst hx
      obtain ⟨a, c, rfl⟩ := hr.len
      obtain ⟨g, off, rfl, c0, c1, c2⟩ := hr.three
      have by_ := hb y (by simp)
      have bz := hb z (by simp)
      have ry := hexV_range y
      have rz := hexV_range z
      have hn : 3 ≤ (120 :: y :: z :: t).length := by simp
      by_cases hyz : 0 ≤ hexV y ∧ 0 ≤ hexV z
      · refine (one_xx g off _ c y z _ _ w hn c0 c1 c2 (Lib.hid (rhex_c y by_.1 by_.2)) (Lib.hid (rhex_c z bz.1 bz.2)) hyz.1 ry.2 hyz.2 rz.2).mono ?_
        rintro e w' ⟨rfl, rfl⟩
        unfold REscOk
        rw [one_x, if_pos hyz]
        exact ⟨((Below.refl _ _).alloc (Nat.le_refl _) _).drew, _, rfl, (Rd.made1 w _ _).drewN 1⟩
      · refine (one_xn g off _ c y z _ _ w hn c0 c1 c2 (Lib.hid (rhex_c y by_.1 by_.2)) (Lib.hid (rhex_c z bz.1 bz.2)) (by omega)).mono ?_
        rintro e w' ⟨rfl, h⟩
        exact resc_none _ _ _ (by rw [one_x, if_neg hyz]) h
  · exact one_c v s w hr hs hx
end Go.Proofs.Ytocmgdolinajmaa
