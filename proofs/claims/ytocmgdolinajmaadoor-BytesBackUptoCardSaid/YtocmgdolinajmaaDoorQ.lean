/- Escapes by two hex digits. -/
import Derived.Test.YtocmgdolinajmaaDoorP
import Derived.Deep.RegionWith
import Derived.RegionDies
namespace Go.Proofs.YtocmgdolinajmaaDoor
set_option linter.unusedVariables false
set_option linter.unusedSimpArgs false
open Go.RowKit

theorem Rd.three {w : World} {a : Option Addr} {n c : Nat} {x y z : Int} {t : List Int} (h : Rd w .u8 (.slice a n c) (x :: y :: z :: t)) : ∃ g off, a = some ⟨g, off, none⟩ ∧ w.cell? ⟨g, off, none⟩ = some (.int .u8 x) ∧ w.cell? ⟨g, off + 1, none⟩ = some (.int .u8 y) ∧ w.cell? ⟨g, off + 2, none⟩ = some (.int .u8 z) := by
  obtain ⟨a', c', e, hc, hr⟩ := h
  injection e with e1 e2 e3
  subst e1 e2 e3
  rcases hr with h | ⟨g, off, rfl, hcl⟩
  · simp at h
  · exact ⟨g, off, rfl, hcl 0 (by simp), hcl 1 (by simp), hcl 2 (by simp)⟩
theorem or_hex {a b : Int} (ha : 0 ≤ a) (ha' : a ≤ 15) (hb : 0 ≤ b) (hb' : b ≤ 15) : bits .or .u8 (IntKind.u8.wrap (a * 16)) b = 16 * a + b := by
  have key : ∀ i j : Fin 16, bits .or .u8 (IntKind.u8.wrap ((i.val : Int) * 16)) (j.val : Int) = 16 * (i.val : Int) + (j.val : Int) := by decide
  have := key ⟨a.toNat, by omega⟩ ⟨b.toNat, by omega⟩
  simp only at this
  rw [show ((a.toNat : Nat) : Int) = a by omega, show ((b.toNat : Nat) : Int) = b by omega] at this
  exact this
set_option maxHeartbeats 2000000 in
theorem escape_xx (g off n c : Nat) (y z : Int) (w : World) (hn : 3 ≤ n) (c0 : w.cell? ⟨g, off, none⟩ = some (.int .u8 120)) (c1 : w.cell? ⟨g, off + 1, none⟩ = some (.int .u8 y)) (c2 : w.cell? ⟨g, off + 2, none⟩ = some (.int .u8 z))
    (a b : Int) (hy : Hid (∀ w, Calls Tryd.prog 44 #[.int .u8 y] w fun e w' => e = .returned (.int .u8 a) ∧ w = w')) (hz : Hid (∀ w, Calls Tryd.prog 44 #[.int .u8 z] w fun e w' => e = .returned (.int .u8 b) ∧ w = w')) :
    Calls Tryd.prog 32 #[.slice (some ⟨g, off, none⟩) n c] w fun e w' => e = .returned (.tuple #[.slice (some ⟨w.heap.size, 0, none⟩) 1 1, .int .i64 3]) ∧ w' = (w.alloc (.cells #[.int .u8 (bits .or .u8 (IntKind.u8.wrap (a * 16)) b)] 5)).drew := by
  have h0 : ((n : Int) == 0) = false := by rw [beq_eq_false_iff_ne]; omega
  have h3 : (2 : Int) < n := by omega
  have h4 : (1 : Int) < n := by omega
  go_enter Tryd.func32, Tryd.ntmps32
  go_wp2
  go_region_with (first
    | (go_at_call 44; (with_reducible refine (hy.out _).mono ?_); rintro e w5 ⟨rfl, rfl⟩)
    | (go_at_call 44; (with_reducible refine (hz.out _).mono ?_); rintro e w5 ⟨rfl, rfl⟩))
  all_goals
    (go_wp2; go_ret2; exact ⟨rfl, rfl⟩)
set_option maxHeartbeats 2000000 in
theorem escape_xn (g off n c : Nat) (y z : Int) (w : World) (hn : 3 ≤ n) (c0 : w.cell? ⟨g, off, none⟩ = some (.int .u8 120)) (c1 : w.cell? ⟨g, off + 1, none⟩ = some (.int .u8 y)) (c2 : w.cell? ⟨g, off + 2, none⟩ = some (.int .u8 z))
    (a : Int) (hy : Hid (∀ w, Calls Tryd.prog 44 #[.int .u8 y] w fun e w' => e = .returned (.int .u8 a) ∧ w = w')) (hz : Hid (∀ w, Calls Tryd.prog 44 #[.int .u8 z] w fun e w' => e = .panicked Bad ∧ w = w')) :
    Calls Tryd.prog 32 #[.slice (some ⟨g, off, none⟩) n c] w fun e w' => e = .panicked Bad ∧ Below w.heap.size w w' := by
  have h0 : ((n : Int) == 0) = false := by rw [beq_eq_false_iff_ne]; omega
  have h3 : (2 : Int) < n := by omega
  have h4 : (1 : Int) < n := by omega
  go_enter Tryd.func32, Tryd.ntmps32
  go_wp2
  go_region_dies
  all_goals
    go_wp2_with (go_at_call 44; (with_reducible refine (hy.out _).mono ?_); rintro e w5 ⟨rfl, rfl⟩)
    refine wpAny_take (i := 4) (v := .int .u8 (IntKind.u8.wrap (a * 16))) rfl (by kernel_rfl) (by kernel_rfl) (by kernel_rfl) (fun _ _ _ h => h) (Or.inl ⟨by rfl, fun w => ?_⟩) ?_
    · go_simp
  · refine wpAny_ready (rs := [7]) (by kernel_rfl) (by simp) (AllReady.cons rfl (fun K hK => ?_) AllReady.nil)
    go_simp
    refine hK _ _ ?_
    clear hK K
    refine wpAny_ready (rs := [8]) (by kernel_rfl) (by simp) (AllReady.cons rfl (fun K hK => ?_) AllReady.nil)
    go_simp
    go_wp2_with (go_at_call 44; (with_reducible refine (hz.out _).mono ?_); rintro e w5 ⟨rfl, rfl⟩)
    exact ⟨rfl, rfl, (Below.refl _ _).drew⟩
  all_goals
    refine wpAny_ready (rs := [8]) (by kernel_rfl) (by simp) (AllReady.cons rfl (fun K hK => ?_) AllReady.nil)
    go_simp
    go_wp2_with (go_at_call 44; (with_reducible refine (hz.out _).mono ?_); rintro e w5 ⟨rfl, rfl⟩)
    exact ⟨rfl, rfl, (Below.refl _ _).drew⟩
set_option maxHeartbeats 2000000 in
theorem escape_nx (g off n c : Nat) (y z : Int) (w : World) (hn : 3 ≤ n) (c0 : w.cell? ⟨g, off, none⟩ = some (.int .u8 120)) (c1 : w.cell? ⟨g, off + 1, none⟩ = some (.int .u8 y)) (c2 : w.cell? ⟨g, off + 2, none⟩ = some (.int .u8 z))
    (b : Int) (hy : Hid (∀ w, Calls Tryd.prog 44 #[.int .u8 y] w fun e w' => e = .panicked Bad ∧ w = w')) (hz : Hid (∀ w, Calls Tryd.prog 44 #[.int .u8 z] w fun e w' => e = .returned (.int .u8 b) ∧ w = w')) :
    Calls Tryd.prog 32 #[.slice (some ⟨g, off, none⟩) n c] w fun e w' => e = .panicked Bad ∧ Below w.heap.size w w' := by
  have h0 : ((n : Int) == 0) = false := by rw [beq_eq_false_iff_ne]; omega
  have h3 : (2 : Int) < n := by omega
  have h4 : (1 : Int) < n := by omega
  go_enter Tryd.func32, Tryd.ntmps32
  go_wp2
  go_region_dies
  all_goals
    go_wp2_with (go_at_call 44; (with_reducible refine (hy.out _).mono ?_); rintro e w5 ⟨rfl, rfl⟩)
    exact ⟨rfl, rfl, (Below.refl _ _).drew⟩
set_option maxHeartbeats 2000000 in
theorem escape_nn (g off n c : Nat) (y z : Int) (w : World) (hn : 3 ≤ n) (c0 : w.cell? ⟨g, off, none⟩ = some (.int .u8 120)) (c1 : w.cell? ⟨g, off + 1, none⟩ = some (.int .u8 y)) (c2 : w.cell? ⟨g, off + 2, none⟩ = some (.int .u8 z))
    (hy : Hid (∀ w, Calls Tryd.prog 44 #[.int .u8 y] w fun e w' => e = .panicked Bad ∧ w = w')) (hz : Hid (∀ w, Calls Tryd.prog 44 #[.int .u8 z] w fun e w' => e = .panicked Bad ∧ w = w')) :
    Calls Tryd.prog 32 #[.slice (some ⟨g, off, none⟩) n c] w fun e w' => e = .panicked Bad ∧ Below w.heap.size w w' := by
  have h0 : ((n : Int) == 0) = false := by rw [beq_eq_false_iff_ne]; omega
  have h3 : (2 : Int) < n := by omega
  have h4 : (1 : Int) < n := by omega
  go_enter Tryd.func32, Tryd.ntmps32
  go_wp2
  go_region_dies
  all_goals
    go_wp2_with (go_at_call 44; (with_reducible refine (hy.out _).mono ?_); rintro e w5 ⟨rfl, rfl⟩)
    exact ⟨rfl, rfl, (Below.refl _ _).drew⟩
theorem escape_short (g off n c : Nat) (w : World) (h : n = 1 ∨ n = 2) (c0 : w.cell? ⟨g, off, none⟩ = some (.int .u8 120)) : Calls Tryd.prog 32 #[.slice (some ⟨g, off, none⟩) n c] w fun e w' => e = .panicked Bad ∧ Below w.heap.size w w' := by
  rcases h with rfl | rfl
  · go_enter Tryd.func32, Tryd.ntmps32
    go_wp2
    exact ⟨rfl, rfl, Below.refl _ _⟩
  · go_enter Tryd.func32, Tryd.ntmps32
    go_wp2
    exact ⟨rfl, rfl, Below.refl _ _⟩
theorem one_x {y z : Int} {t : List Int} : oneV (120 :: y :: z :: t) = if 0 ≤ hexV y ∧ 0 ≤ hexV z then ([16 * hexV y + hexV z], 3) else ([], 0) := by
  unfold oneV
  simp
theorem escape_any (v : Value) (s : List Int) (w : World) (hr : Rd w .u8 v s) (hb : Byt s) (hs : s.length ≤ 1000000) : Calls Tryd.prog 32 #[v] w fun e w' => EscOk s w e w' := by
  by_cases hx : s.getD 0 0 = 120
  · match s, hr, hb, hs, hx with
    | [x], hr, hb, hs, hx =>
      have hx : x = 120 := hx
      subst hx
      obtain ⟨a, c, rfl⟩ := hr.len
      obtain ⟨hn, hc, g, off, rfl, hcell, _⟩ := hr.cons
      refine (escape_short g off _ c w (.inl rfl) hcell).mono ?_
      rintro e w' ⟨rfl, h⟩
      exact ⟨h, .inr ⟨rfl, rfl⟩⟩
    | [x, y], hr, hb, hs, hx =>
      have hx : x = 120 := hx
      subst hx
      obtain ⟨a, c, rfl⟩ := hr.len
      obtain ⟨hn, hc, g, off, rfl, hcell, _⟩ := hr.cons
      refine (escape_short g off _ c w (.inr rfl) hcell).mono ?_
      rintro e w' ⟨rfl, h⟩
      exact ⟨h, .inr ⟨rfl, rfl⟩⟩
    | x :: y :: z :: t, hr, hb, hs, hx =>
      have hx : x = 120 := hx
      subst hx
      obtain ⟨a, c, rfl⟩ := hr.len
      obtain ⟨g, off, rfl, c0, c1, c2⟩ := hr.three
      have by_ := hb y (by simp)
      have bz := hb z (by simp)
      have ry := hexV_range y
      have rz := hexV_range z
      have hn : 3 ≤ (120 :: y :: z :: t).length := by simp
      by_cases hy : 0 ≤ hexV y
      · by_cases hz : 0 ≤ hexV z
        · refine (escape_xx g off _ c y z w hn c0 c1 c2 _ _ (Lib.hid (hex_yes y by_.1 by_.2 hy)) (Lib.hid (hex_yes z bz.1 bz.2 hz))).mono ?_
          rintro e w' ⟨rfl, rfl⟩
          unfold EscOk
          rw [one_x, if_pos ⟨hy, hz⟩]
          refine ⟨((Below.refl _ _).alloc (Nat.le_refl _) _).drew, .inl ⟨_, rfl, ?_, show (3 : Nat) ≠ 0 by decide⟩⟩
          rw [or_hex hy ry.2 hz rz.2]
          exact (Rd.made1 w _ _).drewN 1
        · refine (escape_xn g off _ c y z w hn c0 c1 c2 _ (Lib.hid (hex_yes y by_.1 by_.2 hy)) (Lib.hid (hex_no z bz.1 bz.2 (by omega)))).mono ?_
          rintro e w' ⟨rfl, h⟩
          exact ⟨h, .inr ⟨rfl, by rw [one_x, if_neg (fun h => hz h.2)]⟩⟩
      · by_cases hz : 0 ≤ hexV z
        · refine (escape_nx g off _ c y z w hn c0 c1 c2 _ (Lib.hid (hex_no y by_.1 by_.2 (by omega))) (Lib.hid (hex_yes z bz.1 bz.2 hz))).mono ?_
          rintro e w' ⟨rfl, h⟩
          exact ⟨h, .inr ⟨rfl, by rw [one_x, if_neg (fun h => hy h.1)]⟩⟩
        · refine (escape_nn g off _ c y z w hn c0 c1 c2 (Lib.hid (hex_no y by_.1 by_.2 (by omega))) (Lib.hid (hex_no z bz.1 bz.2 (by omega)))).mono ?_
          rintro e w' ⟨rfl, h⟩
          exact ⟨h, .inr ⟨rfl, by rw [one_x, if_neg (fun h => hy h.1)]⟩⟩
  · exact escape_c v s w hr hb hs hx
end Go.Proofs.YtocmgdolinajmaaDoor
