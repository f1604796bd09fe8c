/- The law of nothing. -/
import Derived.Test.YticjepfcgfdmgaaF
import Derived.Test.YticjepfcgfdmgaaG
namespace Go.Proofs.Yticjepfcgfdmgaa
set_option linter.unusedVariables false
set_option linter.unusedSimpArgs false
open Go.RowKit

set_option maxHeartbeats 8000000 in
set_option maxRecDepth 100000 in
theorem lnothing_walk (v : Value) (l : List (Int × Int × Int)) (w : World) (hr : Rd3 w v l) (hwf : ∀ x ∈ l, -9223372036854775808 ≤ x.2.1 ∧ x.2.1 ≤ 9223372036854775807) : Calls Try.prog 6 #[v] w fun e w' => e = .returned (.bool true) ∧ Below w.heap.size w w' := by
  have HR := Lib.hid hr
  obtain ⟨a, c, rfl, hc, _⟩ := hr
  obtain ⟨L, hL⟩ : ∃ L, l.length = L := ⟨_, rfl⟩
  have HL := Lib.hid hL
  have HW := Lib.hid hwf
  rw [hL] at HR hc ⊢
  clear hL hwf
  have AW := Lib.hid (fun w => awake_c w)
  by_cases h4 : (300 : Int) < L
  · go_enter Try.func6, Try.ntmps6
    go_wp2_with (go_at_call 7; (with_reducible refine (AW.out _).mono ?_); rintro e w3 ⟨rfl, hb3⟩)
    go_ret
    exact ⟨rfl, hb3⟩
  · have hl3 : L ≤ 300 := by omega
    have Z0 : Hid (IStk (w.alloc (.cells #[.slice none 0 0, .int .i64 0, .int .i64 0, .int .i64 0] 51 (0, 0))) w.heap.size w.heap.size (.slice none 0 0) [] 0 0 0) :=
      Lib.hid ⟨heap_alloc_new w _, Nat.le_refl _, World.ownsRow_nil _ _ _ _⟩
    go_enter Try.func6, Try.ntmps6
    go_wp2_with fail
    go_loopw [5] (fun x wr => ∃ (i : Nat), i ≤ L ∧ x = .int .i64 i ∧ Below w.heap.size w wr ∧ Hid (IStk wr w.heap.size w.heap.size (.slice none 0 0) [] 0 0 0)) (fun x _ => L - (intOf x).toNat)
    case atStart => exact ⟨0, Nat.zero_le _, rfl, (Below.refl _ _).alloc (Nat.le_refl _) _, Z0⟩
    case round =>
      obtain ⟨i, hi, rfl, hbw, HS⟩ := hrel
      by_cases hlt : i < L
      · obtain ⟨g, off, rfl, k0, k1, k2⟩ := (HR.out.below hbw).at_ (i := i) (by have := HL.out; omega)
        have hx := HW.out (l.getD i (0, 0, 0)) (by have := HL.out; rw [List.getD_eq_getElem?_getD, List.getElem?_eq_getElem (by omega)]; simp)
        obtain ⟨⟨K, X, Y⟩, hk⟩ : ∃ k, l.getD i (0, 0, 0) = k := ⟨_, rfl⟩
        rw [hk] at k0 k1 k2 hx
        clear hk
        have hbs : w.heap.size < wr.heap.size := HS.out.lt
        obtain ⟨W, hW⟩ : ∃ W, wr.alloc (.cells #[.int .i64 K, .int .i64 X, .int .i64 Y] 42) = W := ⟨_, rfl⟩
        have bA : Below wr.heap.size wr W := hW ▸ (Below.refl _ _).alloc (Nat.le_refl _) _
        have XA : W.heap[wr.heap.size]? = some (.cells #[.int .i64 K, .int .i64 X, .int .i64 Y] 42 (0, 0)) := hW ▸ heap_alloc_new wr _
        have SA := Lib.hid (HS.out.below bA)
        have hbA := hbw.trans (bA.mono hbw.size)
        have hi2 : X < 0 ∨ (0 ≤ X ∧ (([] : List Value).length : Int) ≤ X) := by simp; omega
        have PK := Lib.hid (peek_no _ _ _ _ _ _ X _ W SA.out hi2)
        have CZ : Hid (Calls Try.prog 20 #[.pointer (some ⟨w.heap.size, 0, none⟩), .int .i64 X] W fun e w' => e = .returned (.tuple #[]) ∧ (w'.cell? ⟨wr.heap.size, 1, none⟩ = some (.int .i64 X) ∧ w'.cell? ⟨wr.heap.size, 2, none⟩ = some (.int .i64 Y)) ∧ Hid (w'.heap[wr.heap.size]? = some (.cells #[.int .i64 K, .int .i64 X, .int .i64 Y] 42 (0, 0))) ∧ Hid (IStk w' w.heap.size w.heap.size (.slice none 0 0) [] 0 0 0) ∧ Below w.heap.size w w' ∧ wr.heap.size < w'.heap.size) := by
          refine Lib.hid ((cut_zero _ X _ W SA.out hx).mono ?_)
          rintro e w' ⟨rfl, s2, f2⟩
          have x2 := (f2.block wr.heap.size (by rw [← hW]; simp) (by omega) (by simp [Value.ownBlock])).trans XA
          have z := f2.size
          exact ⟨rfl, x_cells x2, Lib.hid x2, Lib.hid s2, hbA.trans (f2.below SA.out hbA.size), by rw [← hW] at z; simp at z; omega⟩
        have PN : Hid (∀ w1, w1.heap[wr.heap.size]? = some (.cells #[.int .i64 K, .int .i64 X, .int .i64 Y] 42 (0, 0)) → wr.heap.size < w1.heap.size → IStk w1 w.heap.size w.heap.size (.slice none 0 0) [] 0 0 0 → Below w.heap.size w w1 → Calls Try.prog 9 #[.pointer none, .int .i64 Y] w1 fun e w' => e = .returned (.int .i64 0) ∧ (w'.cell? ⟨wr.heap.size, 1, none⟩ = some (.int .i64 X) ∧ w'.cell? ⟨wr.heap.size, 2, none⟩ = some (.int .i64 Y)) ∧ Hid (IStk w' w.heap.size w.heap.size (.slice none 0 0) [] 0 0 0) ∧ Below w.heap.size w w') := by
          refine Lib.hid fun w1 x1 z1 s1 b1 => (push_nil Y w1).mono ?_
          rintro e w' ⟨rfl, hb⟩
          exact ⟨rfl, x_cells ((hb.block _ z1).trans x1), Lib.hid (s1.below hb), below_then b1 b1.size hb⟩
        have qa := x_cells XA
        obtain ⟨qa1, qa2⟩ := qa
        clear hi2 XA bA
        go_wp2_with (first
          | (go_at_call 18; (with_reducible refine (pop_nil _).mono ?_); rintro e w' ⟨rfl, rfl⟩; (try rw [hW]))
          | (go_at_call 19; (with_reducible refine (PK.out).mono ?_); rintro e w' ⟨rfl, rfl⟩)
          | (go_at_call 20; (with_reducible refine (cut_nil _ _).mono ?_); rintro e w' ⟨rfl, rfl⟩)
          | (go_at_call 20; (with_reducible refine (CZ.out).mono ?_); rintro e w2 ⟨rfl, ⟨q1, q2⟩, X2, S2, hb2, hz2⟩)
          | (go_at_call 9; (with_reducible refine (PN.out _ X2.out hz2 S2.out hb2).mono ?_); rintro e w3 ⟨rfl, ⟨p1, p2⟩, S3, hb3⟩)
          | (go_at_call 9; (with_reducible refine (push_full _ _ _ _ _ _ (.int .i64 Y) _ w3 S3.out (by decide) (by decide) (by decide)).mono ?_); rintro e w4 ⟨rfl, hb34⟩; have S4 : Hid (IStk w4 w.heap.size w.heap.size (.slice none 0 0) [] 0 0 0) := Lib.hid (Stk.below S3.out hb34); have hb4 := below_then hb3 hb3.size hb34)
          | (go_at_call 21; (with_reducible refine (need_nil _ _ _).mono ?_); rintro e w' ⟨rfl, rfl⟩)
          | (go_at_call 22; (with_reducible refine (roll_nil _ _).mono ?_); rintro e w' ⟨rfl, rfl⟩)
          | (go_at_call 23; (with_reducible refine (poke_nil _ _ _).mono ?_); rintro e w' ⟨rfl, rfl⟩)
          | (go_at_call 17; (with_reducible refine (depth_nil _).mono ?_); rintro e w' ⟨rfl, rfl⟩)
          | (go_at_call 17; (with_reducible refine (depth_c _ _ _ _ _ _ _ _ S4.out).mono ?_); rintro e w' ⟨rfl, rfl⟩)
          | (go_at_call 10; (with_reducible refine (all_nil _).mono ?_); rintro e w' ⟨rfl, rfl⟩)
          | (go_at_call 10; refine (all_c _ _ [] _ _ _ _ w4 S4.out (by decide)).mono ?_; rintro e w5 ⟨u, rfl, ho, hb45⟩; obtain ⟨a5, c5, rfl, _⟩ := own_form ho; have S5 : Hid (IStk w5 w.heap.size w.heap.size (.slice none 0 0) [] 0 0 0) := Lib.hid (Stk.below S4.out hb45); have hb5 := below_then hb4 hb4.size hb45; clear ho))
        go_roundw
        case rel => exact ⟨i + 1, by omega, by go_num, hb5, S5⟩
        case measure => simp [intOf]; omega
      · go_wp2_with (go_at_call 7; (with_reducible refine (AW.out _).mono ?_); rintro e w3 ⟨rfl, hb3⟩)
        go_ret
        exact ⟨rfl, below_then hbw hbw.size hb3⟩
end Go.Proofs.Yticjepfcgfdmgaa
