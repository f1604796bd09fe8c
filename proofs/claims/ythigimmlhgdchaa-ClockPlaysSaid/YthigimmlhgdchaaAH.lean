/- A step on both clocks, the walk. -/
import Derived.Test.YthigimmlhgdchaaAG
namespace Go.Proofs.Ythigimmlhgdchaa
set_option linter.unusedVariables false
set_option linter.unusedSimpArgs false
open Go.RowKit

section
variable {w : World} {b b2 : Nat} {s t : Int} {R : List Ev}
theorem step_one {w1 w2 : World} {t1 : Int} {R1 : List Ev} (h : DB w b b2 s t R) (f : Fn b b2 w w1) (g : Fb b2 w1 w2) (p : Pk b2 w1 b s t1 R1) (r : Rc w2 b2 s t1 R1) (l : Lim t1 R1) : ∀ n, Step w (w2.drewN n) b b2 s := by
  intro n
  refine ⟨below_drewN (below_two f g h.2.2.1 (Nat.le_of_lt h.1.lt)) n, t1, R1, DB.below ⟨p.fb g h.2.2.1, r, h.2.2.1, l⟩ (below_drewN (Below.refl _ _) n)⟩
end
set_option maxRecDepth 100000 in
set_option maxHeartbeats 8000000 in
theorem does_0 (K n : Int) (c : Bool) (w : World) (b b2 : Nat) (s t : Int) (R : List Ev) (h : DB w b b2 s t R) (hK : K < 1 ∨ 3 < K) :
    Calls Try.prog 17 #[.pointer (some ⟨b, 0, none⟩), .pointer (some ⟨b2, 0, none⟩), .agg #[.int .i64 K, .int .i64 n, .bool c]] w fun e w' => e = .returned (.bool true) ∧ Step w w' b b2 s := by
  have ba : Below w.heap.size w (w.alloc (.cells #[.int .i64 K, .int .i64 n, .bool c] 47)) := (Below.refl _ _).alloc (Nat.le_refl _) _
  have HS : Hid (Step w (w.alloc (.cells #[.int .i64 K, .int .i64 n, .bool c] 47)) b b2 s) := Lib.hid ⟨ba.mono (Nat.le_of_lt h.1.lt), t, R, h.below ba⟩
  have n1 : ¬ K = 1 := by omega
  have n2 : ¬ K = 2 := by omega
  have n3 : ¬ K = 3 := by omega
  clear h hK ba
  go_enter Try.func17, Try.ntmps17
  go_wp2_with fail
  go_ret
  exact ⟨rfl, HS.out⟩
set_option maxRecDepth 100000 in
set_option maxHeartbeats 8000000 in
theorem does_1 (n : Int) (c : Bool) (w : World) (b b2 : Nat) (s t : Int) (R : List Ev) (h : DB w b b2 s t R) :
    Calls Try.prog 17 #[.pointer (some ⟨b, 0, none⟩), .pointer (some ⟨b2, 0, none⟩), .agg #[.int .i64 1, .int .i64 n, .bool c]] w fun e w' => e = .returned (.bool true) ∧ Step w w' b b2 s := by
  obtain ⟨A, hA⟩ : ∃ W, (w.alloc (.cells #[.int .i64 1, .int .i64 n, .bool c] 47)).drew = W := ⟨_, rfl⟩
  have ba : Below w.heap.size w (w.alloc (.cells #[.int .i64 1, .int .i64 n, .bool c] 47)).drew := below_drewN ((Below.refl _ _).alloc (Nat.le_refl _) _) 1
  have sb : SB (w.alloc (.cells #[.int .i64 1, .int .i64 n, .bool c] 47)).drew w.heap.size 1 n c := sb_new w 1 n c
  have hNs : w.heap.size < (w.alloc (.cells #[.int .i64 1, .int .i64 n, .bool c] 47)).drew.heap.size := by show w.heap.size < (w.alloc _).heap.size; simp
  have hD := h.below ba
  have hbb := h.2.2.1
  have hb2 := h.2.1.lt
  obtain ⟨l1, l2, l3, l4⟩ := h.2.2.2
  have key : ∀ (an t1 : Int), (∀ v w, Clk 54 w b s t v → Calls Try.prog 14 #[.pointer (some ⟨b, 0, none⟩), .int .i64 n] w fun e w' => e = .returned (.int .i64 an) ∧ Clk 54 w' b s t1 v ∧ Fb b w w') →
      (∀ v w, Clk 49 w b2 s t v → Calls Try.prog 15 #[.pointer (some ⟨b2, 0, none⟩), .int .i64 n] w fun e w' => e = .returned (.int .i64 an) ∧ Clk 49 w' b2 s t1 v ∧ Fb b2 w w') → Lim t1 R →
      Calls Try.prog 17 #[.pointer (some ⟨b, 0, none⟩), .pointer (some ⟨b2, 0, none⟩), .agg #[.int .i64 1, .int .i64 n, .bool c]] w fun e w' => e = .returned (.bool true) ∧ Step w w' b b2 s := by
    intro an t1 hp hr hl
    have WA : Hid (Calls Try.prog 14 #[.pointer (some ⟨b, 0, none⟩), .int .i64 n] (w.alloc (.cells #[.int .i64 1, .int .i64 n, .bool c] 47)).drew fun e w1 => e = .returned (.int .i64 an) ∧ w1.cell? ⟨w.heap.size, 1, none⟩ = some (.int .i64 n) ∧ Hid (Calls Try.prog 15 #[.pointer (some ⟨b2, 0, none⟩), .int .i64 n] w1 fun e w2 => e = .returned (.int .i64 an) ∧ Hid (∀ k, Step w (w2.drewN k) b b2 s))) := by
      obtain ⟨a, cc, l', h1, hx⟩ := hD.1
      refine Lib.hid ((hp _ _ h1).mono ?_)
      rintro e w1 ⟨rfl, k1, k2⟩
      have p1 : Pk b2 w1 b s t1 R := ⟨a, cc, l', k1, ownsRow_same hx.1 (fun g hg => k2.block g (ownsRow_base hx.1 g hg).2 (by have := (ownsRow_base hx.1 g hg).1; omega)), hx.2⟩
      have fA : Fn b b2 w w1 := (Fn.of_below ba).trans (fn_of_fb k2 hbb)
      have r1 : Rc w1 b2 s t R := hD.2.1.fn (fn_of_fb k2 hbb)
      refine ⟨rfl, (SB.keep sb (k2.block w.heap.size hNs (by omega))).2.1, ?_⟩
      obtain ⟨a2, c2, g1, g2, g3⟩ := r1
      refine Lib.hid ((hr _ _ g1).mono ?_)
      rintro e w2 ⟨rfl, m1, m2⟩
      exact ⟨rfl, Lib.hid (step_one h fA m2 p1 ⟨a2, c2, m1, g2.fb m2 g3, g3⟩ hl)⟩
    clear h hD sb ba hNs hp hr hl hA l1 l2 l3 l4
    go_enter Try.func17, Try.ntmps17
    go_wp2_with fail
    go_region_with (first
      | (go_at_call 14; (with_reducible refine (WA.out).mono ?_); rintro e w1 ⟨rfl, z1, WB⟩)
      | (go_at_call 15; (with_reducible refine (WB.out).mono ?_); rintro e w2 ⟨rfl, EN⟩))
    all_goals
      go_wp2_with fail
      go_ret
      exact ⟨rfl, EN.out 0⟩
  by_cases hok : 0 ≤ n ∧ n ≤ 1099511627776 ∧ t + n ≤ 2199023255552
  · exact key 0 (t + n) (fun v w hC => wait_c b s t n v w hC l1 l2 hok.1 hok.2.1 hok.2.2) (fun v w hC => rwait_c b2 s t n v w hC l1 l2 hok.1 hok.2.1 hok.2.2) ⟨by omega, hok.2.2, l3, l4⟩
  · have hbad : n < 0 ∨ 1099511627776 < n ∨ (0 ≤ n ∧ n ≤ 1099511627776 ∧ 2199023255552 < t + n) := by omega
    refine key 1 t (fun v w hC => (wait_bad b s t n v w hC l1 l2 hbad).mono ?_) (fun v w hC => (rwait_bad b2 s t n v w hC l1 l2 hbad).mono ?_) h.2.2.2
    · rintro e w' ⟨rfl, rfl⟩
      exact ⟨rfl, hC, Fb.of_below (Below.refl _ _)⟩
    · rintro e w' ⟨rfl, rfl⟩
      exact ⟨rfl, hC, Fb.of_below (Below.refl _ _)⟩
set_option maxRecDepth 100000 in
set_option maxHeartbeats 8000000 in
theorem does_2 (n : Int) (c : Bool) (w : World) (b b2 : Nat) (s t : Int) (R : List Ev) (h : DB w b b2 s t R) :
    Calls Try.prog 17 #[.pointer (some ⟨b, 0, none⟩), .pointer (some ⟨b2, 0, none⟩), .agg #[.int .i64 2, .int .i64 n, .bool c]] w fun e w' => e = .returned (.bool true) ∧ Step w w' b b2 s := by
  have ba : Below w.heap.size w (w.alloc (.cells #[.int .i64 2, .int .i64 n, .bool c] 47)).drew := below_drewN ((Below.refl _ _).alloc (Nat.le_refl _) _) 1
  have sb : SB (w.alloc (.cells #[.int .i64 2, .int .i64 n, .bool c] 47)).drew w.heap.size 2 n c := sb_new w 2 n c
  have hNs : w.heap.size < (w.alloc (.cells #[.int .i64 2, .int .i64 n, .bool c] 47)).drew.heap.size := by show w.heap.size < (w.alloc _).heap.size; simp
  have hD := h.below ba
  have hbb := h.2.2.1
  have hb2 := h.2.1.lt
  have hl3 := h.2.2.2.2.2.1
  obtain ⟨Z, hZ⟩ : ∃ Z, (if c = true then dropR t R else R) = Z := ⟨_, rfl⟩
  have hzs : (∀ e ∈ Z, e ∈ R) ∧ Z.length ≤ R.length := by
    rw [← hZ]
    split
    · exact dropR_sub t R
    · exact ⟨fun e h => h, Nat.le_refl _⟩
  obtain ⟨du, hdu⟩ : ∃ du, dueV t Z = du := ⟨_, rfl⟩
  have WA : Hid (Calls Try.prog 18 #[.pointer (some ⟨b, 0, none⟩), .bool c] (w.alloc (.cells #[.int .i64 2, .int .i64 n, .bool c] 47)).drew fun e w1 => e = .returned (.bool du) ∧ w1.cell? ⟨w.heap.size, 2, none⟩ = some (.bool c) ∧ Hid (Calls Try.prog 25 #[.pointer (some ⟨b2, 0, none⟩), .bool c] w1 fun e w2 => e = .returned (.bool du) ∧ Hid (∀ k, Step w (w2.drewN k) b b2 s))) := by
    have hp := pready_c b2 b s t R c _ hD.1 hl3
    rw [hZ, hdu] at hp
    refine Lib.hid (hp.mono ?_)
    rintro e w1 ⟨rfl, p1, f1⟩
    refine ⟨rfl, (SB.keep sb (f1.block w.heap.size hNs (.inr (by omega)))).2.2, ?_⟩
    have hr := rready_c b2 s t R c w1 (hD.2.1.fn f1) hl3
    rw [hZ, hdu] at hr
    refine Lib.hid (hr.mono ?_)
    rintro e w2 ⟨rfl, r2, g2⟩
    exact ⟨rfl, Lib.hid (step_one h ((Fn.of_below ba).trans f1) g2 p1 r2 (h.2.2.2.sub hzs))⟩
  clear h hD sb ba hNs hZ hzs hdu hl3
  go_enter Try.func17, Try.ntmps17
  go_wp2_with fail
  go_region_with (first
    | (go_at_call 18; (with_reducible refine (WA.out).mono ?_); rintro e w1 ⟨rfl, z1, WB⟩)
    | (go_at_call 25; (with_reducible refine (WB.out).mono ?_); rintro e w2 ⟨rfl, EN⟩))
  all_goals
    go_wp2_with fail
    go_ret
    exact ⟨by first | rfl | (cases du <;> rfl), EN.out 0⟩
set_option maxRecDepth 100000 in
set_option maxHeartbeats 8000000 in
theorem does_3 (n : Int) (c : Bool) (w : World) (b b2 : Nat) (s t : Int) (R : List Ev) (h : DB w b b2 s t R) :
    Calls Try.prog 17 #[.pointer (some ⟨b, 0, none⟩), .pointer (some ⟨b2, 0, none⟩), .agg #[.int .i64 3, .int .i64 n, .bool c]] w fun e w' => e = .returned (.bool true) ∧ Step w w' b b2 s := by
  have ba : Below w.heap.size w (w.alloc (.cells #[.int .i64 3, .int .i64 n, .bool c] 47)) := (Below.refl _ _).alloc (Nat.le_refl _) _
  have sb : SB (w.alloc (.cells #[.int .i64 3, .int .i64 n, .bool c] 47)) w.heap.size 3 n c := sb_new w 3 n c
  have hNs : w.heap.size < (w.alloc (.cells #[.int .i64 3, .int .i64 n, .bool c] 47)).heap.size := by simp
  have hD := h.below ba
  have hbb := h.2.2.1
  have hb2 := h.2.1.lt
  have hl3 := h.2.2.2.2.2.1
  obtain ⟨Z, hZ⟩ : ∃ Z, (if c = true then dropN R else R) = Z := ⟨_, rfl⟩
  have hzs : (∀ e ∈ Z, e ∈ R) ∧ Z.length ≤ R.length := by
    rw [← hZ]
    split
    · exact dropN_sub R
    · exact ⟨fun e h => h, Nat.le_refl _⟩
  have WA : Hid (∃ (cd : Int) (ok : Bool), Hid (Calls Try.prog 10 #[.pointer (some ⟨b, 0, none⟩), .bool c] (w.alloc (.cells #[.int .i64 3, .int .i64 n, .bool c] 47)) fun e w1 => e = .returned (.tuple #[.int .i64 cd, .bool ok]) ∧ w1.cell? ⟨w.heap.size, 2, none⟩ = some (.bool c) ∧ Hid (Calls Try.prog 26 #[.pointer (some ⟨b2, 0, none⟩), .bool c] w1 fun e w2 => e = .returned (.tuple #[.int .i64 cd, .bool ok]) ∧ Hid (∀ k, Step w (w2.drewN k) b b2 s)))) := by
    have hp := pnext_c b2 b s t R c _ hD.1 hl3 hbb
    rw [hZ] at hp
    cases Z with
    | nil =>
      refine Lib.hid ⟨0, false, Lib.hid (hp.mono ?_)⟩
      rintro e w1 (⟨_, rfl, p1, f1⟩ | ⟨x, R', hx, _⟩)
      · refine ⟨rfl, (SB.keep sb (f1.block w.heap.size hNs (.inr (by omega)))).2.2, ?_⟩
        have hr := rnext_c b2 s t R c w1 (hD.2.1.fn f1) hl3
        rw [hZ] at hr
        refine Lib.hid (hr.mono ?_)
        rintro e w2 (⟨_, rfl, r2, g2⟩ | ⟨x, R', hx, _⟩)
        · exact ⟨rfl, Lib.hid (step_one h ((Fn.of_below ba).trans f1) g2 p1 r2 (h.2.2.2.sub hzs))⟩
        · cases hx
      · cases hx
    | cons x R' =>
      refine Lib.hid ⟨x.2.1, true, Lib.hid (hp.mono ?_)⟩
      rintro e w1 (⟨hx, _⟩ | ⟨y, R2, hx, rfl, p1, f1⟩)
      · cases hx
      · injection hx with e1 e2
        subst e1 e2
        refine ⟨rfl, (SB.keep sb (f1.block w.heap.size hNs (.inr (by omega)))).2.2, ?_⟩
        have hr := rnext_c b2 s t R c w1 (hD.2.1.fn f1) hl3
        rw [hZ] at hr
        refine Lib.hid (hr.mono ?_)
        rintro e w2 (⟨hx, _⟩ | ⟨y, R2, hx, rfl, r2, g2⟩)
        · cases hx
        · injection hx with e1 e2
          subst e1 e2
          exact ⟨rfl, Lib.hid (step_one h ((Fn.of_below ba).trans f1) g2 p1 r2 (h.2.2.2.sub hzs).tail)⟩
  obtain ⟨cd, ok, WA⟩ := WA.out
  clear h hD sb ba hNs hZ hzs hl3
  go_enter Try.func17, Try.ntmps17
  go_wp2_with (first
    | (go_at_call 10; (with_reducible refine (WA.out).mono ?_); rintro e w1 ⟨rfl, z1, WB⟩)
    | (go_at_call 26; (with_reducible refine (WB.out).mono ?_); rintro e w2 ⟨rfl, EN⟩))
  go_ret
  exact ⟨by first | rfl | (cases ok <;> rfl), EN.out 0⟩
theorem does_c (K n : Int) (c : Bool) (w : World) (b b2 : Nat) (s t : Int) (R : List Ev) (h : DB w b b2 s t R) :
    Calls Try.prog 17 #[.pointer (some ⟨b, 0, none⟩), .pointer (some ⟨b2, 0, none⟩), .agg #[.int .i64 K, .int .i64 n, .bool c]] w fun e w' => e = .returned (.bool true) ∧ Step w w' b b2 s := by
  by_cases h0 : K < 1 ∨ 3 < K
  · exact does_0 K n c w b b2 s t R h h0
  · have hk : K = 1 ∨ K = 2 ∨ K = 3 := by omega
    rcases hk with rfl | rfl | rfl
    · exact does_1 n c w b b2 s t R h
    · exact does_2 n c w b b2 s t R h
    · exact does_3 n c w b b2 s t R h
end Go.Proofs.Ythigimmlhgdchaa
