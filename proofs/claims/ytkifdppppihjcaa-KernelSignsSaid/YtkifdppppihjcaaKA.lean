/- Texts KA, for this seat. -/
import Derived.Test.YtkifdppppihjcaaKP
namespace Go.Proofs.Ytkifdppppihjcaa
set_option linter.unusedVariables false
set_option linter.unusedSimpArgs false
open Go.RowKit Go.Shelf Go.ChangeShapes Go.WideShapes SF

/-- What stays: everything that was there at first, and some cells. -/
def Kp (w0 : World) (cs : List (Addr × Value)) (w : World) : Prop := Below w0.heap.size w0 w ∧ ∀ c ∈ cs, w.cell? c.1 = some c.2
theorem kp_start (w : World) : Kp w [] w := ⟨Below.refl _ _, fun c hc => absurd hc (List.not_mem_nil)⟩
theorem kp_from (w : World) (cs : List (Addr × Value)) (h : ∀ c ∈ cs, w.cell? c.1 = some c.2) : Kp w cs w := ⟨Below.refl _ _, h⟩
theorem Kp.next {w0 w w' : World} {cs : List (Addr × Value)} (h : Kp w0 cs w) (b : Below w.heap.size w w') : Kp w0 cs w' :=
  ⟨below_then h.1 h.1.size b, fun c hc => cell_below b (h.2 c hc)⟩
theorem kbt {w w1 w2 : World} (h1 : Below w.heap.size w w1) (h2 : Below w1.heap.size w1 w2) : Below w.heap.size w w2 := below_then h1 h1.size h2
theorem Kp.b {w0 w : World} {cs : List (Addr × Value)} (h : Kp w0 cs w) : Below w0.heap.size w0 w := h.1
theorem Kp.none {w0 w : World} {cs : List (Addr × Value)} (h : Kp w0 cs w) : Kp w0 [] w := ⟨h.1, fun c hc => absurd hc (List.not_mem_nil)⟩
theorem Kp.drew {w0 w : World} {cs : List (Addr × Value)} (h : Kp w0 cs w) : Kp w0 cs w.drew := ⟨h.1.drew, fun c hc => h.2 c hc⟩
/-- A call whose answer is always the same, where some cells hold what they should. -/
abbrev AllC (cs : List (Addr × Value)) (f : FuncId) (args : Array Value) (r : Value) : Prop :=
  ∀ w, (∀ c ∈ cs, w.cell? c.1 = some c.2) → Calls Try.prog f args w fun e w' => e = .returned r ∧ Below w.heap.size w w'
abbrev All (f : FuncId) (args : Array Value) (r : Value) : Prop :=
  ∀ w, Calls Try.prog f args w fun e w' => e = .returned r ∧ Below w.heap.size w w'
theorem in_of {w0 w : World} {cs : List (Addr × Value)} {f : FuncId} {args : Array Value} {r : Value} (h : All f args r) (k : Kp w0 cs w) :
    Calls Try.prog f args w fun e w' => e = .returned r ∧ Kp w0 cs w' := by
  refine (h w).mono ?_
  rintro e w' ⟨rfl, b⟩
  exact ⟨rfl, k.next b⟩
theorem in_ofc {w0 w : World} {cs : List (Addr × Value)} {f : FuncId} {args : Array Value} {r : Value} (h : AllC cs f args r) (k : Kp w0 cs w) :
    Calls Try.prog f args w fun e w' => e = .returned r ∧ Kp w0 cs w' := by
  refine (h w k.2).mono ?_
  rintro e w' ⟨rfl, b⟩
  exact ⟨rfl, k.next b⟩
theorem in_of_i {w0 w : World} {cs : List (Addr × Value)} {f : FuncId} {x y : Int} {r : Value} (h : All f #[.int .i64 x] r) (e : y = x) (k : Kp w0 cs w) :
    Calls Try.prog f #[.int .i64 y] w fun e w' => e = .returned r ∧ Kp w0 cs w' := by
  rw [e]; exact in_of h k
theorem in_ofk {w0 w : World} {cs : List (Addr × Value)} {f : FuncId} {args : Array Value} {r : Value} (h : AllC cs f args r) (k : Kp w0 cs w) :
    Calls Try.prog f args w fun e w' => e = .returned r ∧ Kp w0 [] w' := by
  refine (h w k.2).mono ?_
  rintro e w' ⟨rfl, b⟩
  exact ⟨rfl, (k.next b).1, fun c hc => absurd hc (List.not_mem_nil)⟩
theorem all_of {f : FuncId} {args : Array Value} {r : Value} (h : ∀ w, Calls Try.prog f args w fun e w' => e = .returned r ∧ w = w') : All f args r := by
  intro w
  refine (h w).mono ?_
  rintro e w' ⟨rfl, rfl⟩
  exact ⟨rfl, Below.refl _ _⟩
theorem W_fromV (a b : Int) : W (fromV a b) := W_packI _ _
theorem W_ofV (v : Int) : W (ofV v) := W_fromV _ _

theorem n_c (v : Int) (h1 : -9223372036854775808 ≤ v) (h2 : v ≤ 9223372036854775807) : All 25 #[.int .i64 v] (.int .u64 (ofV v : Nat)) := by
  intro w
  unfold ofV
  by_cases h : v < 0
  · rw [if_pos h]
    have F := Lib.hid (from_c v (-1) (by decide) (by decide))
    obtain ⟨R, hR⟩ : ∃ R, fromV v (-1) = R := ⟨_, rfl⟩
    rw [hR] at F ⊢
    clear hR
    go_enter Try.func25, Try.ntmps25
    go_wp2_with (first
      | (go_at_call 47; (with_reducible refine (F.out _).mono ?_); rintro e1 w1 ⟨rfl, hb1⟩))
    go_ret
    exact ⟨rfl, hb1⟩
  · rw [if_neg h]
    have F := Lib.hid (from_c v 0 (by decide) (by decide))
    obtain ⟨R, hR⟩ : ∃ R, fromV v 0 = R := ⟨_, rfl⟩
    rw [hR] at F ⊢
    clear hR
    go_enter Try.func25, Try.ntmps25
    go_wp2_with (first
      | (go_at_call 47; (with_reducible refine (F.out _).mono ?_); rintro e1 w1 ⟨rfl, hb1⟩))
    go_ret
    exact ⟨rfl, hb1⟩
theorem cell_s (a r s t : Int) (F : Hid (All 51 #[.int .u64 a] (.tuple #[.int .i64 r, .int .i64 s, .int .i64 t]))) : All 30 #[.int .u64 a] (.int .i64 r) := by
  intro w
  go_enter Try.func30, Try.ntmps30
  go_wp2_with (first
    | (go_at_call 51; (with_reducible refine (F.out _).mono ?_); rintro e1 w1 ⟨rfl, hb1⟩))
  go_ret
  exact ⟨rfl, hb1⟩
theorem cell_c (a : Nat) (ha : W a) : All 30 #[.int .u64 a] (.int .i64 (toLo a)) := cell_s _ _ _ _ (Lib.hid (to_c a ha))
theorem below_s (a b c : Int) (o : Bool) (F : Hid (∀ w, Calls Try.prog 48 #[.int .u64 a, .int .u64 b] w fun e w' => e = .returned (.tuple #[.int .i64 c, .bool o]) ∧ w = w')) (w : World) :
    Calls Try.prog 26 #[.int .u64 a, .int .u64 b] w fun e w' => e = .returned (.bool (o && decide (c < 0))) ∧ w = w' := by
  cases o
  · go_enter Try.func26, Try.ntmps26
    go_wp2_with (first
      | (go_at_call 48; (with_reducible refine (F.out _).mono ?_); rintro e1 w1 ⟨rfl, rfl⟩))
    go_ret
    exact ⟨rfl, rfl⟩
  · go_enter Try.func26, Try.ntmps26
    go_wp2_with (first
      | (go_at_call 48; (with_reducible refine (F.out _).mono ?_); rintro e1 w1 ⟨rfl, rfl⟩))
    go_ret
    exact ⟨rfl, rfl⟩
theorem below_c (a b : Nat) (ha : W a) (hb : W b) : All 26 #[.int .u64 a, .int .u64 b] (.bool (belowV a b)) :=
  all_of (below_s _ _ _ _ (Lib.hid (cmp_c a b ha hb)))
theorem above_s (a b : Int) (o : Bool) (F : Hid (All 26 #[.int .u64 b, .int .u64 a] (.bool o))) : All 16 #[.int .u64 a, .int .u64 b] (.bool o) := by
  intro w
  go_enter Try.func16, Try.ntmps16
  go_wp2_with (first
    | (go_at_call 26; (with_reducible refine (F.out _).mono ?_); rintro e1 w1 ⟨rfl, hb1⟩))
  go_ret
  exact ⟨rfl, hb1⟩
theorem above_c (a b : Nat) (ha : W a) (hb : W b) : All 16 #[.int .u64 a, .int .u64 b] (.bool (belowV b a)) :=
  above_s _ _ _ (Lib.hid (below_c b a hb ha))
theorem kzero_c (a : Nat) (ha : W a) : All 12 #[.int .u64 a] (.bool (zer a)) := all_of fun w => by
  go_enter Try.func12, Try.ntmps12
  go_wp2
  go_ret
  exact ⟨retb (by rw [bandnot_sign ha]; unfold zer; rw [Bool.eq_iff_iff]; simp only [beq_iff_eq, decide_eq_true_eq]; omega), rfl⟩
theorem kinf_c (a : Nat) (ha : W a) : All 13 #[.int .u64 a] (.bool (inf a)) := all_of fun w => by
  go_enter Try.func13, Try.ntmps13
  go_wp2
  go_ret
  exact ⟨retb (by rw [bandnot_sign ha]; unfold inf; rw [Bool.eq_iff_iff]; simp only [beq_iff_eq, decide_eq_true_eq]; omega), rfl⟩
theorem knan_c (a : Nat) (ha : W a) : All 11 #[.int .u64 a] (.bool (nan a)) := all_of fun w => by
  go_enter Try.func11, Try.ntmps11
  go_wp2
  go_ret
  exact ⟨retb (by rw [bandnot_sign ha]; unfold nan; rw [decide_eq_decide]; omega), rfl⟩
theorem inv_s (v o r : Int) (N : Hid (All 25 #[.int .i64 v] (.int .u64 o))) (D : Hid (All 17 #[.int .u64 4607182418800017408, .int .u64 o] (.int .u64 r))) :
    All 22 #[.int .i64 v] (.int .u64 r) := by
  intro w
  have hk := kp_start w
  go_enter Try.func22, Try.ntmps22
  go_wp2_with (first
    | (go_at_call 25; (with_reducible refine (in_of N.out (by assumption)).mono ?_); rintro e1 w1 ⟨rfl, hk⟩)
    | (go_at_call 17; (with_reducible refine (in_of D.out (by assumption)).mono ?_); rintro e1 w1 ⟨rfl, hk⟩))
  go_ret
  exact ⟨rfl, hk.1⟩
theorem inv_c (v : Int) (h1 : -9223372036854775808 ≤ v) (h2 : v ≤ 9223372036854775807) : All 22 #[.int .i64 v] (.int .u64 (invV v : Nat)) :=
  inv_s _ _ _ (Lib.hid (n_c v h1 h2)) (Lib.hid (div_c SF.One (ofV v) (W_of (by decide)) (W_ofV v)))
