/- The program's Make. -/
import Derived.Test.YtecgkhijiogggaaW1
import Derived.Test.YtecgkhijiogggaaY2
import Derived.Laws.CopyOwn
namespace Go.Proofs.Ytecgkhijiogggaa
set_option linter.unusedVariables false
set_option linter.unusedSimpArgs false
open Go.RowKit Go.Shelf Go.ChangeShapes Go.WideShapes SF

theorem splice_get (l : List Int) (hl : l.length ≤ 4) (i : Nat) (hi : i < 4) : (Go.splice [Value.int .u32 0, .int .u32 0, .int .u32 0, .int .u32 0] 0 (l.map (Value.int .u32))).toArray[i]? = some (.int .u32 (l.getD i 0)) := by
  match l, hl with
  | [], _ => match i, hi with
    | 0, _ => rfl
    | 1, _ => rfl
    | 2, _ => rfl
    | 3, _ => rfl
  | [x], _ => match i, hi with
    | 0, _ => rfl
    | 1, _ => rfl
    | 2, _ => rfl
    | 3, _ => rfl
  | [x, y], _ => match i, hi with
    | 0, _ => rfl
    | 1, _ => rfl
    | 2, _ => rfl
    | 3, _ => rfl
  | [x, y, z], _ => match i, hi with
    | 0, _ => rfl
    | 1, _ => rfl
    | 2, _ => rfl
    | 3, _ => rfl
  | [x, y, z, u], _ => match i, hi with
    | 0, _ => rfl
    | 1, _ => rfl
    | 2, _ => rfl
    | 3, _ => rfl
/-- copy(w[:], m), w four new words. -/
theorem wp_copy4 {w1 : World} {ops : Array Oper} {rest : List Oper} {o : Oper} {a : Act} {Q : Exit → Act → World → Prop} (hgd : o.guard = none) (d s : Operand) (t : TypeId) (ho : o.op = .call { callee := .builtin .copy, args := #[d, s], argTypes := #[41, 41] })
    (a1 : Option Addr) (n1 c1 : Nat) (l : List Int) (hd : a.eval d = .slice (some ⟨w1.heap.size, 0, none⟩) 4 4) (hs : a.eval s = .slice a1 n1 c1) (hr : Rd w1 .u32 (.slice a1 n1 c1) l) (hl : n1 ≤ 4)
    (h : ∀ w', (∀ i, i < 4 → w'.cell? ⟨w1.heap.size, i, none⟩ = some (.int .u32 (l.getD i 0))) → Below w1.heap.size w1 w' → wpList Try.prog ops Q rest (a.put o.dst (goInt l.length)) w') :
    wpList Try.prog ops Q (o :: rest) a (w1.alloc (.cells #[.int .u32 0, .int .u32 0, .int .u32 0, .int .u32 0] t)) := by
  have hn := hr.parts.1
  refine wpList_copy_splice hgd d s 41 41 ho 35 Try.underlying41 (by kernel_rfl) (some ⟨w1.heap.size, 0, none⟩) a1 4 4 n1 c1 hd hs w1.heap.size 0
    [.int .u32 0, .int .u32 0, .int .u32 0, .int .u32 0] t (heap_alloc_new w1 _) (l.map (Value.int .u32)) (by rw [List.length_map]; show l.length = min n1 4; omega) ?_ (by rw [List.length_map]; simp; omega) (ints_oneCell _ _) w1.heap.size w1 ((Below.refl _ _).alloc (Nat.le_refl _) _) (Nat.le_refl _) ?_
  · intro hp
    rw [List.length_map] at hp
    obtain ⟨g, off, rfl, hc⟩ := (hr.below ((Below.refl _ _).alloc (Nat.le_refl _) (.cells #[.int .u32 0, .int .u32 0, .int .u32 0, .int .u32 0] t))).addr (by omega)
    refine ⟨rfl, ⟨g, off, none⟩, rfl, fun j v hj => ?_⟩
    have hjl : j < l.length := by have := (List.getElem?_eq_some_iff.1 hj).1; simpa using this
    rw [List.getElem?_map, List.getElem?_eq_getElem hjl] at hj
    simp at hj
    rw [← hj, add_plain, hc j (by omega)]
    simp [List.getD_eq_getElem?_getD, List.getElem?_eq_getElem hjl]
  · intro w' hh hb
    rw [List.length_map]
    refine h w' (fun i hi => ?_) hb
    rw [cell_of_row w' _ i _ _ _ hh.out]
    exact splice_get l (by omega) i hi
/-- The two halves of a number of four words. -/
theorem four_get {V : Nat} (h : bl V ≤ 128) : ∃ x0 x1 x2 x3 : Int, (∀ i, i < 4 → (ws V).getD i 0 = [x0, x1, x2, x3].getD i 0) ∧ (0 ≤ x0 ∧ x0 < 4294967296) ∧ (0 ≤ x1 ∧ x1 < 4294967296) ∧ (0 ≤ x2 ∧ x2 < 4294967296) ∧ (0 ≤ x3 ∧ x3 < 4294967296) ∧
    bits .or .u64 (x3 * 4294967296) x2 = ((V / 18446744073709551616 : Nat) : Int) ∧ bits .or .u64 (x1 * 4294967296) x0 = ((V % 18446744073709551616 : Nat) : Int) := by
  have hw := words_ws V
  have hl := ws_len_le (A := V) (n := 4) (by omega)
  have d0 := wi_drop hw 0
  have d1 := wi_drop hw 1
  have d2 := wi_drop hw 2
  have d3 := wi_drop hw 3
  have g0 := getD_word hw 0
  have g1 := getD_word hw 1
  have g2 := getD_word hw 2
  have g3 := getD_word hw 3
  rw [List.drop_zero, wv_ws, Nat.zero_add] at d0
  rw [show 1 + 1 = 2 from rfl] at d1
  rw [show 2 + 1 = 3 from rfl] at d2
  rw [List.drop_of_length_le (show (ws V).length ≤ 3 + 1 by omega), wi_nil] at d3
  refine ⟨_, _, _, _, fun i hi => ?_, g0, g1, g2, g3, ?_, ?_⟩
  · match i, hi with
    | 0, _ => rfl
    | 1, _ => rfl
    | 2, _ => rfl
    | 3, _ => rfl
  · rw [or_high g2 g3]; omega
  · rw [or_high g0 g1]; omega
theorem two_div' (n : Nat) : two (n / 18446744073709551616) (n % 18446744073709551616) = n := by unfold two; omega
theorem ppack_n (neg : Bool) (V : Nat) (hV : bl V ≤ 128) (e : Int) (rest : Bool) (w : World) : Calls Try.prog 69 #[.bool neg, .int .u64 ((V / 18446744073709551616 : Nat) : Int), .int .u64 ((V % 18446744073709551616 : Nat) : Int), .int .i64 e, .bool rest] w fun e' w' => e' = .returned (.int .u64 ((sg neg (pat V e rest) : Nat) : Int)) ∧ Below w.heap.size w w' := by
  have hlt := bl_lt V
  have hle := pow_le hV
  rw [show (2 : Nat) ^ 128 = 340282366920938463463374607431768211456 by decide] at hle
  have := pack_c neg (V / 18446744073709551616) (V % 18446744073709551616) e rest (W_of (by omega)) (W_of (by omega)) w
  rw [two_div'] at this
  exact this
theorem plen {w1 : World} {a1 : Option Addr} {n1 c1 M k : Nat} (h : Nw w1 (.slice a1 n1 c1) M) (hM : bl M ≤ 32 * k) : n1 ≤ k := by rw [(Rd.parts h).1]; exact ws_len_le hM
set_option maxRecDepth 100000 in
set_option maxHeartbeats 4000000 in
theorem pmake_small (neg : Bool) (a : Option Addr) (n c M : Nat) (e b hi lo x0 x1 x2 x3 R : Int) (w : World) (HN : Hid (Calls Try.prog 103 #[.slice a n c] w fun e w' => ∃ v, e = .returned v ∧ Nw w' v M ∧ Below w.heap.size w w'))
    (HL : Hid (∀ (w1 : World) (a1 : Option Addr) (n1 c1 : Nat), Nw w1 (.slice a1 n1 c1) M → n1 ≤ 4)) (HB : Hid (∀ (w1 : World) (a1 : Option Addr) (n1 c1 : Nat), Nw w1 (.slice a1 n1 c1) M → Calls Try.prog 104 #[.slice a1 n1 c1] w1 fun e w' => e = .returned (.int .i64 b) ∧ w1 = w')) (hb : 0 ≤ b ∧ b ≤ 128)
    (HX : Hid (∀ i, i < 4 → (ws M).getD i 0 = [x0, x1, x2, x3].getD i 0)) (b0 : 0 ≤ x0 ∧ x0 < 4294967296) (b1 : 0 ≤ x1 ∧ x1 < 4294967296) (b2 : 0 ≤ x2 ∧ x2 < 4294967296) (b3 : 0 ≤ x3 ∧ x3 < 4294967296)
    (o1 : bits .or .u64 (x3 * 4294967296) x2 = hi) (o2 : bits .or .u64 (x1 * 4294967296) x0 = lo) (HP : Hid (∀ w, Calls Try.prog 69 #[.bool neg, .int .u64 hi, .int .u64 lo, .int .i64 (min (max e (-100000)) 100000), .bool false] w fun e w' => e = .returned (.int .u64 R) ∧ Below w.heap.size w w')) :
    Calls Try.prog 57 #[.bool neg, .slice a n c, .int .i64 e] w fun x w' => x = .returned (.int .u64 R) ∧ Below w.heap.size w w' := by
  go_enter Try.func57, Try.ntmps57
  go_wp2_with (first
    | (go_at_call 103; (with_reducible refine (HN.out).mono ?_); rintro e1 w1 ⟨v1, rfl, hv1, hb1⟩; obtain ⟨a1, n1, c1, rfl⟩ := Nw.slice hv1; have hl := HL.out _ _ _ _ hv1)
    | (go_at_call 104; (with_reducible refine (HB.out _ _ _ _ hv1).mono ?_); rintro e3 w3 ⟨rfl, rfl⟩)
    | (go_at_call 69; (with_reducible refine (HP.out _).mono ?_); rintro e5 w5 ⟨rfl, hb5⟩)
    | (refine wp_copy4 (o := ⟨some 67, _, _, _, _, _⟩) rfl (.tmp 65) (.tmp 66) 88 rfl _ _ _ (ws M) (by rfl) (by rfl) hv1 hl ?_; intro w4 hc4 hb4; have k0 := hc4 0 (by decide); have k1 := hc4 1 (by decide); have k2 := hc4 2 (by decide); have k3 := hc4 3 (by decide); rw [HX.out 0 (by decide)] at k0; rw [HX.out 1 (by decide)] at k1; rw [HX.out 2 (by decide)] at k2; rw [HX.out 3 (by decide)] at k3; clear hc4))
  go_ret
  exact ⟨rfl, btn hb1 (btn hb4 hb5)⟩
end Go.Proofs.Ytecgkhijiogggaa
