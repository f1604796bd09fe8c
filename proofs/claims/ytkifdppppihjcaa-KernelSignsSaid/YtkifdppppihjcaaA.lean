/- Texts A, for this seat. -/
import Derived.Test.YtkifdppppihjcaaS
import Derived.Test.YtkifdppppihjcaaProg
import Derived.WalkKit
import Derived.WalkSpells
import Derived.Below
import Derived.Deep.QuietTactic
import Derived.Laws.AppendOwn
import Derived.Laws.BytesArg
import Derived.Laws.BitsAllLaws
import Derived.Lib.Hide
import Derived.ChangeSlices
import Derived.WideShapes
import Derived.OwnWalk
import Derived.Laws.IdiomStrings
import Derived.Lib.SlBytesConst
import Derived.Maps.AppendAt
import Derived.Test.YtkifdppppihjcaaShelf
import Derived.BigQuiet
import Derived.IntWalk
import Derived.Deep.RegionWith
import Derived.Lib.ItoaNum
namespace Go.Proofs.Ytkifdppppihjcaa
set_option linter.unusedVariables false
set_option linter.unusedSimpArgs false
open Go.RowKit Go.ChangeShapes Go.WideShapes

theorem ret1 {k : IntKind} {a b : Int} (h : a = b) : Ending.returned (.int k a) = .returned (.int k b) := by rw [h]
theorem retb {a b : Bool} (h : a = b) : Ending.returned (.bool a) = .returned (.bool b) := by rw [h]
theorem ret2 {k l : IntKind} {a b c d : Int} (h : a = b) (g : c = d) : Ending.returned (.tuple #[.int k a, .int l c]) = .returned (.tuple #[.int k b, .int l d]) := by rw [h, g]
theorem beq_of {a b : Int} (h : a = b) : (a == b) = true := by simpa using h
theorem beq_no {a b : Int} (h : ¬ a = b) : (a == b) = false := by simpa using h
theorem below_drewN {B : Nat} {a w : World} (h : Below B a w) (n : Nat) : Below B a (w.drewN n) := ⟨h.os, h.tape, h.output, h.size, h.block⟩
theorem below_then {B : Nat} {w w1 w2 : World} (h : Below B w w1) (hB : B ≤ w1.heap.size) (k : Below w1.heap.size w1 w2) : Below B w w2 :=
  h.trans ⟨k.os, k.tape, k.output, k.size, fun i hi => k.block i (Nat.lt_of_lt_of_le hi hB)⟩
theorem cell_below {w w1 : World} (h : Below w.heap.size w w1) {a : Addr} {v : Value} (hc : w.cell? a = some v) : w1.cell? a = some v := (h.cell (World.block_lt_of_cell? w a hc)).trans hc
/-- A slice reads as these numbers. -/
def Rd (w : World) (k : IntKind) (v : Value) (l : List Int) : Prop :=
  ∃ a c, v = .slice a l.length c ∧ l.length ≤ c ∧ (l = [] ∨ ∃ g off, a = some ⟨g, off, none⟩ ∧ ∀ i, i < l.length → w.cell? ⟨g, off + i, none⟩ = some (.int k (l.getD i 0)))
theorem Rd.nil (w : World) (k : IntKind) (c : Nat) : Rd w k (.slice none 0 c) [] := ⟨none, c, rfl, Nat.zero_le _, .inl rfl⟩
theorem Rd.below {w w1 : World} {k : IntKind} {v : Value} {l : List Int} (h : Rd w k v l) (hb : Below w.heap.size w w1) : Rd w1 k v l := by
  obtain ⟨a, c, e, hc, hr⟩ := h
  refine ⟨a, c, e, hc, ?_⟩
  rcases hr with h | ⟨g, off, ea, hcell⟩
  · exact .inl h
  · exact .inr ⟨g, off, ea, fun i hi => cell_below hb (hcell i hi)⟩
theorem Rd.drewN {w : World} {k : IntKind} {v : Value} {l : List Int} (h : Rd w k v l) (n : Nat) : Rd (w.drewN n) k v l := h.below (below_drewN (Below.refl _ _) n)
theorem Rd.of_own {w : World} {B e : Nat} {k : IntKind} {v : Value} {n : Nat} {l : List Int} (h : w.ownsRow B e 1 v n (l.map (Value.int k))) : Rd w k v l := by
  have hl : l.length = n := by have := h.1; simp at this; exact this
  rcases h.2 with ⟨rfl, h0⟩ | ⟨g, cap, cur, rfl, hb, hh, hc, _⟩
  · have : l = [] := List.eq_nil_of_length_eq_zero (by omega)
    subst this
    exact Rd.nil _ _ _
  · subst hl
    refine ⟨_, cap, rfl, hc, .inr ⟨g, 0, rfl, fun i hi => ?_⟩⟩
    have := h.cells (g := g) rfl i (.int k (l.getD i 0)) (by simp [List.getElem?_eq_getElem hi, List.getD_eq_getElem?_getD])
    have ha : (⟨g, 0, none⟩ : Addr).add i = ⟨g, 0 + i, none⟩ := by unfold Addr.add; split <;> simp_all
    rwa [ha] at this
theorem Rd.mk {w : World} {k : IntKind} {l : List Int} (g off : Nat) {n c : Nat} (hn : n = l.length) (hc : n ≤ c) (h : ∀ i, i < l.length → w.cell? ⟨g, off + i, none⟩ = some (.int k (l.getD i 0))) : Rd w k (.slice (some ⟨g, off, none⟩) n c) l := by
  subst hn; exact ⟨_, c, rfl, hc, .inr ⟨g, off, rfl, h⟩⟩
theorem Rd.take {w : World} {k : IntKind} {l : List Int} {a : Option Addr} {n c m : Nat} (h : Rd w k (.slice a n c) l) (hm : m ≤ n) : Rd w k (.slice a m c) (l.take m) := by
  obtain ⟨a', c', e, hc, hr⟩ := h
  injection e with e1 e2 e3
  subst e1 e2 e3
  have hl : (l.take m).length = m := by rw [List.length_take]; omega
  refine ⟨a, c, by rw [hl], by omega, ?_⟩
  rcases hr with h | ⟨g, off, ha, hcl⟩
  · exact .inl (by rw [h]; simp)
  · refine .inr ⟨g, off, ha, fun i hi => ?_⟩
    rw [hl] at hi
    rw [hcl i (by omega)]
    simp [List.getD_eq_getElem?_getD, List.getElem?_take, hi]
theorem Rd.drop {w : World} {k : IntKind} {l : List Int} {g off n c m n' c' : Nat} (h : Rd w k (.slice (some ⟨g, off, none⟩) n c) l) (hm : m ≤ n) (hn : n' = n - m) (hc' : c' = c - m) : Rd w k (.slice (some ⟨g, off + m, none⟩) n' c') (l.drop m) := by
  obtain ⟨a', c', e, hc, hr⟩ := h
  injection e with e1 e2 e3
  subst e1 e2 e3
  subst hn hc'
  refine ⟨_, _, by rw [List.length_drop], by rw [List.length_drop]; omega, ?_⟩
  rcases hr with h | ⟨g', off', ha, hcl⟩
  · exact .inl (by rw [h]; simp)
  · injection ha with ha
    injection ha with h1 h2
    subst h1 h2
    refine .inr ⟨g, off + m, rfl, fun i hi => ?_⟩
    rw [List.length_drop] at hi
    rw [Nat.add_assoc, hcl (m + i) (by omega)]
    simp [List.getD_eq_getElem?_getD]
theorem Rd.cons {w : World} {a : Option Addr} {n c : Nat} {x : Int} {t : List Int} (h : Rd w .u8 (.slice a n c) (x :: t)) : n = t.length + 1 ∧ n ≤ c ∧ ∃ g off, a = some ⟨g, off, none⟩ ∧ w.cell? ⟨g, off, none⟩ = some (.int .u8 x) ∧ ∀ i, i < (x :: t).length → w.cell? ⟨g, off + i, none⟩ = some (.int .u8 ((x :: t).getD i 0)) := by
  obtain ⟨a', c', e, hc, hr⟩ := h
  injection e with e1 e2 e3
  subst e1 e2 e3
  refine ⟨rfl, hc, ?_⟩
  rcases hr with h | ⟨g, off, rfl, hcl⟩
  · simp at h
  · exact ⟨g, off, rfl, by simpa using hcl 0 (by simp), hcl⟩
theorem Rd.len {w : World} {k : IntKind} {v : Value} {l : List Int} (h : Rd w k v l) : ∃ a c, v = .slice a l.length c := by
  obtain ⟨a, c, rfl, _⟩ := h; exact ⟨a, c, rfl⟩
theorem drew_alloc_below {w w' : World} {o : Obj} (h : (w.alloc o).drew = w') : Below w.heap.size w w' := by
  subst h; exact ((Below.refl _ w).alloc (Nat.le_refl _) o).drew
theorem drew_alloc_then {w w' : World} {o : Obj} (h : Below (w.alloc o).drew.heap.size (w.alloc o).drew w') : Below w.heap.size w w' :=
  below_then (drew_alloc_below (o := o) rfl) (by show w.heap.size ≤ (w.alloc o).heap.size; simp) h
/-- append(s, x...), x a slice that is read. -/
theorem run_apps {P : Program} (w : World) (T ty e : TypeId) (z : Value) (bytes : Nat) (ht : P.underlying T = some (.slice e)) (hinfo : (P.info? e).map (fun i => (i.zero, i.size, i.bytes)) = some (some z, 1, bytes)) (hz1 : z.cells.size = 1)
    (B : Nat) (v : Value) (n : Nat) (xs : List Value) (hown : w.ownsRow B e 1 v n xs) (hB : B ≤ w.heap.size) (k : IntKind) (u : Value) (l : List Int) (hr : Rd w k u l) (hn : n + l.length < 1000000000000) (hby : bytes ≤ 64) :
    ∃ v' w', (Builtin.append_ #[T, T] ty #[v, u]).run P w = .ok v' w' ∧ w'.ownsRow B e 1 v' (n + l.length) (xs ++ l.map (Value.int k)) ∧ w.grownBy w' v.ownBlock ∧ (v'.ownBlock = v.ownBlock ∨ v'.ownBlock = some w.heap.size) := by
  obtain ⟨i0, hi, hz0, hz2, hz3⟩ := info_parts hinfo
  obtain ⟨a, c, rfl, hc, hcell⟩ := hr
  cases a with
  | none =>
    have hl : l = [] := by
      rcases hcell with h | ⟨g, off, h, _⟩
      · exact h
      · cases h
    subst hl
    refine ⟨v, w, ?_, by simpa using hown, ⟨rfl, rfl, rfl, Nat.le_refl _, fun _ _ _ => rfl⟩, .inl rfl⟩
    rcases hown.2 with ⟨rfl, h0⟩ | ⟨g, cap, cur, rfl, hb, hh, hcap, _⟩
    · subst h0
      simp [Builtin.append_, run_underlying ht, sizeOf, typeInfo, hi, Builtin.lenOf, Builtin.firstCells]
    · have hcap' : ¬ cap < n := by omega
      simp [Builtin.append_, run_underlying ht, sizeOf, typeInfo, hi, Builtin.lenOf, Builtin.firstCells, storeCells, hcap, hcap']
  | some ad =>
    have hc1 : ∀ j x, (l.map (Value.int k))[j]? = some x → w.cell? (ad.add j) = some x := by
      intro j x hj
      rcases hcell with h | ⟨g, off, h, hcl⟩
      · subst h; simp at hj
      · injection h with h
        subst h
        have hjl : j < l.length := by
          have := (List.getElem?_eq_some_iff.1 hj).1
          simpa using this
        have := hcl j hjl
        rw [List.getElem?_map, List.getElem?_eq_getElem hjl] at hj
        simp at hj
        rw [← hj]
        have e1 : (⟨g, off, none⟩ : Addr).add j = ⟨g, off + j, none⟩ := by
          unfold Addr.add
          by_cases hj0 : j = 0
          · subst hj0; simp
          · simp [hj0]
        rw [e1, this]
        simp [List.getD_eq_getElem?_getD, List.getElem?_eq_getElem hjl]
    obtain ⟨v', w', h1, h2, h3, _, h5⟩ := run_append_own_at (P := P) w B T ty e i0 z 1 bytes ht hi hz0 hz2 hz3 hz1 (by decide) v n xs hown ad l.length c (l.map (Value.int k)) (by simp) hc1
      (fun x hx => by simp at hx; obtain ⟨y, _, rfl⟩ := hx; rfl) (by unfold maxLen; omega)
      (calc (n + l.length) * bytes ≤ (n + l.length) * 64 := Nat.mul_le_mul_left _ hby
         _ ≤ 140737488355328 := by omega) hB
    exact ⟨v', w', h1, h2, h3, h5⟩
theorem wp_apps {P : Program} {w : World} {ops : Array Oper} {rest : List Oper} {o : Oper} {a : Act} {Q : Exit → Act → World → Prop} (T e : TypeId) (z : Value) (bytes : Nat) (ht : P.underlying T = some (.slice e)) (hinfo : (P.info? e).map (fun i => (i.zero, i.size, i.bytes)) = some (some z, 1, bytes)) (hz1 : z.cells.size = 1)
    (B : Nat) (v : Value) (n : Nat) (xs : List Value) (hgd : o.guard = none) (s x : Operand) (ho : o.op = .call { callee := .builtin .append, args := #[s, x], argTypes := #[T, T] })
    (hs : a.eval s = v) (hown : w.ownsRow B e 1 v n xs) (hB : B ≤ w.heap.size) (k : IntKind) (u : Value) (l : List Int) (hx : a.eval x = u) (hr : Rd w k u l) (hn : n + l.length < 1000000000000) (hby : bytes ≤ 64)
    (h : ∀ v' w', w'.ownsRow B e 1 v' (n + l.length) (xs ++ l.map (Value.int k)) → w.grownBy w' v.ownBlock → (v'.ownBlock = v.ownBlock ∨ v'.ownBlock = some w.heap.size) → wpList P ops Q rest (a.put o.dst v') w') :
    wpList P ops Q (o :: rest) a w := by
  refine wpList_plain hgd fun K hK => ?_
  obtain ⟨v', w', hr', h2, h3, h4⟩ := run_apps (P := P) w T o.type e z bytes ht hinfo hz1 B v n xs hown hB k u l hr hn hby
  unfold Oper.wp execOp
  simp only [ho, resolve, invoke, builtin, Sem.run_bind, Sem.run_pure, Result.andThen_ok, List.map_toArray, List.map_cons, List.map_nil, hs, hx, hr']
  exact hK _ _ (h v' w' h2 h3 h4)
theorem grown_below {B : Nat} {w w' : World} {e : TypeId} {v : Value} {n : Nat} {xs : List Value} (h : w.grownBy w' v.ownBlock) (hown : w.ownsRow B e 1 v n xs) (hB : B ≤ w.heap.size) : Below B w w' :=
  (Below.refl B w).grown h hB (fun k hk => (hown.lt k hk).1)
end Go.Proofs.Ytkifdppppihjcaa

namespace Go.Proofs.Ytkifdppppihjcaa
set_option linter.unusedVariables false
set_option linter.unusedSimpArgs false
open Go.RowKit Go.Shelf SF

theorem mask63 (x : Nat) : x &&& 9223372036854775807 = x % 9223372036854775808 := Nat.and_two_pow_sub_one_eq_mod x 63
theorem mask52 (x : Nat) : x &&& 4503599627370495 = x % 4503599627370496 := Nat.and_two_pow_sub_one_eq_mod x 52
theorem bandnot_sign {a : Nat} (h : W a) : bits .andNot .u64 (a : Int) 9223372036854775808 = ((mag a : Nat) : Int) := by
  rw [show (9223372036854775808 : Int) = ((9223372036854775808 : Nat) : Int) from rfl, u64_andNot_nat a _ h (by decide)]
  show ((a &&& 9223372036854775807 : Nat) : Int) = _
  rw [mask63]; rfl
theorem band_sign {a : Nat} (h : W a) : bits .and .u64 (a : Int) 9223372036854775808 = if ng a then 9223372036854775808 else 0 := by
  rw [show (9223372036854775808 : Int) = ((9223372036854775808 : Nat) : Int) from rfl, u64_and_nat a _ h (by decide)]
  have := nat_bit 63 a
  rw [show (2 : Nat) ^ 63 = 9223372036854775808 by decide] at this
  rw [this]
  unfold W at h
  unfold ng
  by_cases g : 9223372036854775808 ≤ a
  · rw [decide_eq_true g, if_pos rfl, show a / 9223372036854775808 = 1 by omega]
  · rw [decide_eq_false g, if_neg (by decide), show a / 9223372036854775808 = 0 by omega, Nat.zero_mul]; rfl
theorem bor_sign {a : Nat} (h : a < 9223372036854775808) : bits .or .u64 (a : Int) 9223372036854775808 = ((a + 9223372036854775808 : Nat) : Int) := by
  rw [show (9223372036854775808 : Int) = ((9223372036854775808 : Nat) : Int) from rfl, u64_or_nat a _ (by omega) (by decide), Nat.or_comm, nat_join 63 9223372036854775808 a (by decide) h]
  congr 1; omega
theorem bxor_sign {a : Nat} (h : W a) : bits .xor .u64 (a : Int) 9223372036854775808 = ((sg (!ng a) (mag a) : Nat) : Int) := by
  rw [show (9223372036854775808 : Int) = ((9223372036854775808 : Nat) : Int) from rfl, u64_xor_nat a _ h (by decide)]
  congr 1
  unfold W at h
  have key : ∀ m, m < 9223372036854775808 → (m ^^^ 9223372036854775808 = m + 9223372036854775808) := by
    intro m hm
    have e1 : m + 9223372036854775808 = 9223372036854775808 ||| m := by rw [nat_join 63 9223372036854775808 m (by decide) hm]; omega
    rw [e1]
    apply Nat.eq_of_testBit_eq
    intro i
    rw [Nat.testBit_xor, Nat.testBit_or, show (9223372036854775808 : Nat) = 2 ^ 63 by decide, Nat.testBit_two_pow]
    by_cases hi : 63 = i
    · subst hi
      rw [Nat.testBit_lt_two_pow hm]
      decide
    · rw [decide_eq_false hi]
      simp
  unfold sg ng mag
  by_cases g : 9223372036854775808 ≤ a
  · rw [decide_eq_true g]
    simp only [Bool.not_true, Bool.false_eq_true, if_false]
    have e : a = (a % 9223372036854775808) ^^^ 9223372036854775808 := by rw [key _ (by omega)]; omega
    conv => lhs; rw [e]
    rw [Nat.xor_assoc, Nat.xor_self, Nat.xor_zero]
  · rw [decide_eq_false g]
    simp only [Bool.not_false, if_true]
    rw [key a (by omega)]
    omega
theorem band_frac {a : Nat} (h : W a) : bits .and .u64 (a : Int) 4503599627370495 = ((fr a : Nat) : Int) := by
  rw [show (4503599627370495 : Int) = ((4503599627370495 : Nat) : Int) from rfl, u64_and_nat a _ h (by decide), mask52]; rfl
theorem band_one {a : Nat} (h : W a) : bits .and .u64 (a : Int) 1 = ((a % 2 : Nat) : Int) := by
  rw [show (1 : Int) = ((1 : Nat) : Int) from rfl, u64_and_nat a _ h (by decide), nat_mask1]
theorem band_2047 {a : Nat} (h : W a) : bits .and .u64 (a : Int) 2047 = ((a % 2048 : Nat) : Int) := by
  rw [show (2047 : Int) = ((2047 : Nat) : Int) from rfl, u64_and_nat a _ h (by decide)]
  congr 1
  exact Nat.and_two_pow_sub_one_eq_mod a 11
theorem bor_hidden {a : Nat} (h : a < 4503599627370496) : bits .or .u64 (a : Int) 4503599627370496 = ((a + 4503599627370496 : Nat) : Int) := by
  rw [show (4503599627370496 : Int) = ((4503599627370496 : Nat) : Int) from rfl, u64_or_nat a _ (by omega) (by decide), Nat.or_comm, nat_join 52 4503599627370496 a (by decide) h]
  congr 1; omega
theorem bor_at {a b s : Nat} (ha : a % 2 ^ s = 0) (hb : b < 2 ^ s) (h1 : W a) (h2 : W b) : bits .or .u64 (a : Int) (b : Int) = ((a + b : Nat) : Int) := by
  rw [u64_or_nat a b h1 h2, nat_join s a b ha hb]
theorem W_of {a : Nat} (h : a < 18446744073709551616) : W a := h
theorem isnan_c (a : Nat) (ha : W a) (w : World) : Calls Try.prog 33 #[.int .u64 a] w fun e w' => e = .returned (.bool (nan a)) ∧ w = w' := by
  go_enter Try.func33, Try.ntmps33
  go_wp2
  go_ret
  exact ⟨retb (by rw [bandnot_sign ha]; unfold nan; rw [decide_eq_decide]; omega), rfl⟩
theorem isinf_c (a : Nat) (ha : W a) (w : World) : Calls Try.prog 35 #[.int .u64 a] w fun e w' => e = .returned (.bool (inf a)) ∧ w = w' := by
  go_enter Try.func35, Try.ntmps35
  go_wp2
  go_ret
  exact ⟨retb (by rw [bandnot_sign ha]; unfold inf; rw [Bool.eq_iff_iff]; simp only [beq_iff_eq, decide_eq_true_eq]; omega), rfl⟩
theorem iszero_c (a : Nat) (ha : W a) (w : World) : Calls Try.prog 36 #[.int .u64 a] w fun e w' => e = .returned (.bool (zer a)) ∧ w = w' := by
  go_enter Try.func36, Try.ntmps36
  go_wp2
  go_ret
  exact ⟨retb (by rw [bandnot_sign ha]; unfold zer; rw [Bool.eq_iff_iff]; simp only [beq_iff_eq, decide_eq_true_eq]; omega), rfl⟩
theorem isneg_c (a : Nat) (ha : W a) (w : World) : Calls Try.prog 34 #[.int .u64 a] w fun e w' => e = .returned (.bool (ng a)) ∧ w = w' := by
  go_enter Try.func34, Try.ntmps34
  go_wp2
  go_ret
  exact ⟨retb (by unfold W at ha; unfold ng; rw [Bool.eq_iff_iff]; simp only [beq_iff_eq, decide_eq_true_eq]; omega), rfl⟩
theorem sign_c (a : Nat) (b : Bool) (ha : a < 9223372036854775808) (w : World) : Calls Try.prog 37 #[.int .u64 a, .bool b] w fun e w' => e = .returned (.int .u64 ((sg b a : Nat) : Int)) ∧ w = w' := by
  cases b
  · go_enter Try.func37, Try.ntmps37
    go_wp2
    go_ret
    exact ⟨rfl, rfl⟩
  · have H := Lib.hid (bor_sign ha)
    go_enter Try.func37, Try.ntmps37
    go_wp2
    go_ret
    exact ⟨ret1 H.out, rfl⟩
end Go.Proofs.Ytkifdppppihjcaa

namespace Go.Proofs.Ytkifdppppihjcaa
set_option linter.unusedVariables false
set_option linter.unusedSimpArgs false
open Go.RowKit Go.Shelf SF

theorem ex_bits {a : Nat} (h : W a) : bits .and .u64 ((a : Int) / 4503599627370496) 2047 = ((ex a : Nat) : Int) := by
  unfold W at h
  have e : ((a : Int) / 4503599627370496) = ((a / 4503599627370496 : Nat) : Int) := by omega
  rw [e, band_2047 (W_of (by omega))]
  congr 1
  unfold ex mag
  omega
theorem ex_lt (a : Nat) : ex a < 2048 := by unfold ex mag; omega
def num (n : Bool) (m : Nat) (e : Int) : Value := .agg #[.bool n, .int .u64 (m : Int), .int .i64 e]
theorem split_c (a : Nat) (ha : W a) (w : World) : Calls Try.prog 39 #[.int .u64 a] w fun e w' => e = .returned (num (ng a) (sm a) (se a)) ∧ Below w.heap.size w w' := by
  have N := fun w => isneg_c a ha w
  have h1 := ex_bits ha
  have h2 := band_frac ha
  have xl := ex_lt a
  have fl : fr a < 4503599627370496 := by unfold fr; omega
  have h3 := bor_hidden fl
  have em : sm a = if ex a = 0 then fr a else fr a + 4503599627370496 := rfl
  have ee : se a = if ex a = 0 then -1074 else (ex a : Int) - 1075 := rfl
  obtain ⟨X, hX⟩ : ∃ X, ex a = X := ⟨_, rfl⟩
  obtain ⟨F, hF⟩ : ∃ F, fr a = F := ⟨_, rfl⟩
  obtain ⟨b, hb⟩ : ∃ b, ng a = b := ⟨_, rfl⟩
  obtain ⟨M, hM⟩ : ∃ M, F + 4503599627370496 = M := ⟨_, rfl⟩
  rw [hX] at h1 xl em ee
  rw [hF] at h2 h3 fl em
  rw [hM] at h3 em
  rw [hb] at N ⊢
  have HN := Lib.hid N
  have EM := Lib.hid em
  have EE := Lib.hid ee
  clear N hX hF hb hM em ee
  by_cases hx : X = 0
  · subst hx
    go_enter Try.func39, Try.ntmps39
    go_wp2_with (go_at_call 34; refine (HN.out _).mono ?_; rintro e w' ⟨rfl, rfl⟩)
    have e1 : sm a = F := EM.out
    have e2 : se a = -1074 := EE.out
    rw [e1, e2]
    exact bodyPost_ret (v := num b F (-1074)) (by simp [num, results, Try.results39, go_sem]) rfl ⟨rfl, ((Below.refl _ _).alloc (Nat.le_refl _) _).alloc (by simp) _⟩
  · have e1 : sm a = M := by have := EM.out; rwa [if_neg hx] at this
    have e2 : se a = (X : Int) - 1075 := by have := EE.out; rwa [if_neg hx] at this
    have hp : (0 : Int) < X := by omega
    rw [e1, e2]
    clear e1 e2 EM EE
    go_enter Try.func39, Try.ntmps39
    go_wp2_with (go_at_call 34; refine (HN.out _).mono ?_; rintro e w' ⟨rfl, rfl⟩)
    refine bodyPost_ret (v := num b M ((X : Int) - 1075)) (by simp [num, results, Try.results39, go_sem]; try omega) rfl ⟨rfl, ?_⟩
    exact ((Below.refl _ _).alloc (Nat.le_refl _) _).alloc (by simp) _
theorem bor_ne {a b : Nat} (h1 : W a) (h2 : W b) : (bits .or .u64 (a : Int) (b : Int) != 0) = decide (a ≠ 0 ∨ b ≠ 0) := by
  rw [u64_or_nat a b h1 h2, Bool.eq_iff_iff]
  simp only [bne_iff_ne, decide_eq_true_eq]
  have : a ||| b = 0 ↔ a = 0 ∧ b = 0 := Nat.or_eq_zero_iff
  omega
theorem bor_eq {a b : Nat} (h1 : W a) (h2 : W b) : (bits .or .u64 (a : Int) (b : Int) == 0) = decide (a = 0 ∧ b = 0) := by
  rw [u64_or_nat a b h1 h2, Bool.eq_iff_iff]
  simp only [beq_iff_eq, decide_eq_true_eq]
  have : a ||| b = 0 ↔ a = 0 ∧ b = 0 := Nat.or_eq_zero_iff
  omega
theorem wrap_shl (x n : Nat) (h : n ≤ 64) : IntKind.u64.wrap ((x : Int) * 2 ^ (64 - n)) = ((x % 2 ^ n * 2 ^ (64 - n) : Nat) : Int) := by
  have e : ((x : Int) * 2 ^ (64 - n)) = ((x * 2 ^ (64 - n) : Nat) : Int) := by rw [Int.natCast_mul, Int.natCast_pow]; rfl
  rw [IntKind.wrap_u64, e, ← shl_mod x n h]
  omega
def RightV (hi lo n : Nat) : Value := .tuple #[.int .u64 (rH hi lo n : Int), .int .u64 (rL hi lo n : Int), .bool (rT hi lo n)]
theorem right_ret {hi lo n : Nat} {a b : Nat} {t : Bool} (h1 : rH hi lo n = a) (h2 : rL hi lo n = b) (h3 : rT hi lo n = t) : Ending.returned (.tuple #[.int .u64 (a : Int), .int .u64 (b : Int), .bool t]) = .returned (RightV hi lo n) := by
  unfold RightV; rw [h1, h2, h3]
set_option maxRecDepth 100000 in
theorem right_mid (hi lo n : Nat) (hh : W hi) (hl : W lo) (h0 : 0 < n) (h1 : n < 64) (w : World) : Calls Try.prog 42 #[.int .u64 hi, .int .u64 lo, .int .i64 n] w fun e w' => e = .returned (RightV hi lo n) ∧ Below w.heap.size w w' := by
  obtain ⟨q1, q2, q3⟩ := rights_small (hi := hi) h0 (by omega) hl
  obtain ⟨_, r2, _⟩ := right_small (hi := hi) (n := n) (by omega) hl
  have w1 := wrap_shl hi n (by omega)
  have w2 := wrap_shl lo n (by omega)
  have pn := SF.pow_pos n
  have pk := SF.pow_pos (64 - n)
  have d1 : ((hi : Int) / 2 ^ n) = ((hi / 2 ^ n : Nat) : Int) := by rw [Int.natCast_ediv, Int.natCast_pow]; rfl
  have d2 : ((lo : Int) / 2 ^ n) = ((lo / 2 ^ n : Nat) : Int) := by rw [Int.natCast_ediv, Int.natCast_pow]; rfl
  have jn : bits .or .u64 ((lo / 2 ^ n : Nat) : Int) ((hi % 2 ^ n * 2 ^ (64 - n) : Nat) : Int) = ((hi % 2 ^ n * 2 ^ (64 - n) + lo / 2 ^ n : Nat) : Int) := by
    have hlo : lo / 2 ^ n < 2 ^ (64 - n) := by
      rw [Nat.div_lt_iff_lt_mul pn, Nat.mul_comm, ← P64n (n := n) (by omega)]; exact hl
    rw [u64_or_nat _ _ (Nat.lt_of_le_of_lt (Nat.le_add_left _ _) r2) (Nat.lt_of_le_of_lt (Nat.le_add_right _ _) r2), Nat.or_comm, nat_join (64 - n) _ _ (Nat.mul_mod_left _ _) hlo]
  have tz : (((lo % 2 ^ n * 2 ^ (64 - n) : Nat) : Int) != 0) = decide (lo % 2 ^ n ≠ 0) := by
    rw [Bool.eq_iff_iff]
    simp only [bne_iff_ne, decide_eq_true_eq]
    have := @Nat.mul_eq_zero (lo % 2 ^ n) (2 ^ (64 - n))
    constructor
    · intro h g; rw [g, Nat.zero_mul] at h; exact h rfl
    · intro h g
      have g2 : lo % 2 ^ n * 2 ^ (64 - n) = 0 := by omega
      rcases Nat.mul_eq_zero.1 g2 with g3 | g3
      · exact h g3
      · omega
  have e1 : IntKind.i64.wrap (64 - (n : Int)) = ((64 - n : Nat) : Int) := by rw [IntKind.wrap_i64]; omega
  have e0 : ((n : Int) == 0) = false := by simp; omega
  have H1 := Lib.hid q1
  have H2 := Lib.hid q2
  have H3 := Lib.hid q3
  have D1 := Lib.hid d1
  have D2 := Lib.hid d2
  have J := Lib.hid jn
  have T := Lib.hid tz
  have W1 := Lib.hid w1
  have W2 := Lib.hid w2
  have hh0 : (0 : Int) ≤ 64 - (n : Int) := by omega
  clear q1 q2 q3 r2 w1 w2 d1 d2 jn tz pn pk hh hl
  go_enter Try.func42, Try.ntmps42
  go_wp2
  go_quiet (fail)
  go_wp2
  go_ret3
  refine ⟨?_, below_drewN (Below.refl _ _) _⟩
  rw [D1.out, D2.out, W1.out, W2.out, J.out, T.out]
  exact right_ret H1.out H2.out H3.out
set_option maxRecDepth 100000 in
theorem right_64 (hi lo n k : Nat) (hn : n = 64 + k) (hh : W hi) (hl : W lo) (h1 : k < 64) (w : World) : Calls Try.prog 42 #[.int .u64 hi, .int .u64 lo, .int .i64 n] w fun e w' => e = .returned (RightV hi lo n) ∧ Below w.heap.size w w' := by
  obtain ⟨q1, q2, q3⟩ := rights_big (k := k) hh hl
  rw [← hn] at q1 q2 q3
  have w1 := wrap_shl hi k (by omega)
  have pn := SF.pow_pos k
  have pk := SF.pow_pos (64 - k)
  have d1 : ((hi : Int) / 2 ^ k) = ((hi / 2 ^ k : Nat) : Int) := by rw [Int.natCast_ediv, Int.natCast_pow]; rfl
  have tz : (((hi % 2 ^ k * 2 ^ (64 - k) : Nat) : Int) != 0) = decide (hi % 2 ^ k ≠ 0) := by
    rw [Bool.eq_iff_iff]
    simp only [bne_iff_ne, decide_eq_true_eq]
    constructor
    · intro h g; rw [g, Nat.zero_mul] at h; exact h rfl
    · intro h g
      have g2 : hi % 2 ^ k * 2 ^ (64 - k) = 0 := by omega
      rcases Nat.mul_eq_zero.1 g2 with g3 | g3
      · exact h g3
      · omega
  have e1 : IntKind.i64.wrap ((n : Int) - 64) = (k : Int) := by rw [IntKind.wrap_i64]; omega
  have e2 : IntKind.i64.wrap (128 - (n : Int)) = ((64 - k : Nat) : Int) := by rw [IntKind.wrap_i64]; omega
  have hn1 : ¬ (128 : Int) ≤ n := by omega
  have hn2 : (64 : Int) ≤ n := by omega
  have H1 := Lib.hid q1
  have H2 := Lib.hid q2
  have D1 := Lib.hid d1
  have W1 := Lib.hid w1
  have hk0 : (0 : Int) ≤ (k : Int) := by omega
  clear q1 q2 w1 d1 pn pk hh hl hn
  by_cases hz : lo = 0
  · subst hz
    by_cases h64 : k = 0
    · subst h64
      have q3' : Hid (rT hi 0 n = false) := Lib.hid (by rw [q3]; simp [Nat.mod_one])
      have g64 : ¬ (64 : Int) < (n : Int) := by rw [IntKind.wrap_i64] at e1; omega
      have z0 : (IntKind.u64.wrap ((hi : Int) * 18446744073709551616) != 0) = false := by rw [IntKind.wrap_u64, Int.mul_emod_left]; rfl
      have D2 : Hid (hi / 2 ^ 0 = hi) := Lib.hid (by simp)
      clear q3 tz
      go_enter Try.func42, Try.ntmps42
      go_wp2
      go_quiet (fail)
      go_wp2
      go_ret3
      refine ⟨?_, below_drewN (Below.refl _ _) _⟩
      exact right_ret H1.out (H2.out.trans D2.out) q3'.out
    · have g64 : (64 : Int) < (n : Int) := by rw [IntKind.wrap_i64] at e1; omega
      by_cases hr : hi % 2 ^ k = 0
      · have q3' : Hid (rT hi 0 n = false) := Lib.hid (by rw [q3, decide_eq_false]; rintro (h | h); exact h rfl; exact h hr)
        have z0 : (IntKind.u64.wrap ((hi : Int) * 2 ^ (64 - k)) != 0) = false := by rw [W1.out, tz, decide_eq_false]; exact fun h => h hr
        clear q3 tz hr
        go_enter Try.func42, Try.ntmps42
        go_wp2
        go_quiet (fail)
        go_wp2
        go_ret3
        refine ⟨?_, below_drewN (Below.refl _ _) _⟩
        rw [D1.out]
        exact right_ret H1.out H2.out q3'.out
      · have q3' : Hid (rT hi 0 n = true) := Lib.hid (by rw [q3, decide_eq_true (Or.inr hr)])
        have z0 : (IntKind.u64.wrap ((hi : Int) * 2 ^ (64 - k)) != 0) = true := by rw [W1.out, tz, decide_eq_true hr]
        clear q3 tz hr
        go_enter Try.func42, Try.ntmps42
        go_wp2
        go_quiet (fail)
        go_wp2
        go_ret3
        refine ⟨?_, below_drewN (Below.refl _ _) _⟩
        rw [D1.out]
        exact right_ret H1.out H2.out q3'.out
  · have q3' : Hid (rT hi lo n = true) := Lib.hid (by rw [q3, decide_eq_true (Or.inl hz)])
    have z1 : ((lo : Int) != 0) = true := by simp; omega
    clear q3 tz
    go_enter Try.func42, Try.ntmps42
    go_wp2
    go_quiet (fail)
    go_wp2
    go_ret3
    refine ⟨?_, below_drewN (Below.refl _ _) _⟩
    rw [D1.out]
    exact right_ret H1.out H2.out q3'.out
theorem right_end (hi lo n : Nat) (hh : W hi) (hl : W lo) (h : n = 0 ∨ 128 ≤ n) (w : World) : Calls Try.prog 42 #[.int .u64 hi, .int .u64 lo, .int .i64 n] w fun e w' => e = .returned (RightV hi lo n) ∧ Below w.heap.size w w' := by
  rcases h with rfl | h
  · obtain ⟨q1, q2, q3⟩ := rights_zero hh hl
    have H1 := Lib.hid q1
    have H2 := Lib.hid q2
    have H3 := Lib.hid q3
    clear q1 q2 q3 hh hl
    go_enter Try.func42, Try.ntmps42
    go_wp2
    go_ret3
    exact ⟨right_ret H1.out H2.out H3.out, Below.refl _ _⟩
  · obtain ⟨q1, q2, q3⟩ := rights_huge h hh hl
    have hb := bor_ne hh hl
    rw [← q3] at hb
    have H1 := Lib.hid q1
    have H2 := Lib.hid q2
    have h1 : (128 : Int) ≤ n := by omega
    have HB := Lib.hid hb
    clear q1 q2 q3 hh hl hb
    go_enter Try.func42, Try.ntmps42
    go_wp2
    go_ret3
    exact ⟨right_ret H1.out H2.out HB.out.symm, Below.refl _ _⟩
/-- Two words moved right, and whether a digit was lost. -/
theorem right_c (hi lo n : Nat) (hh : W hi) (hl : W lo) (w : World) : Calls Try.prog 42 #[.int .u64 hi, .int .u64 lo, .int .i64 n] w fun e w' => e = .returned (RightV hi lo n) ∧ Below w.heap.size w w' := by
  by_cases h0 : n = 0 ∨ 128 ≤ n
  · exact right_end hi lo n hh hl h0 w
  · by_cases h1 : n < 64
    · exact right_mid hi lo n hh hl (by omega) h1 w
    · exact right_64 hi lo n (n - 64) (by omega) hh hl (by omega) w
end Go.Proofs.Ytkifdppppihjcaa

namespace Go.Proofs.Ytkifdppppihjcaa
set_option linter.unusedVariables false
set_option linter.unusedSimpArgs false
open Go.RowKit Go.Shelf SF

theorem quiet_left {P : Program} {f : FuncId} {args : Array Value} {w : World} {n : Nat} {v : Value}
    (h : Calls P f args (w.drewN n) fun e w' => e = .returned v ∧ w.drewN n = w') : Calls P f args (w.drewN n) fun e w' => e = .returned v ∧ ∃ m, w' = w.drewN m :=
  h.mono fun _ _ ⟨h1, h2⟩ => ⟨h1, n, h2.symm⟩
theorem bitLen_bl {x : Nat} (h : x < 18446744073709551616) : Lib.bitLen x = bl x := by
  by_cases h0 : x = 0
  · subst h0; rfl
  · have := Lib.bitLenAux_bounds 64 x h h0
    unfold Lib.bitLen
    obtain ⟨b1, b2, b3⟩ := this
    obtain ⟨k, hk⟩ : ∃ k, Lib.bitLenAux 64 x = k + 1 := ⟨Lib.bitLenAux 64 x - 1, by omega⟩
    rw [hk] at b2 b3 ⊢
    exact (bl_eq (by simpa using b2) b3).symm
theorem bl_two {hi lo : Nat} (hl : W lo) (h : hi ≠ 0) : bl (two hi lo) = bl hi + 64 := by
  have := bl_add (n := hi) (s := 64) (r := lo) h (by rw [show (2 : Nat) ^ 64 = 18446744073709551616 by decide]; exact hl)
  rw [show (2 : Nat) ^ 64 = 18446744073709551616 by decide] at this
  exact this
theorem bl_W {x : Nat} (h : W x) : bl x ≤ 64 := bl_le_of_lt (k := 64) (by rw [show (2 : Nat) ^ 64 = 18446744073709551616 by decide]; exact h)
theorem len64_c (x : Nat) (h : W x) (w : World) : Calls Try.prog 62 #[.int .u64 x] w fun e w' => e = .returned (.int .i64 (bl x : Int)) ∧ w = w' := by
  have hx : (x : Int) ≤ 18446744073709551615 := by unfold W at h; omega
  refine (Try.bits_Len64 (x : Int) w (by omega) hx).mono ?_
  rintro e w' ⟨h1, h2⟩
  rw [Int.toNat_natCast, bitLen_bl h] at h1
  exact ⟨h1, h2.symm⟩
theorem length_c (hi lo : Nat) (hh : W hi) (hl : W lo) (w : World) : Calls Try.prog 67 #[.int .u64 hi, .int .u64 lo] w fun e w' => e = .returned (.int .i64 (bl (two hi lo) : Int)) ∧ w = w' := by
  have L1 := fun w => len64_c hi hh w
  have L2 := fun w => len64_c lo hl w
  by_cases h0 : hi = 0
  · subst h0
    have e : two 0 lo = lo := by unfold two; omega
    rw [e]
    obtain ⟨k, hk⟩ : ∃ k, bl lo = k := ⟨_, rfl⟩
    rw [hk] at L2 ⊢
    have HL := Lib.hid L2
    clear L1 L2 hk e hh hl
    go_enter Try.func67, Try.ntmps67
    go_wp2_with (go_at_call 62; refine (HL.out _).mono ?_; rintro e w' ⟨rfl, rfl⟩)
    go_ret
    exact ⟨rfl, rfl⟩
  · have e := bl_two hl h0
    rw [e]
    have hb := bl_W hh
    obtain ⟨k, hk⟩ : ∃ k, bl hi = k := ⟨_, rfl⟩
    rw [hk] at L1 hb ⊢
    have HL := Lib.hid L1
    have hp : (0 : Int) < hi := by omega
    clear L1 L2 hk e hh hl
    go_enter Try.func67, Try.ntmps67
    go_wp2_with (go_at_call 62; refine (HL.out _).mono ?_; rintro e w' ⟨rfl, rfl⟩)
    go_ret
    exact ⟨ret1 (by omega), rfl⟩
def fmt (p : Nat) (low high : Int) : Value := .agg #[.int .i64 (p : Int), .int .i64 low, .int .i64 high]
def RoundV (p : Nat) (low : Int) (M : Nat) (e : Int) (rest : Bool) : Value := .tuple #[.int .u64 (rv p low M e rest : Int), .int .i64 (rx p low M e rest)]
theorem round_ret {p : Nat} {low : Int} {M : Nat} {e : Int} {rest : Bool} {a : Nat} {x : Int} (h1 : rv p low M e rest = a) (h2 : rx p low M e rest = x) : Ending.returned (.tuple #[.int .u64 (a : Int), .int .i64 x]) = .returned (RoundV p low M e rest) := by
  unfold RoundV; rw [h1, h2]
theorem half_bit {l : Nat} (h : W l) : (bits .and .u64 (l : Int) 1 == 1) = decide (l % 2 = 1) := by
  rw [band_one h, Bool.eq_iff_iff]; simp only [beq_iff_eq, decide_eq_true_eq]; omega
set_option maxRecDepth 100000 in
set_option maxHeartbeats 2000000 in
/-- Where no digit is lost. -/
theorem round_left (p : Nat) (low high : Int) (hi lo : Nat) (e : Int) (rest : Bool) (hh : W hi) (hl : W lo) (he : -200000 ≤ e ∧ e ≤ 200000) (hp : p = 53 ∨ p = 24) (hlow : -2000 ≤ low ∧ low ≤ 0) (hq : qz p low (bl (two hi lo)) e ≤ e) (w : World) :
    Calls Try.prog 60 #[fmt p low high, .int .u64 hi, .int .u64 lo, .int .i64 e, .bool rest] w fun e' w' => e' = .returned (RoundV p low (two hi lo) e rest) ∧ Below w.heap.size w w' := by
  have L := fun w => length_c hi lo hh hl w
  have hb : bl (two hi lo) ≤ 128 := bl_le_of_lt (k := 128) (by rw [show (2 : Nat) ^ 128 = 340282366920938463463374607431768211456 by decide]; exact two_lt hh hl)
  obtain ⟨s, hs⟩ : ∃ s : Nat, e - qz p low (bl (two hi lo)) e = (s : Int) := ⟨(e - qz p low (bl (two hi lo)) e).toNat, by omega⟩
  have vv := vz_left rest (by omega) hh hl hs
  have v1 := vv.2.1
  have v2 := vv.2.2
  clear vv
  have p53 : 2 ^ p ≤ 9007199254740992 := by rcases hp with rfl | rfl <;> decide
  have r1 : rv p low (two hi lo) e rest = lo * 2 ^ s := by unfold rv; rw [v1, if_neg (by omega)]
  have r2 : rx p low (two hi lo) e rest = qz p low (bl (two hi lo)) e := by unfold rx; rw [v1, if_neg (by omega)]
  have w1 : IntKind.u64.wrap ((lo : Int) * 2 ^ s) = ((lo * 2 ^ s : Nat) : Int) := by
    have e1 : ((lo : Int) * 2 ^ s) = ((lo * 2 ^ s : Nat) : Int) := by rw [Int.natCast_mul, Int.natCast_pow]; rfl
    rw [IntKind.wrap_u64, e1]; omega
  have qe : qz p low (bl (two hi lo)) e = max ((bl (two hi lo) : Int) + e - p) low := rfl
  obtain ⟨q, hq2⟩ : ∃ q, qz p low (bl (two hi lo)) e = q := ⟨_, rfl⟩
  obtain ⟨k, hk⟩ : ∃ k, bl (two hi lo) = k := ⟨_, rfl⟩
  rw [hk] at L hb
  rw [hq2] at r2 hs hq qe
  rw [hk] at qe
  have s1 : IntKind.i64.wrap ((k : Int) + e) = (k : Int) + e := IntWalk.i64_in _ (by omega)
  have s2 : IntKind.i64.wrap ((k : Int) + e - p) = (k : Int) + e - p := IntWalk.i64_in _ (by omega)
  have bq : -300000 ≤ q ∧ q ≤ 300000 := by omega
  have HL := Lib.hid L
  have R1 := Lib.hid r1
  have R2 := Lib.hid r2
  have W1 := Lib.hid w1
  have qe' := qe.symm
  clear L hk hh hl r1 r2 w1 qe hq2 v1 v2 p53
  unfold fmt
  rcases hp with rfl | rfl
  · have qe2 : max ((k : Int) + e - 53) low = q := qe'
    have s3 : IntKind.i64.wrap ((k : Int) + e - 53) = (k : Int) + e - 53 := s2
    clear qe' s2
    go_enter Try.func60, Try.ntmps60
    go_wp2
    go_quiet ((go_at_call 67; exact quiet_left (HL.out _)))
    go_wp2
    go_ret2
    refine ⟨?_, below_drewN ((Below.refl _ _).alloc (Nat.le_refl _) _) _⟩
    rw [W1.out]
    exact round_ret R1.out R2.out
  · have qe2 : max ((k : Int) + e - 24) low = q := qe'
    have s3 : IntKind.i64.wrap ((k : Int) + e - 24) = (k : Int) + e - 24 := s2
    clear qe' s2
    go_enter Try.func60, Try.ntmps60
    go_wp2
    go_quiet ((go_at_call 67; exact quiet_left (HL.out _)))
    go_wp2
    go_ret2
    refine ⟨?_, below_drewN ((Below.refl _ _).alloc (Nat.le_refl _) _) _⟩
    rw [W1.out]
    exact round_ret R1.out R2.out
set_option maxRecDepth 100000 in
set_option maxHeartbeats 8000000 in
/-- Where digits are lost. -/
theorem round_right (p : Nat) (low high : Int) (hi lo : Nat) (e : Int) (rest : Bool) (hh : W hi) (hl : W lo) (he : -200000 ≤ e ∧ e ≤ 200000) (hp : p = 53 ∨ p = 24) (hlow : -2000 ≤ low ∧ low ≤ 0) (hq : e < qz p low (bl (two hi lo)) e) (w : World) :
    Calls Try.prog 60 #[fmt p low high, .int .u64 hi, .int .u64 lo, .int .i64 e, .bool rest] w fun e' w' => e' = .returned (RoundV p low (two hi lo) e rest) ∧ Below w.heap.size w w' := by
  have L := fun w => length_c hi lo hh hl w
  have hb : bl (two hi lo) ≤ 128 := bl_le_of_lt (k := 128) (by rw [show (2 : Nat) ^ 128 = 340282366920938463463374607431768211456 by decide]; exact two_lt hh hl)
  obtain ⟨d, hd⟩ : ∃ d : Nat, qz p low (bl (two hi lo)) e - e - 1 = (d : Int) := ⟨(qz p low (bl (two hi lo)) e - e - 1).toNat, by omega⟩
  obtain ⟨v1, v2⟩ := vz_right rest (by omega) hh hl hd
  have A := fun w => right_c hi lo d hh hl w
  have B : ∀ w, Calls Try.prog 42 #[.int .u64 (rH hi lo d : Int), .int .u64 (rL hi lo d : Int), .int .i64 1] w fun e w' => e = .returned (RightV (rH hi lo d) (rL hi lo d) 1) ∧ Below w.heap.size w w' := fun w => right_c (rH hi lo d) (rL hi lo d) 1 (rH_lt hh hl) (rL_lt _ _ _) w
  have l1 := half_bit (rL_lt hi lo d)
  have l2 := half_bit (rL_lt (rH hi lo d) (rL hi lo d) 1)
  have qe : qz p low (bl (two hi lo)) e = max ((bl (two hi lo) : Int) + e - p) low := rfl
  have rvd : rv p low (two hi lo) e rest = if vz p low (two hi lo) e rest = 2 ^ p then 2 ^ (p - 1) else vz p low (two hi lo) e rest := rfl
  have rxd : rx p low (two hi lo) e rest = if vz p low (two hi lo) e rest = 2 ^ p then qz p low (bl (two hi lo)) e + 1 else qz p low (bl (two hi lo)) e := rfl
  unfold RightV at A B
  obtain ⟨q, hq2⟩ : ∃ q, qz p low (bl (two hi lo)) e = q := ⟨_, rfl⟩
  obtain ⟨k, hk⟩ : ∃ k, bl (two hi lo) = k := ⟨_, rfl⟩
  obtain ⟨V, hV⟩ : ∃ V, vz p low (two hi lo) e rest = V := ⟨_, rfl⟩
  obtain ⟨h, hh2⟩ : ∃ h, rH hi lo d = h := ⟨_, rfl⟩
  obtain ⟨l, hl2⟩ : ∃ l, rL hi lo d = l := ⟨_, rfl⟩
  obtain ⟨t, ht2⟩ : ∃ t, rT hi lo d = t := ⟨_, rfl⟩
  obtain ⟨n, hn2⟩ : ∃ n, rL h l 1 = n := ⟨_, rfl⟩
  obtain ⟨h', hh3⟩ : ∃ n, rH h l 1 = n := ⟨_, rfl⟩
  obtain ⟨t', ht3⟩ : ∃ n, rT h l 1 = n := ⟨_, rfl⟩
  rw [hk] at L hb
  rw [hq2] at hd hq qe rxd
  rw [hk] at qe
  rw [hV] at v1 rvd rxd
  rw [hh2, hl2, ht2] at A
  rw [hh2, hl2, hn2] at v1 v2
  rw [hh2, hl2, hh3, hn2, ht3] at B
  rw [hl2] at l1
  rw [ht2] at v1
  rw [hh2, hl2, hn2] at l2
  have s1 : IntKind.i64.wrap ((k : Int) + e) = (k : Int) + e := IntWalk.i64_in _ (by omega)
  have s2 : IntKind.i64.wrap ((k : Int) + e - p) = (k : Int) + e - p := IntWalk.i64_in _ (by omega)
  have bq : -300000 ≤ q ∧ q ≤ 300000 := by omega
  have HL := Lib.hid L
  have HA := Lib.hid A
  have HB := Lib.hid B
  have V1 := Lib.hid v1
  have RV := Lib.hid rvd
  have RX := Lib.hid rxd
  have qe' := qe.symm
  have hd' := hd
  have hqe : ¬ q ≤ e := by omega
  clear L hk hh hl A B v1 rvd rxd qe hq2 hV hh2 hl2 ht2 hn2 hh3 ht3 hd
  have fin : ∀ nq w1 w2, Below ((w.alloc (.cells #[.int .i64 (p : Int), .int .i64 low, .int .i64 high] 64)).drewN nq).heap.size ((w.alloc (.cells #[.int .i64 (p : Int), .int .i64 low, .int .i64 high] 64)).drewN nq) w1 → Below w1.heap.size w1 w2 → Below w.heap.size w w2 := by
    intro nq w1 w2 h1 h2
    have h0 := below_drewN ((Below.refl w.heap.size w).alloc (Nat.le_refl _) (.cells #[.int .i64 (p : Int), .int .i64 low, .int .i64 high] 64)) nq
    have h3 := below_then h0 h0.size h1
    exact below_then h3 h3.size h2
  have FIN := Lib.hid fin
  have cel : ∀ nq w1 w2, Below ((w.alloc (.cells #[.int .i64 (p : Int), .int .i64 low, .int .i64 high] 64)).drewN nq).heap.size ((w.alloc (.cells #[.int .i64 (p : Int), .int .i64 low, .int .i64 high] 64)).drewN nq) w1 → Below w1.heap.size w1 w2 → w2.cell? ⟨w.heap.size, 0, none⟩ = some (.int .i64 (p : Int)) := by
    intro nq w1 w2 h1 h2
    have h3 := below_then h1 h1.size h2
    refine cell_below h3 ?_
    show (w.alloc _).cell? _ = _
    rw [World.cell?_alloc_mark]
    rfl
  have CEL := Lib.hid cel
  clear fin cel
  unfold fmt
  rcases hp with rfl | rfl
  · have n52 : n < 9007199254740992 := v2
    have KEEP : Hid (V = n → rv 53 low (two hi lo) e rest = n ∧ rx 53 low (two hi lo) e rest = q) := Lib.hid fun hv => by
      have h1 := RV.out; have h2 := RX.out
      rw [if_neg (by show ¬ V = 9007199254740992; omega)] at h1 h2
      exact ⟨h1.trans hv, h2⟩
    have UPN : Hid (V = n + 1 → ¬ n + 1 = 9007199254740992 → rv 53 low (two hi lo) e rest = n + 1 ∧ rx 53 low (two hi lo) e rest = q) := Lib.hid fun hv hc => by
      have h1 := RV.out; have h2 := RX.out
      rw [if_neg (by show ¬ V = 9007199254740992; omega)] at h1 h2
      exact ⟨h1.trans hv, h2⟩
    have UPC : Hid (V = n + 1 → n + 1 = 9007199254740992 → rv 53 low (two hi lo) e rest = 4503599627370496 ∧ rx 53 low (two hi lo) e rest = q + 1) := Lib.hid fun hv hc => by
      have h1 := RV.out; have h2 := RX.out
      rw [if_pos (by show V = 9007199254740992; omega)] at h1 h2
      exact ⟨h1, h2⟩
    clear RV RX v2
    have nne : ((n : Int) == 9007199254740992) = false := by simp; omega
    have qe2 : max ((k : Int) + e - 53) low = q := qe'
    have s3 : IntKind.i64.wrap ((k : Int) + e - 53) = (k : Int) + e - 53 := s2
    clear qe' s2
    by_cases c1 : l % 2 = 1
    · rw [decide_eq_true c1] at l1
      cases t
      · cases rest
        · by_cases c2 : n % 2 = 1
          · rw [decide_eq_true c2] at l2
            have K : l % 2 = 1 ∧ (false = true ∨ false = true ∨ n % 2 = 1) := ⟨c1, .inr (.inr c2)⟩
            have HV : Hid (V = n + 1) := Lib.hid (V1.out.trans (if_pos (K)))
            clear V1 KEEP K c1 c2
            by_cases hc : n + 1 = 9007199254740992
            · have bc : ((n : Int) + 1 == 9007199254740992) = true := by simp; omega
              have HC := Lib.hid hc
              have h2 : ((n : Int) + 1) / 2 = ((4503599627370496 : Nat) : Int) := by omega
              have H2 := Lib.hid h2
              clear hc UPN h2
              go_enter Try.func60, Try.ntmps60
              go_wp2
              go_quiet ((go_at_call 67; exact quiet_left (HL.out _)))
              go_wp2_with (first
                | (go_at_call 42; (with_reducible refine (HA.out _).mono ?_); rintro e1 w1 ⟨rfl, hb1⟩)
                | (go_at_call 42; (with_reducible refine (HB.out _).mono ?_); rintro e2 w2 ⟨rfl, hb2⟩; have hcl := CEL.out _ _ _ hb1 hb2))
              go_ret2
              refine ⟨?_, FIN.out _ _ _ hb1 hb2⟩
              rw [H2.out]
              exact round_ret (UPC.out HV.out HC.out).1 (UPC.out HV.out HC.out).2
            · have bc : ((n : Int) + 1 == 9007199254740992) = false := by simp; omega
              have HC := Lib.hid hc
              clear hc UPC
              go_enter Try.func60, Try.ntmps60
              go_wp2
              go_quiet ((go_at_call 67; exact quiet_left (HL.out _)))
              go_wp2_with (first
                | (go_at_call 42; (with_reducible refine (HA.out _).mono ?_); rintro e1 w1 ⟨rfl, hb1⟩)
                | (go_at_call 42; (with_reducible refine (HB.out _).mono ?_); rintro e2 w2 ⟨rfl, hb2⟩; have hcl := CEL.out _ _ _ hb1 hb2))
              go_ret2
              refine ⟨?_, FIN.out _ _ _ hb1 hb2⟩
              exact round_ret (a := n + 1) (UPN.out HV.out HC.out).1 (UPN.out HV.out HC.out).2
          · rw [decide_eq_false c2] at l2
            have K : ¬ (l % 2 = 1 ∧ (false = true ∨ false = true ∨ n % 2 = 1)) := by rintro ⟨_, h | h | h⟩; cases h; cases h; exact c2 h
            have HV : Hid (V = n) := Lib.hid (V1.out.trans (if_neg (K)))
            clear V1 UPN UPC K c1 c2
            go_enter Try.func60, Try.ntmps60
            go_wp2
            go_quiet ((go_at_call 67; exact quiet_left (HL.out _)))
            go_wp2_with (first
              | (go_at_call 42; (with_reducible refine (HA.out _).mono ?_); rintro e1 w1 ⟨rfl, hb1⟩)
              | (go_at_call 42; (with_reducible refine (HB.out _).mono ?_); rintro e2 w2 ⟨rfl, hb2⟩; have hcl := CEL.out _ _ _ hb1 hb2))
            go_ret2
            refine ⟨?_, FIN.out _ _ _ hb1 hb2⟩
            exact round_ret (KEEP.out HV.out).1 (KEEP.out HV.out).2
        · have K : l % 2 = 1 ∧ (false = true ∨ true = true ∨ n % 2 = 1) := ⟨c1, .inr (.inl rfl)⟩
          have HV : Hid (V = n + 1) := Lib.hid (V1.out.trans (if_pos (K)))
          clear V1 KEEP K c1
          by_cases hc : n + 1 = 9007199254740992
          · have bc : ((n : Int) + 1 == 9007199254740992) = true := by simp; omega
            have HC := Lib.hid hc
            have h2 : ((n : Int) + 1) / 2 = ((4503599627370496 : Nat) : Int) := by omega
            have H2 := Lib.hid h2
            clear hc UPN h2
            go_enter Try.func60, Try.ntmps60
            go_wp2
            go_quiet ((go_at_call 67; exact quiet_left (HL.out _)))
            go_wp2_with (first
              | (go_at_call 42; (with_reducible refine (HA.out _).mono ?_); rintro e1 w1 ⟨rfl, hb1⟩)
              | (go_at_call 42; (with_reducible refine (HB.out _).mono ?_); rintro e2 w2 ⟨rfl, hb2⟩; have hcl := CEL.out _ _ _ hb1 hb2))
            go_ret2
            refine ⟨?_, FIN.out _ _ _ hb1 hb2⟩
            rw [H2.out]
            exact round_ret (UPC.out HV.out HC.out).1 (UPC.out HV.out HC.out).2
          · have bc : ((n : Int) + 1 == 9007199254740992) = false := by simp; omega
            have HC := Lib.hid hc
            clear hc UPC
            go_enter Try.func60, Try.ntmps60
            go_wp2
            go_quiet ((go_at_call 67; exact quiet_left (HL.out _)))
            go_wp2_with (first
              | (go_at_call 42; (with_reducible refine (HA.out _).mono ?_); rintro e1 w1 ⟨rfl, hb1⟩)
              | (go_at_call 42; (with_reducible refine (HB.out _).mono ?_); rintro e2 w2 ⟨rfl, hb2⟩; have hcl := CEL.out _ _ _ hb1 hb2))
            go_ret2
            refine ⟨?_, FIN.out _ _ _ hb1 hb2⟩
            exact round_ret (a := n + 1) (UPN.out HV.out HC.out).1 (UPN.out HV.out HC.out).2
      · have K : l % 2 = 1 ∧ (true = true ∨ rest = true ∨ n % 2 = 1) := ⟨c1, .inl rfl⟩
        have HV : Hid (V = n + 1) := Lib.hid (V1.out.trans (if_pos (K)))
        clear V1 KEEP K c1
        by_cases hc : n + 1 = 9007199254740992
        · have bc : ((n : Int) + 1 == 9007199254740992) = true := by simp; omega
          have HC := Lib.hid hc
          have h2 : ((n : Int) + 1) / 2 = ((4503599627370496 : Nat) : Int) := by omega
          have H2 := Lib.hid h2
          clear hc UPN h2
          go_enter Try.func60, Try.ntmps60
          go_wp2
          go_quiet ((go_at_call 67; exact quiet_left (HL.out _)))
          go_wp2_with (first
            | (go_at_call 42; (with_reducible refine (HA.out _).mono ?_); rintro e1 w1 ⟨rfl, hb1⟩)
            | (go_at_call 42; (with_reducible refine (HB.out _).mono ?_); rintro e2 w2 ⟨rfl, hb2⟩; have hcl := CEL.out _ _ _ hb1 hb2))
          go_ret2
          refine ⟨?_, FIN.out _ _ _ hb1 hb2⟩
          rw [H2.out]
          exact round_ret (UPC.out HV.out HC.out).1 (UPC.out HV.out HC.out).2
        · have bc : ((n : Int) + 1 == 9007199254740992) = false := by simp; omega
          have HC := Lib.hid hc
          clear hc UPC
          go_enter Try.func60, Try.ntmps60
          go_wp2
          go_quiet ((go_at_call 67; exact quiet_left (HL.out _)))
          go_wp2_with (first
            | (go_at_call 42; (with_reducible refine (HA.out _).mono ?_); rintro e1 w1 ⟨rfl, hb1⟩)
            | (go_at_call 42; (with_reducible refine (HB.out _).mono ?_); rintro e2 w2 ⟨rfl, hb2⟩; have hcl := CEL.out _ _ _ hb1 hb2))
          go_ret2
          refine ⟨?_, FIN.out _ _ _ hb1 hb2⟩
          exact round_ret (a := n + 1) (UPN.out HV.out HC.out).1 (UPN.out HV.out HC.out).2
    · rw [decide_eq_false c1] at l1
      have K : ¬ (l % 2 = 1 ∧ (t = true ∨ rest = true ∨ n % 2 = 1)) := fun h => c1 h.1
      have HV : Hid (V = n) := Lib.hid (V1.out.trans (if_neg (K)))
      clear V1 UPN UPC K c1
      go_enter Try.func60, Try.ntmps60
      go_wp2
      go_quiet ((go_at_call 67; exact quiet_left (HL.out _)))
      go_wp2_with (first
        | (go_at_call 42; (with_reducible refine (HA.out _).mono ?_); rintro e1 w1 ⟨rfl, hb1⟩)
        | (go_at_call 42; (with_reducible refine (HB.out _).mono ?_); rintro e2 w2 ⟨rfl, hb2⟩; have hcl := CEL.out _ _ _ hb1 hb2))
      go_ret2
      refine ⟨?_, FIN.out _ _ _ hb1 hb2⟩
      exact round_ret (KEEP.out HV.out).1 (KEEP.out HV.out).2
  · have n52 : n < 16777216 := v2
    have KEEP : Hid (V = n → rv 24 low (two hi lo) e rest = n ∧ rx 24 low (two hi lo) e rest = q) := Lib.hid fun hv => by
      have h1 := RV.out; have h2 := RX.out
      rw [if_neg (by show ¬ V = 16777216; omega)] at h1 h2
      exact ⟨h1.trans hv, h2⟩
    have UPN : Hid (V = n + 1 → ¬ n + 1 = 16777216 → rv 24 low (two hi lo) e rest = n + 1 ∧ rx 24 low (two hi lo) e rest = q) := Lib.hid fun hv hc => by
      have h1 := RV.out; have h2 := RX.out
      rw [if_neg (by show ¬ V = 16777216; omega)] at h1 h2
      exact ⟨h1.trans hv, h2⟩
    have UPC : Hid (V = n + 1 → n + 1 = 16777216 → rv 24 low (two hi lo) e rest = 8388608 ∧ rx 24 low (two hi lo) e rest = q + 1) := Lib.hid fun hv hc => by
      have h1 := RV.out; have h2 := RX.out
      rw [if_pos (by show V = 16777216; omega)] at h1 h2
      exact ⟨h1, h2⟩
    clear RV RX v2
    have nne : ((n : Int) == 16777216) = false := by simp; omega
    have qe2 : max ((k : Int) + e - 24) low = q := qe'
    have s3 : IntKind.i64.wrap ((k : Int) + e - 24) = (k : Int) + e - 24 := s2
    clear qe' s2
    by_cases c1 : l % 2 = 1
    · rw [decide_eq_true c1] at l1
      cases t
      · cases rest
        · by_cases c2 : n % 2 = 1
          · rw [decide_eq_true c2] at l2
            have K : l % 2 = 1 ∧ (false = true ∨ false = true ∨ n % 2 = 1) := ⟨c1, .inr (.inr c2)⟩
            have HV : Hid (V = n + 1) := Lib.hid (V1.out.trans (if_pos (K)))
            clear V1 KEEP K c1 c2
            by_cases hc : n + 1 = 16777216
            · have bc : ((n : Int) + 1 == 16777216) = true := by simp; omega
              have HC := Lib.hid hc
              have h2 : ((n : Int) + 1) / 2 = ((8388608 : Nat) : Int) := by omega
              have H2 := Lib.hid h2
              clear hc UPN h2
              go_enter Try.func60, Try.ntmps60
              go_wp2
              go_quiet ((go_at_call 67; exact quiet_left (HL.out _)))
              go_wp2_with (first
                | (go_at_call 42; (with_reducible refine (HA.out _).mono ?_); rintro e1 w1 ⟨rfl, hb1⟩)
                | (go_at_call 42; (with_reducible refine (HB.out _).mono ?_); rintro e2 w2 ⟨rfl, hb2⟩; have hcl := CEL.out _ _ _ hb1 hb2))
              go_ret2
              refine ⟨?_, FIN.out _ _ _ hb1 hb2⟩
              rw [H2.out]
              exact round_ret (UPC.out HV.out HC.out).1 (UPC.out HV.out HC.out).2
            · have bc : ((n : Int) + 1 == 16777216) = false := by simp; omega
              have HC := Lib.hid hc
              clear hc UPC
              go_enter Try.func60, Try.ntmps60
              go_wp2
              go_quiet ((go_at_call 67; exact quiet_left (HL.out _)))
              go_wp2_with (first
                | (go_at_call 42; (with_reducible refine (HA.out _).mono ?_); rintro e1 w1 ⟨rfl, hb1⟩)
                | (go_at_call 42; (with_reducible refine (HB.out _).mono ?_); rintro e2 w2 ⟨rfl, hb2⟩; have hcl := CEL.out _ _ _ hb1 hb2))
              go_ret2
              refine ⟨?_, FIN.out _ _ _ hb1 hb2⟩
              exact round_ret (a := n + 1) (UPN.out HV.out HC.out).1 (UPN.out HV.out HC.out).2
          · rw [decide_eq_false c2] at l2
            have K : ¬ (l % 2 = 1 ∧ (false = true ∨ false = true ∨ n % 2 = 1)) := by rintro ⟨_, h | h | h⟩; cases h; cases h; exact c2 h
            have HV : Hid (V = n) := Lib.hid (V1.out.trans (if_neg (K)))
            clear V1 UPN UPC K c1 c2
            go_enter Try.func60, Try.ntmps60
            go_wp2
            go_quiet ((go_at_call 67; exact quiet_left (HL.out _)))
            go_wp2_with (first
              | (go_at_call 42; (with_reducible refine (HA.out _).mono ?_); rintro e1 w1 ⟨rfl, hb1⟩)
              | (go_at_call 42; (with_reducible refine (HB.out _).mono ?_); rintro e2 w2 ⟨rfl, hb2⟩; have hcl := CEL.out _ _ _ hb1 hb2))
            go_ret2
            refine ⟨?_, FIN.out _ _ _ hb1 hb2⟩
            exact round_ret (KEEP.out HV.out).1 (KEEP.out HV.out).2
        · have K : l % 2 = 1 ∧ (false = true ∨ true = true ∨ n % 2 = 1) := ⟨c1, .inr (.inl rfl)⟩
          have HV : Hid (V = n + 1) := Lib.hid (V1.out.trans (if_pos (K)))
          clear V1 KEEP K c1
          by_cases hc : n + 1 = 16777216
          · have bc : ((n : Int) + 1 == 16777216) = true := by simp; omega
            have HC := Lib.hid hc
            have h2 : ((n : Int) + 1) / 2 = ((8388608 : Nat) : Int) := by omega
            have H2 := Lib.hid h2
            clear hc UPN h2
            go_enter Try.func60, Try.ntmps60
            go_wp2
            go_quiet ((go_at_call 67; exact quiet_left (HL.out _)))
            go_wp2_with (first
              | (go_at_call 42; (with_reducible refine (HA.out _).mono ?_); rintro e1 w1 ⟨rfl, hb1⟩)
              | (go_at_call 42; (with_reducible refine (HB.out _).mono ?_); rintro e2 w2 ⟨rfl, hb2⟩; have hcl := CEL.out _ _ _ hb1 hb2))
            go_ret2
            refine ⟨?_, FIN.out _ _ _ hb1 hb2⟩
            rw [H2.out]
            exact round_ret (UPC.out HV.out HC.out).1 (UPC.out HV.out HC.out).2
          · have bc : ((n : Int) + 1 == 16777216) = false := by simp; omega
            have HC := Lib.hid hc
            clear hc UPC
            go_enter Try.func60, Try.ntmps60
            go_wp2
            go_quiet ((go_at_call 67; exact quiet_left (HL.out _)))
            go_wp2_with (first
              | (go_at_call 42; (with_reducible refine (HA.out _).mono ?_); rintro e1 w1 ⟨rfl, hb1⟩)
              | (go_at_call 42; (with_reducible refine (HB.out _).mono ?_); rintro e2 w2 ⟨rfl, hb2⟩; have hcl := CEL.out _ _ _ hb1 hb2))
            go_ret2
            refine ⟨?_, FIN.out _ _ _ hb1 hb2⟩
            exact round_ret (a := n + 1) (UPN.out HV.out HC.out).1 (UPN.out HV.out HC.out).2
      · have K : l % 2 = 1 ∧ (true = true ∨ rest = true ∨ n % 2 = 1) := ⟨c1, .inl rfl⟩
        have HV : Hid (V = n + 1) := Lib.hid (V1.out.trans (if_pos (K)))
        clear V1 KEEP K c1
        by_cases hc : n + 1 = 16777216
        · have bc : ((n : Int) + 1 == 16777216) = true := by simp; omega
          have HC := Lib.hid hc
          have h2 : ((n : Int) + 1) / 2 = ((8388608 : Nat) : Int) := by omega
          have H2 := Lib.hid h2
          clear hc UPN h2
          go_enter Try.func60, Try.ntmps60
          go_wp2
          go_quiet ((go_at_call 67; exact quiet_left (HL.out _)))
          go_wp2_with (first
            | (go_at_call 42; (with_reducible refine (HA.out _).mono ?_); rintro e1 w1 ⟨rfl, hb1⟩)
            | (go_at_call 42; (with_reducible refine (HB.out _).mono ?_); rintro e2 w2 ⟨rfl, hb2⟩; have hcl := CEL.out _ _ _ hb1 hb2))
          go_ret2
          refine ⟨?_, FIN.out _ _ _ hb1 hb2⟩
          rw [H2.out]
          exact round_ret (UPC.out HV.out HC.out).1 (UPC.out HV.out HC.out).2
        · have bc : ((n : Int) + 1 == 16777216) = false := by simp; omega
          have HC := Lib.hid hc
          clear hc UPC
          go_enter Try.func60, Try.ntmps60
          go_wp2
          go_quiet ((go_at_call 67; exact quiet_left (HL.out _)))
          go_wp2_with (first
            | (go_at_call 42; (with_reducible refine (HA.out _).mono ?_); rintro e1 w1 ⟨rfl, hb1⟩)
            | (go_at_call 42; (with_reducible refine (HB.out _).mono ?_); rintro e2 w2 ⟨rfl, hb2⟩; have hcl := CEL.out _ _ _ hb1 hb2))
          go_ret2
          refine ⟨?_, FIN.out _ _ _ hb1 hb2⟩
          exact round_ret (a := n + 1) (UPN.out HV.out HC.out).1 (UPN.out HV.out HC.out).2
    · rw [decide_eq_false c1] at l1
      have K : ¬ (l % 2 = 1 ∧ (t = true ∨ rest = true ∨ n % 2 = 1)) := fun h => c1 h.1
      have HV : Hid (V = n) := Lib.hid (V1.out.trans (if_neg (K)))
      clear V1 UPN UPC K c1
      go_enter Try.func60, Try.ntmps60
      go_wp2
      go_quiet ((go_at_call 67; exact quiet_left (HL.out _)))
      go_wp2_with (first
        | (go_at_call 42; (with_reducible refine (HA.out _).mono ?_); rintro e1 w1 ⟨rfl, hb1⟩)
        | (go_at_call 42; (with_reducible refine (HB.out _).mono ?_); rintro e2 w2 ⟨rfl, hb2⟩; have hcl := CEL.out _ _ _ hb1 hb2))
      go_ret2
      refine ⟨?_, FIN.out _ _ _ hb1 hb2⟩
      exact round_ret (KEEP.out HV.out).1 (KEEP.out HV.out).2
theorem round_c (p : Nat) (low high : Int) (hi lo : Nat) (e : Int) (rest : Bool) (hh : W hi) (hl : W lo) (he : -200000 ≤ e ∧ e ≤ 200000) (hp : p = 53 ∨ p = 24) (hlow : -2000 ≤ low ∧ low ≤ 0) (w : World) :
    Calls Try.prog 60 #[fmt p low high, .int .u64 hi, .int .u64 lo, .int .i64 e, .bool rest] w fun e' w' => e' = .returned (RoundV p low (two hi lo) e rest) ∧ Below w.heap.size w w' := by
  by_cases h : qz p low (bl (two hi lo)) e ≤ e
  · exact round_left p low high hi lo e rest hh hl he hp hlow h w
  · exact round_right p low high hi lo e rest hh hl he hp hlow (by omega) w
end Go.Proofs.Ytkifdppppihjcaa

namespace Go.Proofs.Ytkifdppppihjcaa
set_option linter.unusedVariables false
set_option linter.unusedSimpArgs false
open Go.RowKit Go.Shelf SF

theorem double_c (w : World) : Calls Try.prog 59 #[] w fun e w' => e = .returned (fmt 53 (-1074) 971) ∧ Below w.heap.size w w' := by
  go_enter Try.func59, Try.ntmps59
  go_wp2
  exact bodyPost_ret (v := fmt 53 (-1074) 971) (by simp [fmt, results, Try.results59, go_sem]) rfl ⟨rfl, (Below.refl _ _).alloc (Nat.le_refl _) _⟩
set_option maxRecDepth 100000 in
set_option maxHeartbeats 2000000 in
theorem pack_c (neg : Bool) (hi lo : Nat) (e : Int) (rest : Bool) (hh : W hi) (hl : W lo) (w : World) : Calls Try.prog 41 #[.bool neg, .int .u64 hi, .int .u64 lo, .int .i64 e, .bool rest] w fun e' w' => e' = .returned (.int .u64 ((sg neg (pat (two hi lo) e rest) : Nat) : Int)) ∧ Below w.heap.size w w' := by
  have bz := bor_eq hh hl
  have tz := two_zero (hi := hi) (lo := lo)
  by_cases h0 : hi = 0 ∧ lo = 0
  · have e0 : two hi lo = 0 := tz.2 h0
    rw [e0, pat_zero]
    rw [decide_eq_true h0] at bz
    have SS := Lib.hid (fun w => sign_c 0 neg (by decide) w)
    obtain ⟨r, hr⟩ : ∃ r, sg neg 0 = r := ⟨_, rfl⟩
    have S0 : Hid (∀ w, Calls Try.prog 37 #[.int .u64 0, .bool neg] w fun e w' => e = .returned (.int .u64 (r : Int)) ∧ w = w') := Lib.hid (by rw [← hr]; exact SS.out)
    rw [hr]
    clear SS tz e0 hr hh hl h0
    go_enter Try.func41, Try.ntmps41
    go_wp2_with (go_at_call 37; (with_reducible refine (S0.out _).mono ?_); rintro e w' ⟨rfl, rfl⟩)
    go_ret
    exact ⟨rfl, Below.refl _ _⟩
  · have n0 : two hi lo ≠ 0 := fun g => h0 (tz.1 g)
    rw [decide_eq_false h0] at bz
    have hb : bl (two hi lo) ≤ 128 := bl_le_of_lt (k := 128) (by rw [show (2 : Nat) ^ 128 = 340282366920938463463374607431768211456 by decide]; exact two_lt hh hl)
    have pc := pat_clamp (two hi lo) e rest 100000 (by decide) (by omega)
    obtain ⟨c, hc⟩ : ∃ c, min (max e (-100000)) 100000 = c := ⟨_, rfl⟩
    rw [hc] at pc
    rw [← pc]
    have cb : -100000 ≤ c ∧ c ≤ 100000 := by omega
    have R := fun w => round_c 53 (-1074) 971 hi lo c rest hh hl (by omega) (.inl rfl) (by decide) w
    unfold RoundV at R
    have ov := patG_over (p := 53) (low := -1074) (high := 971) (m := two hi lo) (e := c) (rest := rest) (by decide) n0 (by decide)
    have un := patG_under (p := 53) (low := -1074) (high := 971) (m := two hi lo) (e := c) (rest := rest) (by decide) n0 (by decide)
    have vl : rv 53 (-1074) (two hi lo) c rest < 9007199254740992 := by
      have := vz_le 53 (-1074) (two hi lo) c rest
      unfold rv
      by_cases g : vz 53 (-1074) (two hi lo) c rest = 2 ^ 53
      · rw [if_pos g]; decide
      · rw [if_neg g]
        have e53 : (2 : Nat) ^ 53 = 9007199254740992 := by decide
        omega
    have xl : -1074 ≤ rx 53 (-1074) (two hi lo) c rest := by
      have := qz_ge 53 (-1074) (bl (two hi lo)) c
      unfold rx; split <;> omega
    have pe : pat (two hi lo) c rest = patG 53 (-1074) 971 (two hi lo) c rest := rfl
    obtain ⟨V, hV⟩ : ∃ v, rv 53 (-1074) (two hi lo) c rest = v := ⟨_, rfl⟩
    obtain ⟨X, hX⟩ : ∃ v, rx 53 (-1074) (two hi lo) c rest = v := ⟨_, rfl⟩
    obtain ⟨P, hP⟩ : ∃ v, patG 53 (-1074) 971 (two hi lo) c rest = v := ⟨_, rfl⟩
    rw [hV, hX] at R
    rw [hV] at un vl
    rw [hX] at ov un xl
    rw [hP] at ov un pe
    have hPle := hP
    rw [pe]
    have DB := Lib.hid double_c
    have hc' := hc
    have Pl : P ≤ 9218868437227405312 := by rw [← hP]; exact patG_le 53 (-1074) 971 _ _ _
    clear pe hV hX hP hPle pc hb n0 tz hh hl h0 hc
    by_cases hx : 971 < X
    · have hp : P = 9218868437227405312 := ov hx
      have SS := fun w => sign_c P neg (by omega) w
      rw [hp] at SS ⊢
      obtain ⟨r, hr⟩ : ∃ r, sg neg 9218868437227405312 = r := ⟨_, rfl⟩
      rw [hr] at SS ⊢
      have S0 : Hid (∀ w, Calls Try.prog 37 #[.int .u64 9218868437227405312, .bool neg] w fun e w' => e = .returned (.int .u64 (r : Int)) ∧ w = w') := Lib.hid SS
      have HR := Lib.hid R
      clear SS R ov un hp hr vl Pl
      go_enter Try.func41, Try.ntmps41
      go_wp2_with (first
        | (go_at_call 59; (with_reducible refine (DB.out _).mono ?_); rintro e1 w1 ⟨rfl, hb1⟩)
        | (go_at_call 60; (with_reducible refine (HR.out _).mono ?_); rintro e2 w2 ⟨rfl, hb2⟩)
        | (go_at_call 37; (with_reducible refine (S0.out _).mono ?_); rintro e3 w3 ⟨rfl, rfl⟩))
      go_ret
      exact ⟨rfl, below_then hb1 hb1.size hb2⟩
    · have hp := un (by omega)
      rw [show (2 : Nat) ^ (53 - 1) = 4503599627370496 by decide] at hp
      clear ov un
      by_cases hv : V < 4503599627370496
      · rw [if_pos hv] at hp
        subst hp
        have SS := fun w => sign_c P neg (by omega) w
        obtain ⟨r, hr⟩ : ∃ r, sg neg P = r := ⟨_, rfl⟩
        rw [hr] at SS ⊢
        obtain ⟨z, hz⟩ : ∃ z : Int, (P : Int) = z := ⟨_, rfl⟩
        rw [hz] at SS R
        have S0 := Lib.hid SS
        have HR := Lib.hid R
        have hvi : z < 4503599627370496 := by omega
        clear SS R hr Pl hv vl hz
        go_enter Try.func41, Try.ntmps41
        go_wp2_with (first
          | (go_at_call 59; (with_reducible refine (DB.out _).mono ?_); rintro e1 w1 ⟨rfl, hb1⟩)
          | (go_at_call 60; (with_reducible refine (HR.out _).mono ?_); rintro e2 w2 ⟨rfl, hb2⟩)
          | (go_at_call 37; (with_reducible refine (S0.out _).mono ?_); rintro e3 w3 ⟨rfl, rfl⟩))
        go_ret
        exact ⟨rfl, below_then hb1 hb1.size hb2⟩
      · rw [if_neg hv] at hp
        have SS := fun w => sign_c P neg (by omega) w
        obtain ⟨r, hr⟩ : ∃ r, sg neg P = r := ⟨_, rfl⟩
        rw [hr] at SS ⊢
        obtain ⟨z, hz⟩ : ∃ z : Int, (V : Int) = z := ⟨_, rfl⟩
        rw [hz] at R
        have HR := Lib.hid R
        obtain ⟨Y, hY⟩ : ∃ Y : Nat, X + 1074 + 1 = (Y : Int) := ⟨(X + 1075).toNat, by omega⟩
        have eq : bits .or .u64 ((X + 1074 + 1) * 4503599627370496) (bits .and .u64 z 4503599627370495) = (P : Int) := by
          rw [← hz, band_frac (W_of (by omega)), hY, show ((Y : Int) * 4503599627370496) = ((Y * 4503599627370496 : Nat) : Int) by omega]
          rw [bor_at (s := 52) (by rw [show (2 : Nat) ^ 52 = 4503599627370496 by decide]; exact Nat.mul_mod_left _ _) (by rw [show (2 : Nat) ^ 52 = 4503599627370496 by decide]; unfold fr; omega) (W_of (by omega)) (W_of (by unfold fr; omega))]
          unfold fr
          rw [show (X - -1074 + 1).toNat = Y by omega] at hp
          omega
        obtain ⟨y, hy⟩ : ∃ y : Int, (P : Int) = y := ⟨_, rfl⟩
        rw [hy] at SS eq
        have S0 := Lib.hid SS
        have hvi : ¬ z < 4503599627370496 := by omega
        clear SS R hr hp Pl hv vl hz hY hy
        go_enter Try.func41, Try.ntmps41
        go_wp2_with (first
          | (go_at_call 59; (with_reducible refine (DB.out _).mono ?_); rintro e1 w1 ⟨rfl, hb1⟩)
          | (go_at_call 60; (with_reducible refine (HR.out _).mono ?_); rintro e2 w2 ⟨rfl, hb2⟩)
          | (go_at_call 37; (with_reducible refine (S0.out _).mono ?_); rintro e3 w3 ⟨rfl, rfl⟩))
        go_ret
        exact ⟨rfl, below_then hb1 hb1.size hb2⟩
end Go.Proofs.Ytkifdppppihjcaa
