/- Texts U, for this seat. -/
import Derived.Test.YtkifdppppihjcaaR
import Derived.Laws.BitsAllLaws
namespace Go.Proofs.Ytkifdppppihjcaa
set_option linter.unusedVariables false
set_option linter.unusedSimpArgs false
open Go.RowKit Go.ChangeShapes Go.WideShapes SF

theorem Rd.parts {w : World} {k : IntKind} {l : List Int} {a : Option Addr} {n c : Nat} (h : Rd w k (.slice a n c) l) : n = l.length ∧ n ≤ c ∧ (l = [] ∨ ∃ g off, a = some ⟨g, off, none⟩ ∧ ∀ i, i < n → w.cell? ⟨g, off + i, none⟩ = some (.int k (l.getD i 0))) := by
  obtain ⟨a', c', e, hc, hr⟩ := h
  injection e with e1 e2 e3
  subst e1 e2 e3
  exact ⟨rfl, hc, hr⟩
theorem Rd.addr {w : World} {k : IntKind} {l : List Int} {a : Option Addr} {n c : Nat} (h : Rd w k (.slice a n c) l) (h0 : 0 < n) : ∃ g off, a = some ⟨g, off, none⟩ ∧ ∀ i, i < n → w.cell? ⟨g, off + i, none⟩ = some (.int k (l.getD i 0)) := by
  obtain ⟨hl, hc, h | h⟩ := h.parts
  · subst h; simp at hl; omega
  · exact h
theorem btn {w w1 w2 : World} (h1 : Below w.heap.size w w1) (h2 : Below w1.heap.size w1 w2) : Below w.heap.size w w2 := below_then h1 h1.size h2
theorem info_u32 : (Try.prog.info? 57).map (fun i => (i.zero, i.size, i.bytes)) = some (some (.int .u32 0), 1, 4) := by kernel_rfl
/-- A slice that reads as a number's words. -/
def Nw (w : World) (v : Value) (n : Nat) : Prop := Rd w .u32 v (ws n)
theorem trim_rd {w : World} {a : Option Addr} {n c : Nat} {l : List Int} (hr : Rd w .u32 (.slice a n c) l) (hw : Words l) {m : Nat} (hm : m ≤ n) (h0 : ∀ i, m ≤ i → i < n → l.getD i 0 = 0) (ht : m = 0 ∨ l.getD (m - 1) 0 ≠ 0) : m = (ws (wv l)).length ∧ Nw w (.slice a m c) (wv l) ∧ l.take m = ws (wv l) := by
  have hn := hr.parts.1
  have t := trim_done hw (n := m) (by omega) (fun i h1 h2 => h0 i h1 (by omega)) ht
  refine ⟨t.2, ?_, t.1⟩
  have := hr.take hm
  rw [t.1] at this
  exact this
/-- Nothing that lay there before is in it. -/
def New (w : World) (v : Value) : Prop := ∀ g, v.ownBlock = some g → w.heap.size ≤ g
/-- Two words in a new block. -/
theorem rd_two (w : World) (x y : Int) (t : TypeId) : Rd (w.alloc (.cells #[.int .u32 x, .int .u32 y] t)) .u32 (.slice (some ⟨w.heap.size, 0, none⟩) 2 2) [x, y] :=
  Rd.mk _ 0 rfl (by decide) (fun i hi => by
    match i, hi with
    | 0, _ => simp [go_sem]
    | 1, _ => simp [go_sem])
theorem or_low {x y : Int} (hx : 0 ≤ x ∧ x < 4294967296) (hy : 0 ≤ y ∧ y < 4294967296) : bits .or .u64 x (y * 4294967296) = x + 4294967296 * y := by
  obtain ⟨X, rfl⟩ := Int.eq_ofNat_of_zero_le hx.1
  obtain ⟨Y, rfl⟩ := Int.eq_ofNat_of_zero_le hy.1
  have e : (Y : Int) * 4294967296 = ((Y * 4294967296 : Nat) : Int) := by omega
  rw [e, u64_or_nat _ _ (by omega) (by omega), Nat.or_comm, nat_join 32 (Y * 4294967296) X (by rw [show (2 : Nat) ^ 32 = 4294967296 by decide]; omega) (by rw [show (2 : Nat) ^ 32 = 4294967296 by decide]; omega)]
  omega
end Go.Proofs.Ytkifdppppihjcaa

namespace Go.Proofs.Ytkifdppppihjcaa
set_option linter.unusedVariables false
set_option linter.unusedSimpArgs false
open Go.RowKit Go.ChangeShapes Go.WideShapes SF

theorem ws_len_nw {l : List Int} (hw : Words l) {n : Nat} (h : n = l.length) (hn : n ≤ 100000000) : (ws (wv l)).length ≤ 100000000 := by
  have := ws_len_le (len_bound hw); omega
theorem own_rd {w : World} {B : Nat} {v : Value} {n : Nat} {l : List Int} (h : w.ownsRow B 57 1 v n (l.map (Value.int .u32))) : Rd w .u32 v l := Rd.of_own h
end Go.Proofs.Ytkifdppppihjcaa

namespace Go.Proofs.Ytkifdppppihjcaa
set_option linter.unusedVariables false
set_option linter.unusedSimpArgs false
open Go.RowKit Go.ChangeShapes Go.WideShapes SF
/-- A made array of words, of the call's own. -/
def Arr (w : World) (G n : Nat) (o : List Int) : Prop := w.ownsRow G 57 1 (.slice (some ⟨G, 0, none⟩) n n) n (o.map (Value.int .u32))
theorem Arr.len {w : World} {G n : Nat} {o : List Int} (h : Arr w G n o) : o.length = n := by have := h.1; simpa using this
theorem Arr.cell {w : World} {G n : Nat} {o : List Int} (h : Arr w G n o) {j : Nat} (hj : j < n) : w.cell? ⟨G, j, none⟩ = some (.int .u32 (o.getD j 0)) := by
  have hl := h.len
  rw [World.ownsRow.cellAt h j (by omega), List.getElem?_map, List.getElem?_eq_getElem (by omega), List.getD_eq_getElem?_getD, List.getElem?_eq_getElem (by omega)]; rfl
theorem Arr.frozen {w : World} {G n : Nat} {o : List Int} (h : Arr w G n o) (j : Nat) : w.frozen? ⟨G, j, none⟩ = false := World.ownsRow.frozenAt h j
theorem Arr.set {w : World} {G n : Nat} {o : List Int} (h : Arr w G n o) (j : Nat) (x : Int) : Arr (w.setCell ⟨G, j, none⟩ (.int .u32 x)) G n (o.set j x) := by
  have := (World.ownsRow.stored h j (.int .u32 x)).1
  unfold Arr
  rw [List.map_set]; exact this
theorem Arr.rd {w : World} {G n : Nat} {o : List Int} (h : Arr w G n o) : Rd w .u32 (.slice (some ⟨G, 0, none⟩) n n) o := own_rd h
theorem Arr.below {w w' : World} {G n : Nat} {o : List Int} (h : Arr w G n o) (hb : Below w.heap.size w w') : Arr w' G n o := by
  rcases h.2 with ⟨h', _⟩ | ⟨g', cap', cur, h', h3, h4, h5, h6, h7, h8⟩
  · simp at h'
  · simp only [Value.slice.injEq, Option.some.injEq, Addr.mk.injEq, and_true, true_and] at h'
    obtain ⟨rfl, rfl⟩ := h'
    refine ⟨h.1, .inr ⟨_, _, cur, rfl, h3, ?_, h5, h6, h7, h8⟩⟩
    have hl : G < w.heap.size := by
      rcases Nat.lt_or_ge G w.heap.size with h | h
      · exact h
      · rw [Array.getElem?_eq_none h] at h4; simp at h4
    rw [hb.block _ hl]; exact h4
theorem wp_make {P : Program} (T : TypeId) (ht : P.underlying T = some (.slice 57)) (hinfo : (P.info? 57).map (fun i => (i.zero, i.size, i.bytes)) = some (some (.int .u32 0), 1, 4)) (w : World) {ops : Array Oper} {rest : List Oper} {o : Oper} {a : Act} {Q : Exit → Act → World → Prop} (hg : o.guard = none) (l : Operand) (hop : o.op = Op.makeSlice T l l) (L : Int) (n : Nat) (hl : a.eval l = .int .i64 L) (hL : L = (n : Int)) (hn : n ≤ 1000000)
    (hK : ∀ w', Arr w' w.heap.size n (List.replicate n 0) → Below w.heap.size w w' → wpList P ops Q rest (a.put o.dst (.slice (some ⟨w.heap.size, 0, none⟩) n n)) w') : wpList P ops Q (o :: rest) a w := by
  obtain ⟨i0, hi, hz0, hz2, hz3⟩ := info_parts hinfo
  refine wpList_make_full w hg l l T hop w.heap.size 57 i0 (.int .u32 0) 1 ht hi hz0 hz2 .i64 .i64 L L n hl hl hL hL (by rw [hz3]; omega) (by unfold maxLen; omega) (Nat.le_refl _) ?_
  intro w' h1 h2
  refine hK w' ?_ ((Below.refl _ w).grown h2 (Nat.le_refl _) (fun k hk => by simp at hk))
  have e : (madeCells (Value.int .u32 0).cells (n * 1)).toList = (List.replicate n (0 : Int)).map (Value.int .u32) := by
    rw [List.map_replicate, Nat.mul_one]
    exact toList_madeCells_one _ _
  rw [e] at h1
  exact h1
/-- A shift to the right on its way. -/
def ShrInv (la : List Int) (q r k : Nat) (o : List Int) : Prop := o.length = k ∧ Words o ∧ wv o = wv (la.drop q) / 2 ^ r % 2 ^ (32 * k)
theorem shrInv_zero (la : List Int) (q r : Nat) : ShrInv la q r 0 [] := ⟨rfl, words_nil, by rw [Nat.mul_zero, Nat.pow_zero, Nat.mod_one]; rfl⟩
theorem getD_drop (la : List Int) (q k : Nat) : (la.drop q).getD k 0 = la.getD (q + k) 0 := by
  rw [List.getD_eq_getElem?_getD, List.getD_eq_getElem?_getD, List.getElem?_drop]
theorem shrInv_next {la o : List Int} {q r k : Nat} {X Y : Int} (wa : Words la) (hr : r < 32) (I : ShrInv la q r k o) (hX : X = la.getD (q + k) 0 + 4294967296 * la.getD (q + k + 1) 0) (hY : X / (2 : Int) ^ r = Y) : 0 ≤ Y ∧ Y < 18446744073709551616 ∧ ShrInv la q r (k + 1) (o ++ [Y % 4294967296]) := by
  obtain ⟨h1, h2, h3⟩ := I
  have wb := words_drop wa q
  have s := shr_step wb h1 hr h3
  rw [getD_drop, getD_drop, ← Nat.add_assoc] at s
  have g0 := getD_word wa (q + k)
  have g1 := getD_word wa (q + k + 1)
  have p : ((2 : Int) ^ r) = ((2 ^ r : Nat) : Int) := by rw [Int.natCast_pow]; rfl
  have e : Y = ((((la.getD (q + k) 0).toNat + 4294967296 * (la.getD (q + k + 1) 0).toNat) / 2 ^ r : Nat) : Int) := by
    rw [← hY, hX, p, Int.natCast_ediv]; congr 1; omega
  have l := Nat.div_le_self ((la.getD (q + k) 0).toNat + 4294967296 * (la.getD (q + k + 1) 0).toNat) (2 ^ r)
  generalize ((la.getD (q + k) 0).toNat + 4294967296 * (la.getD (q + k + 1) 0).toNat) / 2 ^ r = Z at *
  subst e
  refine ⟨by omega, by omega, by rw [List.length_append, h1]; rfl, words_snoc h2 (by omega) (by omega), ?_⟩
  rw [← s]; rfl
theorem shrInv_end {la o : List Int} {q r s : Nat} {k : Nat} (wa : Words la) (I : ShrInv la q r k o) (hk : la.length ≤ q + k) (hs : 32 * q + r = s) (hr : r < 32) : Words o ∧ wv o = wv la / 2 ^ s := by
  obtain ⟨h1, h2, h3⟩ := I
  refine ⟨h2, ?_⟩
  have hl : (la.drop q).length ≤ k := by rw [List.length_drop]; omega
  have e : wv (la.drop q) / 2 ^ r % 2 ^ (32 * k) = wv (la.drop q) / 2 ^ r := by
    apply Nat.mod_eq_of_lt
    refine Nat.lt_of_le_of_lt (Nat.div_le_self _ _) (Nat.lt_of_lt_of_le (wv_lt (words_drop wa q)) (pow_le ?_))
    omega
  have q0 : s / 32 = q := by omega
  have r0 : s % 32 = r := by omega
  have := shr_all wa s
  rw [q0, r0] at this
  rw [h3, e, this]
end Go.Proofs.Ytkifdppppihjcaa
