/- Slices of numbers that are read; strings of bytes: small words for the walks. -/
import Derived.Test.YtocmgdolinajmaaDoorProg
import Derived.WalkKit
import Derived.WalkSpells
import Derived.Below
import Derived.Deep.QuietTactic
import Derived.Laws.AppendOwn
import Derived.Laws.BytesArg
import Derived.Laws.BitsAllLaws
import Derived.Lib.Hide
import Derived.ChangeSlices
import Derived.WideShapes
import Derived.OwnWalk
import Derived.Laws.IdiomStrings
import Derived.Lib.SlBytesConst
import Derived.Maps.AppendAt
namespace Go.Proofs.YtocmgdolinajmaaDoor
set_option linter.unusedVariables false
set_option linter.unusedSimpArgs false
open Go.RowKit Go.ChangeShapes Go.WideShapes

theorem ret1 {k : IntKind} {a b : Int} (h : a = b) : Ending.returned (.int k a) = .returned (.int k b) := by rw [h]
theorem retb {a b : Bool} (h : a = b) : Ending.returned (.bool a) = .returned (.bool b) := by rw [h]
theorem ret2 {k l : IntKind} {a b c d : Int} (h : a = b) (g : c = d) : Ending.returned (.tuple #[.int k a, .int l c]) = .returned (.tuple #[.int k b, .int l d]) := by rw [h, g]
theorem ret3 {k l m : IntKind} {a b c d e f : Int} (h : a = b) (g : c = d) (i : e = f) : Ending.returned (.tuple #[.int k a, .int l c, .int m e]) = .returned (.tuple #[.int k b, .int l d, .int m f]) := by rw [h, g, i]
theorem val_int {k : IntKind} {a b : Int} (h : a = b) : Value.int k a = .int k b := by rw [h]
theorem beq_of {a b : Int} (h : a = b) : (a == b) = true := by simpa using h
theorem bne_of {a b : Int} (h : a = b) : (a != b) = false := by simpa using h
theorem beq_no {a b : Int} (h : ¬ a = b) : (a == b) = false := by simpa using h
theorem bne_no {a b : Int} (h : ¬ a = b) : (a != b) = true := by simpa using h

theorem below_drewN {B : Nat} {a w : World} (h : Below B a w) (n : Nat) : Below B a (w.drewN n) := ⟨h.os, h.tape, h.output, h.size, h.block⟩
theorem below_then {B : Nat} {w w1 w2 : World} (h : Below B w w1) (hB : B ≤ w1.heap.size) (k : Below w1.heap.size w1 w2) : Below B w w2 :=
  h.trans ⟨k.os, k.tape, k.output, k.size, fun i hi => k.block i (Nat.lt_of_lt_of_le hi hB)⟩
theorem cell_below {w w1 : World} (h : Below w.heap.size w w1) {a : Addr} {v : Value} (hc : w.cell? a = some v) : w1.cell? a = some v := (h.cell (World.block_lt_of_cell? w a hc)).trans hc
theorem wf_cell {x : Int} (h : (Lit.int .i64 x).wf = true) : -9223372036854775808 ≤ x ∧ x ≤ 9223372036854775807 := by
  simp [Lit.wf, IntKind.min, IntKind.max, IntKind.signed, IntKind.bits] at h
  exact ⟨by omega, by omega⟩
theorem wf_byte {x : Int} (h : (Lit.int .u8 x).wf = true) : 0 ≤ x ∧ x < 256 := by
  simp [Lit.wf, IntKind.min, IntKind.max, IntKind.signed, IntKind.bits] at h
  exact ⟨by omega, by omega⟩

/-- A slice reads as these numbers. -/
def Rd (w : World) (k : IntKind) (v : Value) (l : List Int) : Prop :=
  ∃ a c, v = .slice a l.length c ∧ l.length ≤ c ∧ (l = [] ∨ ∃ g off, a = some ⟨g, off, none⟩ ∧ ∀ i, i < l.length → w.cell? ⟨g, off + i, none⟩ = some (.int k (l.getD i 0)))
/-- All are bytes. -/
def Byt (l : List Int) : Prop := ∀ x ∈ l, 0 ≤ x ∧ x < 256
theorem Rd.nil (w : World) (k : IntKind) (c : Nat) : Rd w k (.slice none 0 c) [] := ⟨none, c, rfl, Nat.zero_le _, .inl rfl⟩
theorem Rd.below {w w1 : World} {k : IntKind} {v : Value} {l : List Int} (h : Rd w k v l) (hb : Below w.heap.size w w1) : Rd w1 k v l := by
  obtain ⟨a, c, e, hc, hr⟩ := h
  refine ⟨a, c, e, hc, ?_⟩
  rcases hr with h | ⟨g, off, ea, hcell⟩
  · exact .inl h
  · exact .inr ⟨g, off, ea, fun i hi => cell_below hb (hcell i hi)⟩
theorem Rd.drewN {w : World} {k : IntKind} {v : Value} {l : List Int} (h : Rd w k v l) (n : Nat) : Rd (w.drewN n) k v l := h.below (below_drewN (Below.refl _ _) n)
theorem Rd.of_own {w : World} {B e : Nat} {k : IntKind} {v : Value} {n : Nat} {l : List Int} (h : w.ownsRow B e 1 v n (l.map (Value.int k))) : Rd w k v l := by
  have hl : l.length = n := by have := h.1; simp at this; exact this
  rcases h.2 with ⟨rfl, h0⟩ | ⟨g, cap, cur, rfl, hb, hh, hc, _⟩
  · have : l = [] := List.eq_nil_of_length_eq_zero (by omega)
    subst this
    exact Rd.nil _ _ _
  · subst hl
    refine ⟨_, cap, rfl, hc, .inr ⟨g, 0, rfl, fun i hi => ?_⟩⟩
    have := h.cells (g := g) rfl i (.int k (l.getD i 0)) (by simp [List.getElem?_eq_getElem hi, List.getD_eq_getElem?_getD])
    have ha : (⟨g, 0, none⟩ : Addr).add i = ⟨g, 0 + i, none⟩ := by unfold Addr.add; split <;> simp_all
    rwa [ha] at this
theorem Rd.to_string {P : Program} {w : World} {v : Value} {l : List Int} (h : Rd w .u8 v l) {src dst e : TypeId} (hs : P.underlying src = some (.slice e)) (he : P.underlying e = some (.int .u8)) (hd : P.underlying dst = some .string) :
    (convert src dst v).run P w = .ok (.string (strOfNums l)) w := by
  obtain ⟨a, c, rfl, hc, hr⟩ := h
  rcases hr with rfl | ⟨g, off, rfl, hcell⟩
  · cases a with
    | none => exact run_convert_bytes_nil w src e hs he 0 c dst hd
    | some a =>
      have hl : (loadCells a 0).run P w = .ok ([].map (Value.int .u8)).toArray w := run_loadCells_list (P := P) w a [] (fun j v hj => by simp at hj)
      rw [run_convert_bytes_string w src dst e _ _ c hs he hd]
      have := run_bytesToString w a 0 c [] hl
      exact this
  · exact run_convert_bytes_arg w src e hs he g off _ c l rfl hcell dst hd
theorem str_eq {a b : List Int} (ha : Byt a) (hb : Byt b) : ((strOfNums a).toList == (strOfNums b).toList) = (a == b) := by
  rw [Bool.eq_iff_iff]
  simp only [beq_iff_eq]
  constructor
  · intro h
    have h2 : (strOfNums a).data.toList = (strOfNums b).data.toList := by simpa [ByteArray.toList_eq] using h
    rw [strOfNums_data, strOfNums_data] at h2
    clear h
    induction a generalizing b with
    | nil => cases b <;> simp at h2 ⊢
    | cons x a ih =>
      cases b with
      | nil => simp at h2
      | cons y b =>
        simp only [List.map_cons, List.cons.injEq] at h2
        obtain ⟨e, h2⟩ := h2
        have hx := ha x (by simp)
        have hy := hb y (by simp)
        have e2 : (UInt8.ofNat x.toNat).toNat = (UInt8.ofNat y.toNat).toNat := by rw [e]
        simp only [UInt8.toNat_ofNat'] at e2
        rw [ih (fun z hz => ha z (by simp [hz])) (fun z hz => hb z (by simp [hz])) h2]
        congr 1
        omega
  · intro h; rw [h]
theorem Rd.mk {w : World} {k : IntKind} {l : List Int} (g off : Nat) {n c : Nat} (hn : n = l.length) (hc : n ≤ c) (h : ∀ i, i < l.length → w.cell? ⟨g, off + i, none⟩ = some (.int k (l.getD i 0))) : Rd w k (.slice (some ⟨g, off, none⟩) n c) l := by
  subst hn; exact ⟨_, c, rfl, hc, .inr ⟨g, off, rfl, h⟩⟩
theorem Rd.tail {w : World} {k : IntKind} {l : List Int} {g off n c : Nat} {x : Int} (h : ∀ i, i < (x :: l).length → w.cell? ⟨g, off + i, none⟩ = some (.int k ((x :: l).getD i 0))) (hc : l.length ≤ c) (hn : n = l.length) : Rd w k (.slice (some ⟨g, off + 1, none⟩) n c) l :=
  Rd.mk g (off + 1) hn (by omega) (fun i hi => by have := h (i + 1) (by simp; omega); rw [List.getD_cons_succ] at this; rw [← this]; congr 2; omega)
theorem Rd.tail0 {w : World} {k : IntKind} {l : List Int} {a : Option Addr} {g off n c : Nat} (hn : n = l.length) (h : l.length = 0) : Rd w k (.slice (some ⟨g, off, none⟩) n c) l :=
  Rd.mk g off hn (by omega) (fun i hi => by omega)
theorem ret_v1 {v : Value} {k : IntKind} {a b : Int} (h : a = b) : Ending.returned (.tuple #[v, .int k a]) = .returned (.tuple #[v, .int k b]) := by rw [h]

/-- A slice of numbers that is an argument, read. -/
theorem rd_arg {H : Type} {enc : TypeId × Value → H} {P : Program} {W : World} {t e : TypeId} {k : IntKind} {v : Value} {d : DataW H} {p : List MemPlace} (ht : P.underlying t = some (.slice e)) (he : P.underlying e = some (.int k)) (hc : P.cellsOf e = 1)
    (hv : ∃ a len cap, v = .slice a len cap) (h : DataW.Trod enc P W 0 (fun _ => true) true t v d p) : ∃ l, Rd W k v l ∧ (∀ x ∈ l, (Lit.int k x).wf = true) ∧ l.length ≤ maxLen := by
  obtain ⟨a0, len0, cap0, rfl⟩ := hv
  obtain ⟨fuel, hf⟩ := h
  rcases open_ints ht he hc hf with ⟨hcs, hx⟩ | ⟨a, len, cap, zs, hcs, _, hl, hm, hz, hx, hcell, hwz⟩
  · simp [Value.cells] at hcs
    obtain ⟨rfl, rfl, rfl⟩ := hcs
    exact ⟨[], Rd.nil _ _ _, fun x hx => by simp at hx, by simp⟩
  · simp [Value.cells] at hcs
    obtain ⟨rfl, rfl, rfl⟩ := hcs
    simp only [if_true] at hz
    have hlen : (zs.take len0).length = len0 := by rw [List.length_take]; omega
    refine ⟨zs.take len0, ⟨some a, cap0, by rw [hlen], by omega, ?_⟩, fun x hx => hwz x (List.mem_of_mem_take hx), by omega⟩
    by_cases h0 : len0 = 0
    · exact .inl (by subst h0; simp)
    · obtain ⟨b, off, spot⟩ := a
      have hspot : spot = none := by simpa [Addr.add] using World.cell?_spot (hcell 0 (by omega))
      subst hspot
      refine .inr ⟨b, off, rfl, fun i hi => ?_⟩
      rw [hlen] at hi
      have := hcell i (by omega)
      rw [← add_plain, this]
      simp [List.getD_eq_getElem?_getD, List.getElem?_take, hi]
theorem byt_wf {l : List Int} (h : ∀ x ∈ l, (Lit.int .u8 x).wf = true) : Byt l := fun x hx => wf_byte (h x hx)
theorem Rd.take {w : World} {k : IntKind} {l : List Int} {a : Option Addr} {n c m : Nat} (h : Rd w k (.slice a n c) l) (hm : m ≤ n) : Rd w k (.slice a m c) (l.take m) := by
  obtain ⟨a', c', e, hc, hr⟩ := h
  injection e with e1 e2 e3
  subst e1 e2 e3
  have hl : (l.take m).length = m := by rw [List.length_take]; omega
  refine ⟨a, c, by rw [hl], by omega, ?_⟩
  rcases hr with h | ⟨g, off, ha, hcl⟩
  · exact .inl (by rw [h]; simp)
  · refine .inr ⟨g, off, ha, fun i hi => ?_⟩
    rw [hl] at hi
    rw [hcl i (by omega)]
    simp [List.getD_eq_getElem?_getD, List.getElem?_take, hi]
theorem Rd.drop {w : World} {k : IntKind} {l : List Int} {g off n c m n' c' : Nat} (h : Rd w k (.slice (some ⟨g, off, none⟩) n c) l) (hm : m ≤ n) (hn : n' = n - m) (hc' : c' = c - m) : Rd w k (.slice (some ⟨g, off + m, none⟩) n' c') (l.drop m) := by
  obtain ⟨a', c', e, hc, hr⟩ := h
  injection e with e1 e2 e3
  subst e1 e2 e3
  subst hn hc'
  refine ⟨_, _, by rw [List.length_drop], by rw [List.length_drop]; omega, ?_⟩
  rcases hr with h | ⟨g', off', ha, hcl⟩
  · exact .inl (by rw [h]; simp)
  · injection ha with ha
    injection ha with h1 h2
    subst h1 h2
    refine .inr ⟨g, off + m, rfl, fun i hi => ?_⟩
    rw [List.length_drop] at hi
    rw [Nat.add_assoc, hcl (m + i) (by omega)]
    simp [List.getD_eq_getElem?_getD]
theorem Rd.empty {w : World} {k : IntKind} {l : List Int} {a : Option Addr} {n c : Nat} (hn : n = 0) (h : l = []) : Rd w k (.slice a n c) l := by
  subst hn h; exact ⟨a, c, rfl, Nat.zero_le _, .inl rfl⟩
theorem Rd.cons {w : World} {a : Option Addr} {n c : Nat} {x : Int} {t : List Int} (h : Rd w .u8 (.slice a n c) (x :: t)) : n = t.length + 1 ∧ n ≤ c ∧ ∃ g off, a = some ⟨g, off, none⟩ ∧ w.cell? ⟨g, off, none⟩ = some (.int .u8 x) ∧ ∀ i, i < (x :: t).length → w.cell? ⟨g, off + i, none⟩ = some (.int .u8 ((x :: t).getD i 0)) := by
  obtain ⟨a', c', e, hc, hr⟩ := h
  injection e with e1 e2 e3
  subst e1 e2 e3
  refine ⟨rfl, hc, ?_⟩
  rcases hr with h | ⟨g, off, rfl, hcl⟩
  · simp at h
  · exact ⟨g, off, rfl, by simpa using hcl 0 (by simp), hcl⟩
theorem Rd.snoc {w : World} {a : Option Addr} {n c : Nat} {x : Int} {t : List Int} (h : Rd w .u8 (.slice a n c) (t ++ [x])) : n = t.length + 1 ∧ n ≤ c ∧ ∃ g off, a = some ⟨g, off, none⟩ ∧ w.cell? ⟨g, off + t.length, none⟩ = some (.int .u8 x) ∧ ∀ i, i < t.length → w.cell? ⟨g, off + i, none⟩ = some (.int .u8 (t.getD i 0)) := by
  obtain ⟨a', c', e, hc, hr⟩ := h
  injection e with e1 e2 e3
  subst e1 e2 e3
  refine ⟨by simp, hc, ?_⟩
  rcases hr with h | ⟨g, off, rfl, hcl⟩
  · simp at h
  · refine ⟨g, off, rfl, ?_, fun i hi => ?_⟩
    · have := hcl t.length (by simp)
      simpa [List.getD_eq_getElem?_getD] using this
    · have := hcl i (by simp; omega)
      simpa [List.getD_eq_getElem?_getD, List.getElem?_append_left hi] using this
theorem nil_or_snoc (l : List Int) : l = [] ∨ ∃ t x, l = t ++ [x] := by
  rcases List.eq_nil_or_concat l with h | ⟨t, x, h⟩
  · exact .inl h
  · exact .inr ⟨t, x, by rw [h, List.concat_eq_append]⟩
theorem Rd.nilv {w : World} {a : Option Addr} {n c : Nat} (h : Rd w .u8 (.slice a n c) []) : n = 0 := by
  obtain ⟨a', c', e, hc, hr⟩ := h
  injection e with e1 e2 e3
theorem Rd.len {w : World} {k : IntKind} {v : Value} {l : List Int} (h : Rd w k v l) : ∃ a c, v = .slice a l.length c := by
  obtain ⟨a, c, rfl, _⟩ := h; exact ⟨a, c, rfl⟩
theorem cell_new (w : World) (v : Value) (t : TypeId) (m : Nat × Nat) (N : Nat) (h : w.heap.size = N) : (w.alloc (.cells #[v] t m)).cell? ⟨N, 0, none⟩ = some v := by
  subst h
  rw [World.cell?_alloc_mark]
  rfl
theorem ownsRow_slice {w : World} {B : Nat} {e : TypeId} {v : Value} {n : Nat} {xs : List Value} (h : w.ownsRow B e 1 v n xs) : ∃ a c, v = .slice a n c := by
  rcases h.2 with ⟨rfl, rfl⟩ | ⟨g, c, cur, rfl, _⟩
  · exact ⟨_, _, rfl⟩
  · exact ⟨_, _, rfl⟩
/-- append(s, x), where x lies in a new block of its own. -/
theorem wp_app {P : Program} {ops : Array Oper} {rest : List Oper} {o : Oper} {a : Act} {Q : Exit → Act → World → Prop} (T e : TypeId) (z : Value) (bytes : Nat) (ht : P.underlying T = some (.slice e)) (hinfo : (P.info? e).map (fun i => (i.zero, i.size, i.bytes)) = some (some z, 1, bytes)) (hz1 : z.cells.size = 1)
    (B : Nat) (v : Value) (n : Nat) (xs : List Value) (y : Value) (w : World) (N : Nat) (hN : w.heap.size = N) (hgd : o.guard = none) (s x : Operand) (ho : o.op = .call { callee := .builtin .append, args := #[s, x], argTypes := #[T, T] })
    (hs : a.eval s = v) (hx : a.eval x = .slice (some ⟨N, 0, none⟩) 1 1) (hown : w.ownsRow B e 1 v n xs) (hB : B ≤ N) (hy : y.oneCell' = true) (hn : n < 1000000000000) (hby : bytes ≤ 64)
    (h : ∀ v' w', w'.ownsRow B e 1 v' (n + 1) (xs ++ [y]) → Below B w w' → wpList P ops Q rest (a.put o.dst v') w') :
    wpList P ops Q (o :: rest) a (w.alloc (.cells #[y] e)) := by
  subst hN
  obtain ⟨i0, hi, hz0, hz2, hz3⟩ := info_parts hinfo
  refine wpList_append_own _ hgd s x T ho B e i0 z 1 bytes ht hi hz0 hz2 hz3 hz1 (by decide) v n xs hs (hown.alloc _) ⟨w.heap.size, 0, none⟩ 1 1 [y] hx rfl ?c1 ?c2 ?c3 ?c4 ?c5 ?_
  case c1 =>
    intro j u hj
    match j, hj with
    | 0, hj =>
      simp at hj; subst hj
      simp [Addr.add, go_sem]
  case c2 => intro u hu; simp at hu; subst hu; exact hy
  case c3 => unfold maxLen; omega
  case c4 => calc (n + 1) * bytes ≤ (n + 1) * 64 := Nat.mul_le_mul_left _ hby
             _ ≤ 140737488355328 := by omega
  case c5 => simp; omega
  · intro v' w' h2 h3 _
    exact h v' w' h2 (((Below.refl B w).alloc hB _).grown h3 (by simp; omega) (fun k hk => (hown.lt k hk).1))
/-- '[]byte(s)', read. -/
theorem rd_row (w : World) (l : List Int) (hb : Byt l) (cap : Nat) (T : TypeId) (m : Nat × Nat) (hc : l.length ≤ cap) :
    Rd (w.alloc (.cells (bytesRow (strOfNums l) cap) T m)) .u8 (.slice (some ⟨w.heap.size, 0, none⟩) (strOfNums l).size cap) l := by
  refine Rd.mk _ 0 (strOfNums_size l) (by rw [strOfNums_size]; exact hc) (fun i hi => ?_)
  rw [Nat.zero_add, World.cell?_alloc_mark]
  have hs : i < (strOfNums l).data.size := by show i < (strOfNums l).size; rw [strOfNums_size]; exact hi
  rw [bytesRow_at _ _ _ hs]
  have e : (strOfNums l).data[i] = UInt8.ofNat (l[i]).toNat := by simp [strOfNums]
  have bx := hb l[i] (List.getElem_mem hi)
  rw [e]
  simp only [UInt8.toNat_ofNat', List.getD_eq_getElem?_getD, List.getElem?_eq_getElem hi, Option.getD_some]
  have : ((l[i].toNat % 2 ^ 8 : Nat) : Int) = l[i] := by omega
  rw [this]
theorem drew_alloc_below {w w' : World} {o : Obj} (h : (w.alloc o).drew = w') : Below w.heap.size w w' := by
  subst h; exact ((Below.refl _ w).alloc (Nat.le_refl _) o).drew
theorem drew_alloc_then {w w' : World} {o : Obj} (h : Below (w.alloc o).drew.heap.size (w.alloc o).drew w') : Below w.heap.size w w' :=
  below_then (drew_alloc_below (o := o) rfl) (by show w.heap.size ≤ (w.alloc o).heap.size; simp) h
/-- append(s, x...), x a slice that is read. -/
theorem run_apps {P : Program} (w : World) (T ty e : TypeId) (z : Value) (bytes : Nat) (ht : P.underlying T = some (.slice e)) (hinfo : (P.info? e).map (fun i => (i.zero, i.size, i.bytes)) = some (some z, 1, bytes)) (hz1 : z.cells.size = 1)
    (B : Nat) (v : Value) (n : Nat) (xs : List Value) (hown : w.ownsRow B e 1 v n xs) (hB : B ≤ w.heap.size) (k : IntKind) (u : Value) (l : List Int) (hr : Rd w k u l) (hn : n + l.length < 1000000000000) (hby : bytes ≤ 64) :
    ∃ v' w', (Builtin.append_ #[T, T] ty #[v, u]).run P w = .ok v' w' ∧ w'.ownsRow B e 1 v' (n + l.length) (xs ++ l.map (Value.int k)) ∧ w.grownBy w' v.ownBlock ∧ (v'.ownBlock = v.ownBlock ∨ v'.ownBlock = some w.heap.size) := by
  obtain ⟨i0, hi, hz0, hz2, hz3⟩ := info_parts hinfo
  obtain ⟨a, c, rfl, hc, hcell⟩ := hr
  cases a with
  | none =>
    have hl : l = [] := by
      rcases hcell with h | ⟨g, off, h, _⟩
      · exact h
      · cases h
    subst hl
    refine ⟨v, w, ?_, by simpa using hown, ⟨rfl, rfl, rfl, Nat.le_refl _, fun _ _ _ => rfl⟩, .inl rfl⟩
    rcases hown.2 with ⟨rfl, h0⟩ | ⟨g, cap, cur, rfl, hb, hh, hcap, _⟩
    · subst h0
      simp [Builtin.append_, run_underlying ht, sizeOf, typeInfo, hi, Builtin.lenOf, Builtin.firstCells]
    · have hcap' : ¬ cap < n := by omega
      simp [Builtin.append_, run_underlying ht, sizeOf, typeInfo, hi, Builtin.lenOf, Builtin.firstCells, storeCells, hcap, hcap']
  | some ad =>
    have hc1 : ∀ j x, (l.map (Value.int k))[j]? = some x → w.cell? (ad.add j) = some x := by
      intro j x hj
      rcases hcell with h | ⟨g, off, h, hcl⟩
      · subst h; simp at hj
      · injection h with h
        subst h
        have hjl : j < l.length := by
          have := (List.getElem?_eq_some_iff.1 hj).1
          simpa using this
        have := hcl j hjl
        rw [List.getElem?_map, List.getElem?_eq_getElem hjl] at hj
        simp at hj
        rw [← hj]
        have e1 : (⟨g, off, none⟩ : Addr).add j = ⟨g, off + j, none⟩ := by
          unfold Addr.add
          by_cases hj0 : j = 0
          · subst hj0; simp
          · simp [hj0]
        rw [e1, this]
        simp [List.getD_eq_getElem?_getD, List.getElem?_eq_getElem hjl]
    obtain ⟨v', w', h1, h2, h3, _, h5⟩ := run_append_own_at (P := P) w B T ty e i0 z 1 bytes ht hi hz0 hz2 hz3 hz1 (by decide) v n xs hown ad l.length c (l.map (Value.int k)) (by simp) hc1
      (fun x hx => by simp at hx; obtain ⟨y, _, rfl⟩ := hx; rfl) (by unfold maxLen; omega)
      (calc (n + l.length) * bytes ≤ (n + l.length) * 64 := Nat.mul_le_mul_left _ hby
         _ ≤ 140737488355328 := by omega) hB
    exact ⟨v', w', h1, h2, h3, h5⟩
theorem wp_apps {P : Program} {w : World} {ops : Array Oper} {rest : List Oper} {o : Oper} {a : Act} {Q : Exit → Act → World → Prop} (T e : TypeId) (z : Value) (bytes : Nat) (ht : P.underlying T = some (.slice e)) (hinfo : (P.info? e).map (fun i => (i.zero, i.size, i.bytes)) = some (some z, 1, bytes)) (hz1 : z.cells.size = 1)
    (B : Nat) (v : Value) (n : Nat) (xs : List Value) (hgd : o.guard = none) (s x : Operand) (ho : o.op = .call { callee := .builtin .append, args := #[s, x], argTypes := #[T, T] })
    (hs : a.eval s = v) (hown : w.ownsRow B e 1 v n xs) (hB : B ≤ w.heap.size) (k : IntKind) (u : Value) (l : List Int) (hx : a.eval x = u) (hr : Rd w k u l) (hn : n + l.length < 1000000000000) (hby : bytes ≤ 64)
    (h : ∀ v' w', w'.ownsRow B e 1 v' (n + l.length) (xs ++ l.map (Value.int k)) → w.grownBy w' v.ownBlock → (v'.ownBlock = v.ownBlock ∨ v'.ownBlock = some w.heap.size) → wpList P ops Q rest (a.put o.dst v') w') :
    wpList P ops Q (o :: rest) a w := by
  refine wpList_plain hgd fun K hK => ?_
  obtain ⟨v', w', hr', h2, h3, h4⟩ := run_apps (P := P) w T o.type e z bytes ht hinfo hz1 B v n xs hown hB k u l hr hn hby
  unfold Oper.wp execOp
  simp only [ho, resolve, invoke, builtin, Sem.run_bind, Sem.run_pure, Result.andThen_ok, List.map_toArray, List.map_cons, List.map_nil, hs, hx, hr']
  exact hK _ _ (h v' w' h2 h3 h4)
theorem grown_below {B : Nat} {w w' : World} {e : TypeId} {v : Value} {n : Nat} {xs : List Value} (h : w.grownBy w' v.ownBlock) (hown : w.ownsRow B e 1 v n xs) (hB : B ≤ w.heap.size) : Below B w w' :=
  (Below.refl B w).grown h hB (fun k hk => (hown.lt k hk).1)
/-- append(s, x), where x lies in a new block of its own: the frame of the row alone. -/
theorem wp_app1 {P : Program} {ops : Array Oper} {rest : List Oper} {o : Oper} {a : Act} {Q : Exit → Act → World → Prop} (T e : TypeId) (z : Value) (bytes : Nat) (ht : P.underlying T = some (.slice e)) (hinfo : (P.info? e).map (fun i => (i.zero, i.size, i.bytes)) = some (some z, 1, bytes)) (hz1 : z.cells.size = 1)
    (B : Nat) (v : Value) (n : Nat) (xs : List Value) (y : Value) (w : World) (N : Nat) (hN : w.heap.size = N) (hgd : o.guard = none) (s x : Operand) (ho : o.op = .call { callee := .builtin .append, args := #[s, x], argTypes := #[T, T] })
    (hs : a.eval s = v) (hx : a.eval x = .slice (some ⟨N, 0, none⟩) 1 1) (hown : w.ownsRow B e 1 v n xs) (hB : B ≤ N) (hy : y.oneCell' = true) (hn : n < 1000000000000) (hby : bytes ≤ 64)
    (h : ∀ v' w', w'.ownsRow B e 1 v' (n + 1) (xs ++ [y]) → w.grownBy w' v.ownBlock → (v'.ownBlock = v.ownBlock ∨ ∀ g, v'.ownBlock = some g → w.heap.size ≤ g) → wpList P ops Q rest (a.put o.dst v') w') :
    wpList P ops Q (o :: rest) a (w.alloc (.cells #[y] e)) := by
  subst hN
  obtain ⟨i0, hi, hz0, hz2, hz3⟩ := info_parts hinfo
  refine wpList_append_own_at _ hgd s x T ho B e i0 z 1 bytes ht hi hz0 hz2 hz3 hz1 (by decide) v n xs hs (hown.alloc _) ⟨w.heap.size, 0, none⟩ 1 1 [y] hx rfl ?c1 ?c2 ?c3 ?c4 ?c5 ?_
  case c1 => exact cell_one_new w y e
  case c2 => intro u hu; simp at hu; subst hu; exact hy
  case c3 => unfold maxLen; omega
  case c4 => calc (n + 1) * bytes ≤ (n + 1) * 64 := Nat.mul_le_mul_left _ hby
             _ ≤ 140737488355328 := by omega
  case c5 => simp; omega
  · intro v' w' h2 h3 _ h5
    refine h v' w' h2 ?_ ?_
    · exact ⟨h3.os, h3.tape, h3.output, Nat.le_trans (by simp) h3.size, fun k hk hne => (h3.block k (by simp; omega) hne).trans (Below.heap_alloc w _ k hk)⟩
    · rcases h5 with h5 | h5
      · exact .inl h5
      · refine .inr fun g hg => ?_
        rw [h5] at hg
        simp at hg
        omega
end Go.Proofs.YtocmgdolinajmaaDoor
