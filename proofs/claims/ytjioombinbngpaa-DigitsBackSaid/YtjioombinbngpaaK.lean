/- Slices of numbers that are read; strings of bytes: small words for the walks. -/
import Derived.Test.YtjioombinbngpaaProg
import Derived.WalkKit
import Derived.WalkSpells
import Derived.Below
import Derived.Deep.QuietTactic
import Derived.Laws.AppendOwn
import Derived.Laws.BytesArg
import Derived.Laws.BitsAllLaws
import Derived.Lib.Hide
import Derived.Test.YtjioombinbngpaaA
namespace Go.Proofs.Ytjioombinbngpaa
set_option linter.unusedVariables false
set_option linter.unusedSimpArgs false
open Go.RowKit

theorem val_int {k : IntKind} {a b : Int} (h : a = b) : Value.int k a = .int k b := by rw [h]
theorem beq_of {a b : Int} (h : a = b) : (a == b) = true := by simpa using h
theorem bne_of {a b : Int} (h : a = b) : (a != b) = false := by simpa using h
theorem beq_no {a b : Int} (h : ¬ a = b) : (a == b) = false := by simpa using h
theorem bne_no {a b : Int} (h : ¬ a = b) : (a != b) = true := by simpa using h

theorem below_drewN {B : Nat} {a w : World} (h : Below B a w) (n : Nat) : Below B a (w.drewN n) := ⟨h.os, h.tape, h.output, h.size, h.block⟩
theorem below_then {B : Nat} {w w1 w2 : World} (h : Below B w w1) (hB : B ≤ w1.heap.size) (k : Below w1.heap.size w1 w2) : Below B w w2 :=
  h.trans ⟨k.os, k.tape, k.output, k.size, fun i hi => k.block i (Nat.lt_of_lt_of_le hi hB)⟩
theorem cell_below {w w1 : World} (h : Below w.heap.size w w1) {a : Addr} {v : Value} (hc : w.cell? a = some v) : w1.cell? a = some v := (h.cell (World.block_lt_of_cell? w a hc)).trans hc
theorem wf_cell {x : Int} (h : (Lit.int .i64 x).wf = true) : -9223372036854775808 ≤ x ∧ x ≤ 9223372036854775807 := by
  simp [Lit.wf, IntKind.min, IntKind.max, IntKind.signed, IntKind.bits] at h
  exact ⟨by omega, by omega⟩
theorem wf_byte {x : Int} (h : (Lit.int .u8 x).wf = true) : 0 ≤ x ∧ x < 256 := by
  simp [Lit.wf, IntKind.min, IntKind.max, IntKind.signed, IntKind.bits] at h
  exact ⟨by omega, by omega⟩

/-- A slice reads as these numbers. -/
def Rd (w : World) (k : IntKind) (v : Value) (l : List Int) : Prop :=
  ∃ a c, v = .slice a l.length c ∧ l.length ≤ c ∧ (l = [] ∨ ∃ g off, a = some ⟨g, off, none⟩ ∧ ∀ i, i < l.length → w.cell? ⟨g, off + i, none⟩ = some (.int k (l.getD i 0)))
/-- All are bytes. -/
def Byt (l : List Int) : Prop := ∀ x ∈ l, 0 ≤ x ∧ x < 256
theorem Rd.nil (w : World) (k : IntKind) (c : Nat) : Rd w k (.slice none 0 c) [] := ⟨none, c, rfl, Nat.zero_le _, .inl rfl⟩
theorem Rd.below {w w1 : World} {k : IntKind} {v : Value} {l : List Int} (h : Rd w k v l) (hb : Below w.heap.size w w1) : Rd w1 k v l := by
  obtain ⟨a, c, e, hc, hr⟩ := h
  refine ⟨a, c, e, hc, ?_⟩
  rcases hr with h | ⟨g, off, ea, hcell⟩
  · exact .inl h
  · exact .inr ⟨g, off, ea, fun i hi => cell_below hb (hcell i hi)⟩
theorem Rd.drewN {w : World} {k : IntKind} {v : Value} {l : List Int} (h : Rd w k v l) (n : Nat) : Rd (w.drewN n) k v l := h.below (below_drewN (Below.refl _ _) n)
theorem Rd.of_own {w : World} {B e : Nat} {k : IntKind} {v : Value} {n : Nat} {l : List Int} (h : w.ownsRow B e 1 v n (l.map (Value.int k))) : Rd w k v l := by
  have hl : l.length = n := by have := h.1; simp at this; exact this
  rcases h.2 with ⟨rfl, h0⟩ | ⟨g, cap, cur, rfl, hb, hh, hc, _⟩
  · have : l = [] := List.eq_nil_of_length_eq_zero (by omega)
    subst this
    exact Rd.nil _ _ _
  · subst hl
    refine ⟨_, cap, rfl, hc, .inr ⟨g, 0, rfl, fun i hi => ?_⟩⟩
    have := h.cells (g := g) rfl i (.int k (l.getD i 0)) (by simp [List.getElem?_eq_getElem hi, List.getD_eq_getElem?_getD])
    have ha : (⟨g, 0, none⟩ : Addr).add i = ⟨g, 0 + i, none⟩ := by unfold Addr.add; split <;> simp_all
    rwa [ha] at this
theorem Rd.to_string {P : Program} {w : World} {v : Value} {l : List Int} (h : Rd w .u8 v l) {src dst e : TypeId} (hs : P.underlying src = some (.slice e)) (he : P.underlying e = some (.int .u8)) (hd : P.underlying dst = some .string) :
    (convert src dst v).run P w = .ok (.string (strOfNums l)) w := by
  obtain ⟨a, c, rfl, hc, hr⟩ := h
  rcases hr with rfl | ⟨g, off, rfl, hcell⟩
  · cases a with
    | none => exact run_convert_bytes_nil w src e hs he 0 c dst hd
    | some a =>
      have hl : (loadCells a 0).run P w = .ok ([].map (Value.int .u8)).toArray w := run_loadCells_list (P := P) w a [] (fun j v hj => by simp at hj)
      rw [run_convert_bytes_string w src dst e _ _ c hs he hd]
      have := run_bytesToString w a 0 c [] hl
      exact this
  · exact run_convert_bytes_arg w src e hs he g off _ c l rfl hcell dst hd
theorem str_eq {a b : List Int} (ha : Byt a) (hb : Byt b) : ((strOfNums a).toList == (strOfNums b).toList) = (a == b) := by
  rw [Bool.eq_iff_iff]
  simp only [beq_iff_eq]
  constructor
  · intro h
    have h2 : (strOfNums a).data.toList = (strOfNums b).data.toList := by simpa [ByteArray.toList_eq] using h
    rw [strOfNums_data, strOfNums_data] at h2
    clear h
    induction a generalizing b with
    | nil => cases b <;> simp at h2 ⊢
    | cons x a ih =>
      cases b with
      | nil => simp at h2
      | cons y b =>
        simp only [List.map_cons, List.cons.injEq] at h2
        obtain ⟨e, h2⟩ := h2
        have hx := ha x (by simp)
        have hy := hb y (by simp)
        have e2 : (UInt8.ofNat x.toNat).toNat = (UInt8.ofNat y.toNat).toNat := by rw [e]
        simp only [UInt8.toNat_ofNat'] at e2
        rw [ih (fun z hz => ha z (by simp [hz])) (fun z hz => hb z (by simp [hz])) h2]
        congr 1
        omega
  · intro h; rw [h]
end Go.Proofs.Ytjioombinbngpaa
