/- bytes.CutPrefix and bytes.CutSuffix of one byte. -/
import Derived.Test.YtjioombinbngpaaI
import Derived.Test.YtjioombinbngpaaShelf
namespace Go.Proofs.Ytjioombinbngpaa
set_option linter.unusedVariables false
set_option linter.unusedSimpArgs false
open Go.RowKit Go.Shelf

def cutP (y : Int) : List Int → List Int
  | [] => []
  | x :: t => if x = y then t else x :: t
def cutPb (y : Int) : List Int → Bool
  | [] => false
  | x :: t => decide (x = y)
def cutSb (y : Int) (s : List Int) : Bool := s.getLast? == some y
def cutS (y : Int) (s : List Int) : List Int := if s.getLast? = some y then s.dropLast else s

theorem byte_ofNat_eq {x y : Int} (hx : 0 ≤ x ∧ x < 256) (hy : 0 ≤ y ∧ y < 256) : (UInt8.ofNat x.toNat == UInt8.ofNat y.toNat) = decide (x = y) := by
  rw [Bool.eq_iff_iff]
  simp only [beq_iff_eq, decide_eq_true_eq]
  constructor
  · intro e
    have e2 : (UInt8.ofNat x.toNat).toNat = (UInt8.ofNat y.toNat).toNat := by rw [e]
    simp only [UInt8.toNat_ofNat'] at e2
    omega
  · intro h; rw [h]
theorem Rd.bytesIn {w : World} {a : Option Addr} {n c : Nat} {l : List Int} (h : Rd w .u8 (.slice a n c) l) : l.length = n ∧ n ≤ c ∧ Lib.BytesIn w a n l := by
  obtain ⟨a', c', e, hc, hr⟩ := h
  injection e with e1 e2 e3
  subst e1 e2 e3
  refine ⟨rfl, hc, fun hn => ?_⟩
  rcases hr with h | h
  · rw [h] at hn; simp at hn
  · exact h
theorem hasPrefix_one (s : List Int) (y : Int) (hb : Byt s) (hy : 0 ≤ y ∧ y < 256) : Lib.hasPrefix (Lib.bytesOf s) (Lib.bytesOf [y]) = cutPb y s := by
  cases s with
  | nil => simp [Lib.hasPrefix, Lib.bytesOf, cutPb]
  | cons x t =>
    have hx := hb x (by simp)
    have := byte_ofNat_eq hy hx
    simp only [Lib.hasPrefix, Lib.bytesOf, cutPb, List.map_cons, List.map_nil, List.isPrefixOf_cons_cons, List.isPrefixOf_nil_left, Bool.and_true, this]
    rw [Bool.eq_iff_iff]; simp only [decide_eq_true_eq]; omega
theorem hasSuffix_one (s : List Int) (y : Int) (hb : Byt s) (hy : 0 ≤ y ∧ y < 256) : Lib.hasSuffix (Lib.bytesOf s) (Lib.bytesOf [y]) = cutSb y s := by
  rcases List.eq_nil_or_concat s with rfl | ⟨t, x, rfl⟩
  · simp [Lib.hasSuffix, Lib.bytesOf, cutSb]
  · have hx := hb x (by simp)
    have := byte_ofNat_eq hy hx
    simp only [Lib.hasSuffix, Lib.bytesOf, cutSb, List.isSuffixOf, List.map_append, List.map_cons, List.map_nil, List.reverse_append, List.reverse_cons, List.reverse_nil, List.nil_append, List.cons_append, List.singleton_append, List.isPrefixOf_cons_cons, List.isPrefixOf_nil_left, Bool.and_true, this, List.getLast?_append, List.concat_eq_append]
    rw [Bool.eq_iff_iff]; simp only [decide_eq_true_eq, beq_iff_eq, List.getLast?_singleton, Option.some_or, Option.some.injEq]; omega
theorem ret_vb {u v : Value} {a b : Bool} (h : a = b) (hu : u = v) : Ending.returned (.tuple #[u, .bool a]) = .returned (.tuple #[v, .bool b]) := by rw [h, hu]

theorem one_cell {w : World} {b o : Nat} {y : Int} (h : w.cell? ⟨b, o, none⟩ = some (.int .u8 y)) : Lib.BytesIn w (some ⟨b, o, none⟩) 1 [y] := fun _ => ⟨b, o, rfl, fun i hi => by
  have hi0 : i = 0 := by omega
  subst hi0
  simpa using h⟩
theorem cutprefix_c (v : Value) (s : List Int) (y : Int) (b2 o2 d : Nat) (w : World) (hr : Rd w .u8 v s) (hb : Byt s) (hy : 0 ≤ y ∧ y < 256) (h2 : w.cell? ⟨b2, o2, none⟩ = some (.int .u8 y)) :
    Calls Try.prog 19 #[v, .slice (some ⟨b2, o2, none⟩) 1 d] w fun e w' =>
      (∃ u, e = .returned (.tuple #[u, .bool (cutPb y s)]) ∧ Rd w .u8 u (cutP y s)) ∧ w = w' := by
  have hr0 := hr
  obtain ⟨a, c, rfl, hc, hcell⟩ := hr
  obtain ⟨_, _, hbi⟩ := hr0.bytesIn
  refine (Try.bytes_CutPrefix_all a (some ⟨b2, o2, none⟩) s.length c 1 d s [y] w rfl rfl hc hbi (one_cell h2)).mono ?_
  rintro e w' ⟨rfl, rfl⟩
  refine ⟨⟨_, ret_vb (hasPrefix_one s y hb hy) rfl, ?_⟩, rfl⟩
  unfold Lib.trimPrefixV
  cases s with
  | nil =>
    split
    · rename_i heq
      cases heq
      simp only [Lib.bytesTrimPrefix, hasPrefix_one [] y hb hy, cutPb, cutP]; exact hr0
    · exact hr0
  | cons x t =>
    obtain ⟨g, off, rfl, hcl⟩ : ∃ g off, a = some ⟨g, off, none⟩ ∧ ∀ i, i < (x :: t).length → w'.cell? ⟨g, off + i, none⟩ = some (.int .u8 ((x :: t).getD i 0)) := by
      rcases hcell with h | h
      · simp at h
      · exact h
    simp only [Lib.bytesTrimPrefix, hasPrefix_one (x :: t) y hb hy, cutPb, cutP]
    simp only [List.length_cons] at hc
    by_cases h : x = y
    · simp only [h, decide_true, if_true, Lib.sliceFrom, List.length_nil, List.length_cons]
      split
      · exact Rd.tail0 (a := none) (by omega) (by omega)
      · exact Rd.tail hcl (by omega) (by omega)
    · simp only [h, decide_false, if_false, Bool.false_eq_true]; exact hr0
theorem cutsuffix_c (v : Value) (s : List Int) (y : Int) (b2 o2 d : Nat) (w : World) (hr : Rd w .u8 v s) (hb : Byt s) (hs : s.length ≤ 9223372036854775807) (hy : 0 ≤ y ∧ y < 256) (h2 : w.cell? ⟨b2, o2, none⟩ = some (.int .u8 y)) :
    Calls Try.prog 20 #[v, .slice (some ⟨b2, o2, none⟩) 1 d] w fun e w' =>
      (∃ u, e = .returned (.tuple #[u, .bool (cutSb y s)]) ∧ Rd w .u8 u (cutS y s)) ∧ w = w' := by
  have hr0 := hr
  obtain ⟨a, c, rfl, hc, hcell⟩ := hr
  obtain ⟨_, _, hbi⟩ := hr0.bytesIn
  refine (Try.bytes_CutSuffix_all a (some ⟨b2, o2, none⟩) s.length c 1 d s [y] w rfl rfl hc hs hbi (one_cell h2)).mono ?_
  rintro e w' ⟨rfl, rfl⟩
  refine ⟨⟨_, ret_vb (hasSuffix_one s y hb hy) rfl, ?_⟩, rfl⟩
  unfold Lib.trimSuffixV
  rcases hcell with rfl | ⟨g, off, rfl, hcl⟩
  · split
    · rename_i heq
      cases heq
      simp only [Lib.bytesTrimSuffix, hasSuffix_one [] y hb hy, cutSb, cutS]; exact hr0
    · exact hr0
  · simp only [Lib.bytesTrimSuffix, hasSuffix_one s y hb hy, cutSb, cutS]
    by_cases h : s.getLast? = some y
    · simp only [h, beq_self_eq_true, if_true, Lib.sliceTo, List.length_singleton]
      refine Rd.mk g off (by simp) (by omega) (fun i hi => ?_)
      simp only [List.length_dropLast] at hi
      rw [hcl i (by omega)]
      have h1 : i < s.length := by omega
      simp [List.getD_eq_getElem?_getD, List.getElem?_eq_getElem h1, hi]
    · rw [if_neg (by simpa using h), if_neg h]; exact hr0
end Go.Proofs.Ytjioombinbngpaa
