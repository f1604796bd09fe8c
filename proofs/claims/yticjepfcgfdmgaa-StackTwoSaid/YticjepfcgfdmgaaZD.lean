/- The law StackTwo: the first loop's facts. -/
import Derived.Test.YticjepfcgfdmgaaZC
import Derived.Test.YticjepfcgfdmgaaG
import Derived.Deep.RegionWith
namespace Go.Proofs.Yticjepfcgfdmgaa
set_option linter.unusedVariables false
set_option linter.unusedSimpArgs false
open Go.RowKit

theorem ty_ne {w : World} {i j : Nat} {c1 c2 : Array Value} {t1 t2 : TypeId} {m1 m2 : Nat × Nat} (h1 : w.heap[i]? = some (.cells c1 t1 m1)) (h2 : w.heap[j]? = some (.cells c2 t2 m2)) (h : t1 ≠ t2) : i ≠ j := by
  intro e
  subst e
  rw [h1] at h2
  injection h2 with h2
  injection h2 with _ ht
  exact h ht
theorem own_at {w : World} {B e n : Nat} {v : Value} {xs : List Value} (h : w.ownsRow B e 1 v n xs) {g : Nat} (hg : v.ownBlock = some g) : ∃ cur, w.heap[g]? = some (.cells cur e (0, 0)) := by
  rcases h.2 with ⟨rfl, _⟩ | ⟨g', cap, cur, rfl, _, hh, _⟩
  · cases hg
  · have e1 : g' = g := by simpa [Value.ownBlock] using hg
    subst e1
    exact ⟨cur, hh⟩
/-- Blocks of a stack of numbers, of its model, are no blocks of a stack of strings. -/
theorem foot_ne {w : World} {B b mb sb : Nat} {v u sv : Value} {l : List Int} {ys : List Value} {most over under m2 o2 u2 : Int} (h : Both w B b v mb u l most over under) (s : SStk w B sb sv ys m2 o2 u2) : ∀ k, Fo sb sv k → ¬ (Fo b v k ∨ Fo mb u k) := by
  intro k hk hh
  rcases hk with rfl | hk <;> rcases hh with (rfl | hh) | (rfl | hh)
  · exact ty_ne s.1 h.s.1 (by decide) rfl
  · obtain ⟨c, hc⟩ := own_at h.s.2.2 hh; exact ty_ne s.1 hc (by decide) rfl
  · exact ty_ne s.1 h.m.1 (by decide) rfl
  · obtain ⟨c, hc⟩ := own_at h.m.2.2 hh; exact ty_ne s.1 hc (by decide) rfl
  · obtain ⟨c, hc⟩ := own_at s.2.2 hk; exact ty_ne hc h.s.1 (by decide) rfl
  · obtain ⟨c, hc⟩ := own_at s.2.2 hk; obtain ⟨c2, hc2⟩ := own_at h.s.2.2 hh; exact ty_ne hc hc2 (by decide) rfl
  · obtain ⟨c, hc⟩ := own_at s.2.2 hk; exact ty_ne hc h.m.1 (by decide) rfl
  · obtain ⟨c, hc⟩ := own_at s.2.2 hk; obtain ⟨c2, hc2⟩ := own_at h.m.2.2 hh; exact ty_ne hc hc2 (by decide) rfl
theorem str_keep {w w1 : World} {B b mb sb : Nat} {v u sv : Value} {l : List Int} {ys : List Value} {most over under m2 o2 u2 : Int} (h : Both w B b v mb u l most over under) (s : SStk w B sb sv ys m2 o2 u2) (g : Went w w1 B b v mb u most over under) : SStk w1 B sb sv ys m2 o2 u2 := by
  obtain ⟨v', u', l', _, _, _, f⟩ := g
  have n := foot_ne h s
  exact s.same (f.block sb s.lt (n sb (.inl rfl))) (fun k hk => f.block k (s.row_lt k hk).2 (n k (.inr hk)))
theorem int_keep {w w1 : World} {B b mb sb : Nat} {v u sv : Value} {l : List Int} {ys : List Value} {most over under m2 o2 u2 : Int} (h : Both w B b v mb u l most over under) (s : SStk w B sb sv ys m2 o2 u2) (f : Fr sb sv w w1) : Both w1 B b v mb u l most over under := by
  have n := foot_ne h s
  have n2 : ∀ k, k < w.heap.size → (Fo b v k ∨ Fo mb u k) → w1.heap[k]? = w.heap[k]? := fun k hk hf => f.block k hk (fun e => n k (.inl e) hf) (fun e => n k (.inr e) hf)
  exact ⟨h.s.same (n2 b h.s.lt (.inl (.inl rfl))) (fun k hk => n2 k (h.s.row_lt k hk).2 (.inl (.inr hk))), h.m.same (n2 mb h.m.lt (.inr (.inl rfl))) (fun k hk => n2 k (h.m.row_lt k hk).2 (.inr (.inr hk))), h.ap, h.lim⟩
/-- The two stacks and the model. -/
def Tri (w : World) (B b : Nat) (v : Value) (mb : Nat) (u : Value) (l : List Int) (sb : Nat) (sv : Value) (ys : List ByteArray) : Prop :=
  Both w B b v mb u l 50 (-3) (-4) ∧ SStk w B sb sv (ys.map Value.string) 1000 (-44) (-45) ∧ B ≤ w.heap.size
theorem Tri.below {w w1 : World} {B b mb sb : Nat} {v u sv : Value} {l : List Int} {ys : List ByteArray} (h : Tri w B b v mb u l sb sv ys) (hb : Below w.heap.size w w1) : Tri w1 B b v mb u l sb sv ys :=
  ⟨h.1.below hb, h.2.1.below hb, Nat.le_trans h.2.2 hb.size⟩
theorem tri_does (K N V : Int) {w : World} {B b mb sb : Nat} {v u sv : Value} {l : List Int} {ys : List ByteArray} (h : Tri w B b v mb u l sb sv ys) :
    Calls Try.prog 13 #[.pointer (some ⟨b, 0, none⟩), .pointer (some ⟨mb, 0, none⟩), .agg #[.int .i64 K, .int .i64 N, .int .i64 V]] w fun e w' => e = .returned (.bool true) ∧ ∃ v' u' l', Hid (Tri w' B b v' mb u' l' sb sv ys) ∧ Below B w w' := by
  refine (does_c K N V b mb v u l 50 (-3) (-4) B w h.1 (by decide) h.2.2).mono ?_
  rintro e w' ⟨rfl, g⟩
  have k := str_keep h.1 h.2.1 g
  have bw := g.below h.1 h.2.2
  obtain ⟨v', u', l', hb, _⟩ := g
  exact ⟨rfl, v', u', l', Lib.hid ⟨hb, k, Nat.le_trans h.2.2 bw.size⟩, bw⟩
theorem tri_push (q : ByteArray) {w : World} {B b mb sb : Nat} {v u sv : Value} {l : List Int} {ys : List ByteArray} (h : Tri w B b v mb u l sb sv ys) (hl : ys.length ≤ 300) :
    Calls Try.prog 14 #[.pointer (some ⟨sb, 0, none⟩), .string q] w fun e w' => e = .returned (.int .i64 0) ∧ ∃ sv', Hid (Tri w' B b v mb u l sb sv' (ys ++ [q])) ∧ Below B w w' := by
  refine (push_s sb sv (ys.map Value.string) 1000 (-44) (-45) q B w h.2.1 h.2.2 (by decide) (by rw [List.length_map]; omega)).mono ?_
  rintro e w' ⟨rfl, sv', s', f, o⟩
  have bw := f.below h.2.1 h.2.2
  refine ⟨rfl, sv', Lib.hid ⟨int_keep h.1 h.2.1 f, ?_, Nat.le_trans h.2.2 bw.size⟩, bw⟩
  rw [List.map_append]
  exact s'
theorem take_more (l : List ByteArray) (i : Nat) (h : i < l.length) : l.take i ++ [l.getD i ByteArray.empty] = l.take (i + 1) := by
  rw [List.take_succ_eq_append_getElem h]
  simp [List.getD_eq_getElem?_getD, List.getElem?_eq_getElem h]
theorem take_same (l : List ByteArray) (i : Nat) (h : ¬ i < l.length) : l.take i = l.take (i + 1) := by
  rw [List.take_of_length_le (by omega), List.take_of_length_le (by omega)]
end Go.Proofs.Yticjepfcgfdmgaa
