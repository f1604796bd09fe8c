/- The heap's rows: Swap, Pop. -/
import Derived.Test.YthigimmlhgdchaaF
namespace Go.Proofs.Ythigimmlhgdchaa
set_option linter.unusedVariables false
set_option linter.unusedSimpArgs false
open Go.RowKit

theorem setCell_some {w : World} {p q : Addr} {x v : Value} (h : w.cell? q = some v) : ∃ v', (w.setCell p x).cell? q = some v' := by
  by_cases e : p = q
  · subst e; exact ⟨x, World.cell?_setCell_same w p x h⟩
  · exact ⟨v, (World.cell?_setCell_other w p q x e).trans h⟩
theorem row_get {w : World} {B e k g n c : Nat} {xs : List Value} (h : w.ownsRow B e k (.slice (some ⟨g, 0, none⟩) n c) n xs) {i : Nat} {u : Value} (hu : xs[i]? = some u) : w.cell? ⟨g, i, none⟩ = some u := by
  have := h.cells (g := g) rfl i u hu
  have ha : (⟨g, 0, none⟩ : Addr).add i = ⟨g, i, none⟩ := by unfold Addr.add; split <;> simp_all
  rwa [ha] at this
theorem row_blk {w : World} {B e k g n c : Nat} {xs : List Value} (h : w.ownsRow B e k (.slice (some ⟨g, 0, none⟩) n c) n xs) : B ≤ g ∧ ∃ cur, w.heap[g]? = some (.cells cur e (0, 0)) ∧ n ≤ c ∧ c ≤ maxLen ∧ cur.size = c * k ∧ cur.toList.take (n * k) = xs := by
  rcases h.2 with ⟨h1, _⟩ | ⟨g', cap, cur, h1, h2, h3, h4⟩
  · cases h1
  · injection h1 with e1 e2 e3
    injection e1 with e1
    injection e1 with e1
    subst e1 e3
    exact ⟨h2, cur, h3, h4⟩
theorem row_fz {w : World} {B e k g n c : Nat} {xs : List Value} (h : w.ownsRow B e k (.slice (some ⟨g, 0, none⟩) n c) n xs) (i : Nat) : w.frozen? ⟨g, i, none⟩ = false := by
  obtain ⟨_, cur, hg, _⟩ := row_blk h
  simp [World.frozen?, hg]
theorem row_set {w : World} {B e k g n c : Nat} {xs : List Value} (h : w.ownsRow B e k (.slice (some ⟨g, 0, none⟩) n c) n xs) (i : Nat) (u : Value) : (w.setCell ⟨g, i, none⟩ u).ownsRow B e k (.slice (some ⟨g, 0, none⟩) n c) n (xs.set i u) := by
  obtain ⟨hb, cur, hg, h1, h2, h3, h4⟩ := row_blk h
  refine ⟨by rw [List.length_set]; exact h.1, .inr ⟨g, c, cur.setIfInBounds i u, rfl, hb, ?_, h1, h2, by simpa using h3, ?_⟩⟩
  · simp [World.setCell, Array.getElem?_modify, hg]
  · rw [← h4, Array.toList_setIfInBounds, List.take_set]
theorem row_cut {w : World} {B e k g n c m : Nat} {xs : List Value} (h : w.ownsRow B e k (.slice (some ⟨g, 0, none⟩) n c) n xs) (hm : m ≤ n) : w.ownsRow B e k (.slice (some ⟨g, 0, none⟩) m c) m (xs.take (m * k)) := by
  obtain ⟨hb, cur, hg, h1, h2, h3, h4⟩ := row_blk h
  have hmk : m * k ≤ n * k := Nat.mul_le_mul_right _ hm
  refine ⟨by rw [List.length_take, h.1]; omega, .inr ⟨g, c, cur, rfl, hb, hg, by omega, h2, h3, ?_⟩⟩
  rw [← h4, List.take_take, Nat.min_eq_left hmk]
theorem cells3_len : ∀ (l : List (Int × Int × Int)), (cells3 l).length = l.length * 3
  | [] => rfl
  | e :: l => by
    have := cells3_len l
    simp only [cells3, List.flatMap_cons, List.length_append, cell3, List.length_cons, List.length_nil] at this ⊢
    omega
theorem cells3_cons (e : Int × Int × Int) (l : List (Int × Int × Int)) : cells3 (e :: l) = .int .i64 e.1 :: .int .i64 e.2.1 :: .int .i64 e.2.2 :: cells3 l := rfl
theorem cells3_get : ∀ (l : List (Int × Int × Int)) (i : Nat) (e : Int × Int × Int), l[i]? = some e → (cells3 l)[i * 3]? = some (.int .i64 e.1) ∧ (cells3 l)[i * 3 + 1]? = some (.int .i64 e.2.1) ∧ (cells3 l)[i * 3 + 2]? = some (.int .i64 e.2.2)
  | [], i, e, h => by simp at h
  | a :: l, 0, e, h => by
    simp at h; subst h; exact ⟨rfl, rfl, rfl⟩
  | a :: l, i + 1, e, h => by
    have := cells3_get l i e (by simpa using h)
    rw [cells3_cons, show (i + 1) * 3 = i * 3 + 1 + 1 + 1 by omega, show i * 3 + 1 + 1 + 1 + 1 = (i * 3 + 1) + 1 + 1 + 1 by omega, show i * 3 + 1 + 1 + 1 + 2 = (i * 3 + 2) + 1 + 1 + 1 by omega]
    simpa using this
theorem cells3_set : ∀ (l : List (Int × Int × Int)) (i : Nat) (e : Int × Int × Int), cells3 (l.set i e) = (((cells3 l).set (i * 3) (.int .i64 e.1)).set (i * 3 + 1) (.int .i64 e.2.1)).set (i * 3 + 2) (.int .i64 e.2.2)
  | [], i, e => by simp [cells3]
  | a :: l, 0, e => rfl
  | a :: l, i + 1, e => by
    have := cells3_set l i e
    rw [List.set_cons_succ, cells3_cons, this, cells3_cons, show (i + 1) * 3 = i * 3 + 1 + 1 + 1 by omega, show i * 3 + 1 + 1 + 1 + 1 = (i * 3 + 1) + 1 + 1 + 1 by omega, show i * 3 + 1 + 1 + 1 + 2 = (i * 3 + 2) + 1 + 1 + 1 by omega]
    simp only [List.set_cons_succ]
theorem cells3_take : ∀ (l : List (Int × Int × Int)) (m : Nat), (cells3 l).take (m * 3) = cells3 (l.take m)
  | [], m => by simp [cells3]
  | a :: l, 0 => by simp [cells3]
  | a :: l, m + 1 => by
    rw [cells3_cons, show (m + 1) * 3 = m * 3 + 1 + 1 + 1 by omega, List.take_succ_cons, List.take_succ_cons, List.take_succ_cons, cells3_take l m, List.take_succ_cons, cells3_cons]
def e0 : Int × Int × Int := (0, 0, 0)
def swp (l : List (Int × Int × Int)) (i j : Nat) : List (Int × Int × Int) := (l.set i (l.getD j e0)).set j (l.getD i e0)
/-- Events in a row of the call's own. -/
def Rw (w : World) (B : Nat) (v : Value) (l : List (Int × Int × Int)) : Prop := w.ownsRow B 58 3 v l.length (cells3 l)
theorem getD_get {l : List (Int × Int × Int)} {i : Nat} (h : i < l.length) : l[i]? = some (l.getD i e0) := by
  rw [List.getD_eq_getElem?_getD, List.getElem?_eq_getElem h]; rfl
theorem Fb.drewN {b : Nat} {w w' : World} (h : Fb b w w') (n : Nat) : Fb b w (w'.drewN n) := ⟨h.os, h.tape, h.output, h.size, h.block⟩
theorem Rw.drewN {w : World} {B : Nat} {v : Value} {l : List (Int × Int × Int)} (h : Rw w B v l) (n : Nat) : Rw (w.drewN n) B v l := h
set_option maxHeartbeats 4000000 in
theorem swap_c (B g c i j n : Nat) (l : List (Int × Int × Int)) (w : World) (h : Rw w B (.slice (some ⟨g, 0, none⟩) n c) l) (hn : l.length = n) (hi : i < n) (hj : j < n) :
    Calls Try.prog 54 #[.slice (some ⟨g, 0, none⟩) n c, .int .i64 i, .int .i64 j] w fun e w' => e = .returned (.tuple #[]) ∧ Rw w' B (.slice (some ⟨g, 0, none⟩) n c) (swp l i j) ∧ Fb g w w' := by
  have ha := cells3_get l i _ (getD_get (by omega))
  have hb := cells3_get l j _ (getD_get (by omega))
  have hr : w.ownsRow B 58 3 (.slice (some ⟨g, 0, none⟩) n c) n (cells3 l) := by rw [← hn]; rw [← hn] at h; exact h
  obtain ⟨⟨x0, x1, x2⟩, hx⟩ : ∃ x, l.getD i e0 = x := ⟨_, rfl⟩
  obtain ⟨⟨y0, y1, y2⟩, hy⟩ : ∃ y, l.getD j e0 = y := ⟨_, rfl⟩
  rw [hx] at ha
  rw [hy] at hb
  have a0 := row_get hr ha.1
  have a1 := row_get hr ha.2.1
  have a2 := row_get hr ha.2.2
  have b0 := row_get hr hb.1
  have b1 := row_get hr hb.2.1
  have b2 := row_get hr hb.2.2
  have s1 := row_set (row_set (row_set hr (i * 3) (.int .i64 y0)) (i * 3 + 1) (.int .i64 y1)) (i * 3 + 2) (.int .i64 y2)
  have s2 := row_set (row_set (row_set s1 (j * 3) (.int .i64 x0)) (j * 3 + 1) (.int .i64 x1)) (j * 3 + 2) (.int .i64 x2)
  have e1 := cells3_set l i (y0, y1, y2)
  have e2 := cells3_set (l.set i (y0, y1, y2)) j (x0, x1, x2)
  rw [e1] at e2
  rw [← e2] at s2
  have s3 : Rw ((((((w.setCell ⟨g, i * 3, none⟩ (.int .i64 y0)).setCell ⟨g, i * 3 + 1, none⟩ (.int .i64 y1)).setCell ⟨g, i * 3 + 2, none⟩ (.int .i64 y2)).setCell ⟨g, j * 3, none⟩ (.int .i64 x0)).setCell ⟨g, j * 3 + 1, none⟩ (.int .i64 x1)).setCell ⟨g, j * 3 + 2, none⟩ (.int .i64 x2)) B (.slice (some ⟨g, 0, none⟩) n c) (swp l i j) := by
    unfold Rw swp
    rw [hx, hy, List.length_set, List.length_set, hn]
    exact s2
  have S := Lib.hid s3
  have F : Hid (Fb g w ((((((w.setCell ⟨g, i * 3, none⟩ (.int .i64 y0)).setCell ⟨g, i * 3 + 1, none⟩ (.int .i64 y1)).setCell ⟨g, i * 3 + 2, none⟩ (.int .i64 y2)).setCell ⟨g, j * 3, none⟩ (.int .i64 x0)).setCell ⟨g, j * 3 + 1, none⟩ (.int .i64 x1)).setCell ⟨g, j * 3 + 2, none⟩ (.int .i64 x2))) :=
    Lib.hid ((((((Fb.set _ _).trans (Fb.set _ _)).trans (Fb.set _ _)).trans (Fb.set _ _)).trans (Fb.set _ _)).trans (Fb.set _ _))
  obtain ⟨t0, q0⟩ := setCell_some (p := ⟨g, i * 3, none⟩) (x := .int .i64 y0) b0
  obtain ⟨t0, q0⟩ := setCell_some (p := ⟨g, i * 3 + 1, none⟩) (x := .int .i64 y1) q0
  obtain ⟨t0, q0⟩ := setCell_some (p := ⟨g, i * 3 + 2, none⟩) (x := .int .i64 y2) q0
  obtain ⟨t1, q1⟩ := setCell_some (p := ⟨g, i * 3, none⟩) (x := .int .i64 y0) b1
  obtain ⟨t1, q1⟩ := setCell_some (p := ⟨g, i * 3 + 1, none⟩) (x := .int .i64 y1) q1
  obtain ⟨t1, q1⟩ := setCell_some (p := ⟨g, i * 3 + 2, none⟩) (x := .int .i64 y2) q1
  obtain ⟨t1, q1⟩ := setCell_some (p := ⟨g, j * 3, none⟩) (x := .int .i64 x0) q1
  obtain ⟨t2, q2⟩ := setCell_some (p := ⟨g, i * 3, none⟩) (x := .int .i64 y0) b2
  obtain ⟨t2, q2⟩ := setCell_some (p := ⟨g, i * 3 + 1, none⟩) (x := .int .i64 y1) q2
  obtain ⟨t2, q2⟩ := setCell_some (p := ⟨g, i * 3 + 2, none⟩) (x := .int .i64 y2) q2
  obtain ⟨t2, q2⟩ := setCell_some (p := ⟨g, j * 3, none⟩) (x := .int .i64 x0) q2
  obtain ⟨t2, q2⟩ := setCell_some (p := ⟨g, j * 3 + 1, none⟩) (x := .int .i64 x1) q2
  have f0 := row_fz hr (i * 3)
  have f1 := row_fz hr (i * 3 + 1)
  have f2 := row_fz hr (i * 3 + 2)
  have g0 := row_fz hr (j * 3)
  have g1 := row_fz hr (j * 3 + 1)
  have g2 := row_fz hr (j * 3 + 2)
  clear hr ha hb s1 s2 s3 e1 e2 hx hy h hn
  go_enter Try.func54, Try.ntmps54
  go_wp2_with fail
  go_big_region
  all_goals
    go_wp2_with fail
    go_end0
    exact ⟨rfl, S.out.drewN 1, F.out.drewN 1⟩
end Go.Proofs.Ythigimmlhgdchaa
