/- The reference's New: rows of two, insertion. -/
import Derived.Test.YthigimmlhgdchaaZA
namespace Go.Proofs.Ythigimmlhgdchaa
set_option linter.unusedVariables false
set_option linter.unusedSimpArgs false
open Go.RowKit

theorem rchar_c (u : Int) (w : World) : Calls Try.prog 23 #[.int .i64 u] w fun e w' => e = .returned (.bool (isC u)) ∧ w = w' := by
  by_cases h0 : 0 ≤ u
  · by_cases h1 : u ≤ 1114111
    · by_cases h2 : 55296 ≤ u
      · by_cases h3 : u ≤ 57343
        · have e : isC u = false := by unfold isC; simp; omega
          rw [e]
          go_enter Try.func23, Try.ntmps23
          go_wp2
          go_ret
          exact ⟨rfl, rfl⟩
        · have e : isC u = true := by unfold isC; simp; omega
          rw [e]
          go_enter Try.func23, Try.ntmps23
          go_wp2
          go_ret
          exact ⟨rfl, rfl⟩
      · have e : isC u = true := by unfold isC; simp; omega
        rw [e]
        go_enter Try.func23, Try.ntmps23
        go_wp2
        go_ret
        exact ⟨rfl, rfl⟩
    · have e : isC u = false := by unfold isC; simp; omega
      rw [e]
      go_enter Try.func23, Try.ntmps23
      go_wp2
      go_ret
      exact ⟨rfl, rfl⟩
  · have e : isC u = false := by unfold isC; simp; omega
    rw [e]
    go_enter Try.func23, Try.ntmps23
    go_wp2
    go_ret
    exact ⟨rfl, rfl⟩
/-- Rows of two cells an event. -/
def c2 (l : List Ev) : List Value := l.flatMap fun e => [.int .i64 e.1, .int .i64 e.2.1]
theorem c2_cons (e : Ev) (l : List Ev) : c2 (e :: l) = .int .i64 e.1 :: .int .i64 e.2.1 :: c2 l := rfl
theorem c2_concat (l : List Ev) (e : Ev) : c2 (l ++ [e]) = c2 l ++ [.int .i64 e.1, .int .i64 e.2.1] := by simp [c2]
theorem c2_len : ∀ l : List Ev, (c2 l).length = l.length * 2
  | [] => rfl
  | e :: l => by rw [c2_cons]; simp only [List.length_cons, c2_len l]; omega
theorem c2_get : ∀ (l : List Ev) (i : Nat) (e : Ev), l[i]? = some e → (c2 l)[i * 2]? = some (.int .i64 e.1) ∧ (c2 l)[i * 2 + 1]? = some (.int .i64 e.2.1)
  | [], i, e, h => by simp at h
  | a :: l, 0, e, h => by simp at h; subst h; exact ⟨rfl, rfl⟩
  | a :: l, i + 1, e, h => by
    have := c2_get l i e (by simpa using h)
    rw [c2_cons, show (i + 1) * 2 = i * 2 + 1 + 1 by omega, show i * 2 + 1 + 1 + 1 = (i * 2 + 1) + 1 + 1 by omega]
    simpa using this
theorem c2_set : ∀ (l : List Ev) (i : Nat) (e : Ev), c2 (l.set i e) = ((c2 l).set (i * 2) (.int .i64 e.1)).set (i * 2 + 1) (.int .i64 e.2.1)
  | [], i, e => by simp [c2]
  | a :: l, 0, e => rfl
  | a :: l, i + 1, e => by
    have := c2_set l i e
    rw [List.set_cons_succ, c2_cons, this, c2_cons, show (i + 1) * 2 = i * 2 + 1 + 1 by omega, show i * 2 + 1 + 1 + 1 = (i * 2 + 1) + 1 + 1 by omega]
    simp only [List.set_cons_succ]
/-- A row of such events. -/
def Rx (w : World) (B : Nat) (v : Value) (l : List Ev) : Prop := w.ownsRow B 32 2 v l.length (c2 l)
theorem swp_at (A B : List Ev) (x y : Ev) : swp (A ++ y :: x :: B) (A.length + 1) A.length = A ++ x :: y :: B := by
  unfold swp
  have e1 : (A ++ y :: x :: B).getD A.length e0 = y := by simp [List.getD_eq_getElem?_getD]
  have e2 : (A ++ y :: x :: B).getD (A.length + 1) e0 = x := by simp [List.getD_eq_getElem?_getD]
  rw [e1, e2, List.set_append_right (h := by omega), List.set_append_right (h := by omega)]
  rw [show A.length + 1 - A.length = 1 by omega, Nat.sub_self]
  rfl
/-- In order: by time, then by number. -/
def SortedE (R : List Ev) : Prop := R.Pairwise fun a b => a.1 < b.1 ∨ (a.1 = b.1 ∧ a.2.2 < b.2.2)
theorem sorted_ins {A B : List Ev} {x : Ev} (h : SortedE (A ++ B)) (hB : ∀ y ∈ B, x.1 < y.1) (hA : A = [] ∨ ∃ A' z, A = A' ++ [z] ∧ z.1 ≤ x.1) (hn : ∀ y ∈ A, y.2.2 < x.2.2) : SortedE (A ++ x :: B) := by
  unfold SortedE at h ⊢
  rw [List.pairwise_append] at h ⊢
  obtain ⟨h1, h2, h3⟩ := h
  have hAx : ∀ a ∈ A, a.1 ≤ x.1 := by
    rcases hA with rfl | ⟨A', z, rfl, hz⟩
    · intro a ha; cases ha
    · intro a ha
      rcases List.mem_append.1 ha with ha | ha
      · have := (List.pairwise_append.1 h1).2.2 a ha z (by simp)
        omega
      · rw [List.mem_singleton.1 ha]; exact hz
  refine ⟨h1, List.pairwise_cons.2 ⟨fun b hb => .inl (hB b hb), h2⟩, fun a ha b hb => ?_⟩
  rcases List.mem_cons.1 hb with rfl | hb
  · have := hAx a ha
    have := hn a ha
    omega
  · exact h3 a ha b hb
theorem perm_ins {A B l : List Ev} {x : Ev} (h : (A ++ B).Perm l) : (A ++ x :: B).Perm (l ++ [x]) :=
  (List.perm_middle.trans (h.cons x)).trans (List.perm_append_singleton x l).symm
theorem ev3_num {l : List (Int × Int)} {i : Nat} {e : Ev} (h : e ∈ ev3 (l.take i)) : e.2.2 < i := by
  unfold ev3 at h
  rw [List.mem_mapIdx] at h
  obtain ⟨q, hq, rfl⟩ := h
  rw [List.length_take] at hq
  simp only
  omega
theorem info_api : ∃ i z, Try.prog.info? 32 = some i ∧ i.zero = some z ∧ i.size = 2 ∧ i.bytes = 16 ∧ z.cells.size = 2 := by
  have h : (Try.prog.info? 32).map (fun i => (i.zero.map (·.cells.size), i.size, i.bytes)) = some (some 2, 2, 16) := by kernel_rfl
  obtain ⟨i, hi, h⟩ := Option.map_eq_some_iff.1 h
  simp only [Prod.mk.injEq] at h
  obtain ⟨z, hz, hs⟩ := Option.map_eq_some_iff.1 h.1
  exact ⟨i, z, hi, hz, h.2.1, h.2.2, hs⟩
end Go.Proofs.Ythigimmlhgdchaa
