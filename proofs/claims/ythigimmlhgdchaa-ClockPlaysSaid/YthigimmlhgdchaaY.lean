/- The law of order. -/
import Derived.Test.YthigimmlhgdchaaX
import Derived.Test.YthigimmlhgdchaaL
namespace Go.Proofs.Ythigimmlhgdchaa
set_option linter.unusedVariables false
set_option linter.unusedSimpArgs false
open Go.RowKit

theorem ev3_len (l : List (Int × Int)) : (ev3 l).length = l.length := by simp [ev3]
theorem ev3_mem {l : List (Int × Int)} {e : Ev} (h : e ∈ ev3 l) : ∃ q, q < l.length ∧ l.getD q (0, 0) = (e.1, e.2.1) := by
  unfold ev3 at h
  rw [List.mem_mapIdx] at h
  obtain ⟨q, hq, rfl⟩ := h
  refine ⟨q, hq, ?_⟩
  simp [List.getD_eq_getElem?_getD, List.getElem?_eq_getElem hq]
/-- What is left of a clock's events at a time. -/
def St (w0 w : World) (b : Nat) (t : Int) (m : Nat) (l : List (Int × Int)) : Prop :=
  ∃ v l', Clk 54 w b 0 t v ∧ Rw w (b + 1) v l' ∧ l'.length = m ∧ Hp l' 0 m ∧ (∀ e ∈ l', e ∈ ev3 l) ∧ (∀ e ∈ l', t ≤ e.1) ∧ Below w0.heap.size w0 w ∧ w0.heap.size ≤ b
theorem St.form {w0 w : World} {b m : Nat} {t : Int} {l : List (Int × Int)} (h : St w0 w b t (m + 1) l) : ∃ g c l', Clk 54 w b 0 t (.slice (some ⟨g, 0, none⟩) (m + 1) c) ∧ Rw w (b + 1) (.slice (some ⟨g, 0, none⟩) (m + 1) c) l' ∧ l'.length = m + 1 ∧ Hp l' 0 (m + 1) ∧ (∀ e ∈ l', e ∈ ev3 l) ∧ (∀ e ∈ l', t ≤ e.1) ∧ Below w0.heap.size w0 w ∧ w0.heap.size ≤ b := by
  obtain ⟨v, l', h1, h2, h3, h4⟩ := h
  obtain ⟨g, c, rfl, _⟩ := row_form (h2.own h3)
  exact ⟨g, c, l', h1, h2, h3, h4⟩
theorem ix_mem {l : List Ev} {k : Nat} (h : k < l.length) : ix l k ∈ l := by
  unfold ix; rw [List.getD_eq_getElem?_getD, List.getElem?_eq_getElem h]; exact List.getElem_mem h
theorem mem_ix {l : List Ev} {e : Ev} (h : e ∈ l) : ∃ k, k < l.length ∧ ix l k = e := by
  obtain ⟨k, hk, rfl⟩ := List.getElem_of_mem h
  exact ⟨k, hk, by unfold ix; rw [List.getD_eq_getElem?_getD, List.getElem?_eq_getElem hk]; rfl⟩
theorem St.next {w0 w : World} {b m : Nat} {t : Int} {l : List (Int × Int)} (h : St w0 w b t (m + 1) l) (hm : m + 1 ≤ 100000) :
    ∃ T K : Int, t ≤ T ∧ (∃ q, q < l.length ∧ l.getD q (0, 0) = (T, K)) ∧ Calls Try.prog 10 #[.pointer (some ⟨b, 0, none⟩), .bool false] w fun e w' => e = .returned (.tuple #[.int .i64 K, .bool true]) ∧ St w0 w' b T m l := by
  obtain ⟨g, c, l', h1, h2, h3, h4, h5, h6, h7, h8⟩ := h.form
  have hmem := ix_mem (l := l') (k := 0) (by omega)
  refine ⟨(ix l' 0).1, (ix l' 0).2.1, h6 _ hmem, ev3_mem (h5 _ hmem), (next_gen b (b + 1) g c m 0 t l' w h1 h2 h3 (by omega) hm h4).mono ?_⟩
  rintro e w' ⟨rfl, k1, ⟨r, k2, k3, k4, k5⟩, k6⟩
  have ht : max t (ix l' 0).1 = (ix l' 0).1 := by have := h6 _ hmem; omega
  rw [ht] at k1
  have sub : ∀ e ∈ r, e ∈ l' := fun e he => k3.subset (by simp [he])
  refine ⟨rfl, _, r, k1, k2, k4, k5, fun e he => h5 e (sub e he), fun e he => ?_, ?_, h8⟩
  · obtain ⟨k, hk, rfl⟩ := mem_ix (sub e he)
    have := h4.least k (by omega)
    unfold le3 at this
    omega
  · have hgb := (row_blk (h2.own h3)).1
    exact ⟨k6.os.trans h7.os, k6.tape.trans h7.tape, k6.output.trans h7.output, Nat.le_trans h7.size k6.size, fun k hk => (k6.block k (Nat.lt_of_lt_of_le hk h7.size) (by omega) (by omega)).trans (h7.block k hk)⟩
theorem St.fin {w0 w : World} {b : Nat} {t : Int} {l : List (Int × Int)} (h : St w0 w b t 0 l) : Calls Try.prog 10 #[.pointer (some ⟨b, 0, none⟩), .bool false] w fun e w' => e = .returned (.tuple #[.int .i64 0, .bool false]) ∧ w = w' := by
  obtain ⟨v, l', h1, h2, h3, _⟩ := h
  obtain ⟨a, c, rfl⟩ := ownsRow_slice3 (h2.own h3)
  exact next_empty b 0 t a c w h1
theorem St.now {w0 w : World} {b m : Nat} {t : Int} {l : List (Int × Int)} (h : St w0 w b t m l) : Calls Try.prog 11 #[.pointer (some ⟨b, 0, none⟩)] w fun e w' => e = .returned (.int .i64 t) ∧ w = w' := by
  obtain ⟨v, l', h1, _⟩ := h
  exact now_c b 0 t v w h1
theorem St.below {w0 w : World} {b m : Nat} {t : Int} {l : List (Int × Int)} (h : St w0 w b t m l) : Below w0.heap.size w0 w := by
  obtain ⟨v, l', _, _, _, _, _, _, h7, _⟩ := h
  exact h7
theorem new_st (l : List (Int × Int)) (v : Value) (w : World) (hv : Evs w v l) (hl : l.length ≤ 200) (hok : ∀ e ∈ l, okE e) :
    Calls Try.prog 9 #[.int .i64 0, v] w fun e w' => e = .returned (.tuple #[.pointer (some ⟨w.heap.size, 0, none⟩), .int .i64 0]) ∧ St w w' w.heap.size 0 l.length l := by
  have t0 : ∀ l' : List Ev, l'.Perm (ev3 l) → ∀ e ∈ l', (0 : Int) ≤ e.1 := by
    intro l' hp e he
    obtain ⟨q, hq, hx⟩ := ev3_mem (hp.subset he)
    have := hok (l.getD q (0, 0)) (by rw [List.getD_eq_getElem?_getD, List.getElem?_eq_getElem hq]; simp)
    rw [hx] at this
    exact this.1
  refine (new_gen l v 0 w (fun wx v' w' => Below wx.heap.size wx wx ∧ ∃ l', Clk 54 w' w.heap.size 0 0 v' ∧ Rw w' (w.heap.size + 1) v' l' ∧ l'.Perm (ev3 l) ∧ l'.length = l.length ∧ Hp l' 0 l.length ∧ (Below w.heap.size w wx → Below w.heap.size w w')) hv (by omega) hok (by decide) (by decide) ?_).mono ?_
  · intro wx v' hC hR
    have hR' : Rw wx (w.heap.size + 1) v' (ev3 l) := by unfold Rw; rw [ev3_len]; exact hR
    obtain ⟨N, hN⟩ : ∃ N, l.length = N := ⟨_, rfl⟩
    rw [hN] at hR ⊢
    cases N with
    | zero =>
      obtain ⟨a, c, rfl⟩ := ownsRow_slice3 hR
      refine (init_c _ a 0 c wx hC.c2 (.inl rfl)).mono ?_
      rintro e w' ⟨rfl, rfl⟩
      exact ⟨rfl, Below.refl _ _, ev3 l, hC, hR', .refl _, by rw [ev3_len]; exact hN, fun c hc => by omega, fun h => h⟩
    | succ N =>
      obtain ⟨g, c, rfl, hg⟩ := row_form hR
      refine (init_gen w.heap.size (w.heap.size + 1) g c (N + 1) 0 0 (ev3 l) wx hC hR' (by rw [ev3_len]; exact hN) (by omega) (by omega)).mono ?_
      rintro e w' ⟨rfl, k1, ⟨l', k2, k3, k4, k5⟩, k6⟩
      refine ⟨rfl, Below.refl _ _, l', k1, k2, k3, k4, k5, fun hb => ?_⟩
      exact ⟨k6.os.trans hb.os, k6.tape.trans hb.tape, k6.output.trans hb.output, Nat.le_trans hb.size k6.size, fun k hk => (k6.block k (Nat.lt_of_lt_of_le hk hb.size) (by omega) (by omega)).trans (hb.block k hk)⟩
  · rintro e w' ⟨rfl, wx, v', _, _, hb, _, l', k1, k2, k3, k4, k5, k6⟩
    exact ⟨rfl, v', l', k1, k2, k4, k5, fun e he => k3.subset he, t0 l' k3, k6 hb, Nat.le_refl _⟩
end Go.Proofs.Ythigimmlhgdchaa
