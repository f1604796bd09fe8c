/- A stack and its model side by side. -/
import Derived.Test.YticjepfcgfdmgaaQ
namespace Go.Proofs.Yticjepfcgfdmgaa
set_option linter.unusedVariables false
set_option linter.unusedSimpArgs false
open Go.RowKit

/-- Of what was there, only blocks of S may have turned. -/
structure Ft (S : Nat → Prop) (w w' : World) : Prop where
  os : w'.os = w.os
  tape : w'.tape = w.tape
  output : w'.output = w.output
  size : w.heap.size ≤ w'.heap.size
  block : ∀ k, k < w.heap.size → ¬ S k → w'.heap[k]? = w.heap[k]?
theorem Ft.trans {S S2 : Nat → Prop} {w w1 w2 : World} (f : Ft S w w1) (g : Ft S2 w1 w2) (h : ∀ k, k < w.heap.size → S2 k → S k) : Ft S w w2 :=
  ⟨g.os.trans f.os, g.tape.trans f.tape, g.output.trans f.output, Nat.le_trans f.size g.size, fun k hk hS => (g.block k (Nat.lt_of_lt_of_le hk f.size) (fun h2 => hS (h k hk h2))).trans (f.block k hk hS)⟩
theorem Ft.of_below {S : Nat → Prop} {w w1 : World} (h : Below w.heap.size w w1) : Ft S w w1 := ⟨h.os, h.tape, h.output, h.size, fun k hk _ => h.block k hk⟩
theorem Ft.below {S : Nat → Prop} {w w1 : World} {B : Nat} (f : Ft S w w1) (h : ∀ k, S k → B ≤ k) (hB : B ≤ w.heap.size) : Below B w w1 := ⟨f.os, f.tape, f.output, f.size, fun k hk => f.block k (by omega) (fun hs => by have := h k hs; omega)⟩
/-- The struct's blocks. -/
def Fo (b : Nat) (v : Value) : Nat → Prop := fun k => k = b ∨ v.ownBlock = some k
theorem Fr.ft {b : Nat} {v : Value} {w w' : World} (f : Fr b v w w') : Ft (Fo b v) w w' := ⟨f.os, f.tape, f.output, f.size, fun k hk h => f.block k hk (fun e => h (.inl e)) (fun e => h (.inr e))⟩
def MStk := Stk 39 3
def ap (v u : Value) : Prop := ∀ g, v.ownBlock = some g → u.ownBlock ≠ some g
theorem ap.symm {v u : Value} (h : ap v u) : ap u v := fun g h1 h2 => h g h2 h1
theorem Stk.ne2 {T1 T2 e : TypeId} {w : World} {B b mb : Nat} {v u : Value} {xs ys : List Value} {m1 o1 u1 m2 o2 u2 : Int} (hs : Stk T1 e w B b v xs m1 o1 u1) (hm : Stk T2 e w B mb u ys m2 o2 u2) (h12 : T1 ≠ T2) : b ≠ mb := by
  intro h
  subst h
  have := hs.1
  rw [hm.1] at this
  injection this with this
  injection this with _ ht
  exact h12 ht.symm
theorem row_ne {T2 e : TypeId} {w : World} {B g mb n : Nat} {v u : Value} {xs ys : List Value} {m2 o2 u2 : Int} (ho : w.ownsRow B e 1 v n xs) (hm : Stk T2 e w B mb u ys m2 o2 u2) (h : e ≠ T2) : v.ownBlock ≠ some mb := by
  rcases ho.2 with ⟨rfl, _⟩ | ⟨g, cap, cur, rfl, _, hh, _⟩
  · simp [Value.ownBlock]
  · intro he
    have e1 : g = mb := by simpa [Value.ownBlock] using he
    subst e1
    have := hm.1
    rw [hh] at this
    injection this with this
    injection this with _ ht
    exact h ht
/-- What stands apart from a struct stays when that one turns. -/
theorem Stk.apart {T1 T2 e : TypeId} {w w1 : World} {B b mb : Nat} {v v1 u : Value} {xs ys : List Value} {m1 o1 u1 m2 o2 u2 : Int} (hs : Stk T1 e w B b v xs m1 o1 u1) (hm : Stk T2 e w B mb u ys m2 o2 u2) (h : ap v u) (h12 : T1 ≠ T2) (h1 : e ≠ T1) (h2 : e ≠ T2) (f : Fr b v w w1) (o : Old w v v1) :
    Stk T2 e w1 B mb u ys m2 o2 u2 ∧ ap v1 u := by
  refine ⟨hm.same (f.block mb hm.lt (fun e => hs.ne2 hm h12 e.symm) (row_ne (g := 0) hs.2.2 hm h2)) (fun g hg => f.block g (hm.row_lt g hg).2 (fun e => hm.2.2.2.elim (fun h => by rw [h.1] at hg; cases hg) (fun ⟨g', cap, cur, hv, _, hh, _⟩ => ?_)) (fun e => h g e hg)), ?_⟩
  · rw [hv] at hg
    have e1 : g' = g := by simpa [Value.ownBlock] using hg
    rw [e1, e] at hh
    have := hs.1
    rw [hh] at this
    injection this with this
    injection this with _ ht
    exact h1 ht
  · intro g hg hu
    rcases o with o | o
    · rw [o] at hg; exact h g hg hu
    · have := o g hg; have := (hm.row_lt g hu).2; omega
/-- The stack and the model hold the same. -/
structure Both (w : World) (B b : Nat) (v : Value) (mb : Nat) (u : Value) (l : List Int) (most over under : Int) : Prop where
  s : IStk w B b v (l.map (.int .i64)) most over under
  m : MStk w B mb u (l.map (.int .i64)) most over under
  ap : ap v u
  lim : (l.length : Int) ≤ most
theorem Both.below {w w1 : World} {B b mb : Nat} {v u : Value} {l : List Int} {most over under : Int} (h : Both w B b v mb u l most over under) (hb : Below w.heap.size w w1) : Both w1 B b v mb u l most over under :=
  ⟨h.s.below hb, h.m.below hb, h.ap, h.lim⟩
/-- What a step leaves. -/
def Went (w w' : World) (B b : Nat) (v : Value) (mb : Nat) (u : Value) (most over under : Int) : Prop :=
  ∃ v' u' l', Both w' B b v' mb u' l' most over under ∧ Old w v v' ∧ Old w u u' ∧ Ft (fun k => Fo b v k ∨ Fo mb u k) w w'
theorem Went.of_below {w w1 : World} {B b mb : Nat} {v u : Value} {l : List Int} {most over under : Int} (h : Both w B b v mb u l most over under) (hb : Below w.heap.size w w1) : Went w w1 B b v mb u most over under :=
  ⟨v, u, l, h.below hb, .inl rfl, .inl rfl, Ft.of_below hb⟩
theorem is_c (mb : Nat) (u : Value) (xs : List Value) (most over under i : Int) (B : Nat) (w : World) (h : MStk w B mb u xs most over under) : Calls Try.prog 25 #[.pointer (some ⟨mb, 0, none⟩), .int .i64 i] w fun e w' => e = .returned (.bool (decide (0 ≤ i ∧ i < (xs.length : Int)))) ∧ w = w' := by
  obtain ⟨a, c, rfl, hc⟩ := h.form
  obtain ⟨c0, c1, c2, c3⟩ := h.cell
  obtain ⟨L, hL⟩ : ∃ L, xs.length = L := ⟨_, rfl⟩
  rw [hL] at c0 ⊢
  clear h hL
  by_cases h0 : 0 ≤ i
  · by_cases h1 : i < (L : Int)
    · have e : decide (0 ≤ i ∧ i < (L : Int)) = true := by simp [h0, h1]
      rw [e]
      go_enter Try.func25, Try.ntmps25
      go_wp2_with fail
      go_ret
      exact ⟨rfl, rfl⟩
    · have e : decide (0 ≤ i ∧ i < (L : Int)) = false := by simp [h1]
      rw [e]
      go_enter Try.func25, Try.ntmps25
      go_wp2_with fail
      go_ret
      exact ⟨rfl, rfl⟩
  · have e : decide (0 ≤ i ∧ i < (L : Int)) = false := by simp [h0]
    rw [e]
    go_enter Try.func25, Try.ntmps25
    go_wp2_with fail
    go_ret
    exact ⟨rfl, rfl⟩
end Go.Proofs.Yticjepfcgfdmgaa
