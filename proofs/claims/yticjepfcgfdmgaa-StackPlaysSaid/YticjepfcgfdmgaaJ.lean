/- Peek; the step law of append of make. -/
import Derived.Test.YticjepfcgfdmgaaI
namespace Go.Proofs.Yticjepfcgfdmgaa
set_option linter.unusedVariables false
set_option linter.unusedSimpArgs false
open Go.RowKit

theorem step_append_zeros {P : Program} {ops : Array Oper} {o : Oper} {a : Act} {w : World} {K : Act → World → Prop} {Q : Exit → Act → World → Prop} {E : Prop}
    (hg : o.guard = none) (s x : Operand) (t ti : TypeId) (hop : o.op = Op.call { callee := Callee.builtin Builtin.append, args := #[s, x], argTypes := #[t, ti] })
    (base : Nat) (e : TypeId) (i : TypeInfo) (h1 : P.underlying t = some (.slice e)) (h1' : P.underlying ti = some (.int .i64)) (h2 : P.info? e = some i) (h3 : i.zero = some (.int .i64 0)) (h4 : i.size = 1) (h5 : i.bytes = 8)
    (v : Value) (n : Nat) (xs : List Value) (hs : a.eval s = v) (hown : w.ownsRow base e 1 v n xs) (m : Nat) (M : Int) (hx : a.eval x = .int .i64 M) (hM : M = m) (hm : n + m ≤ 1000000) (hbase : base ≤ w.heap.size)
    (hK : ∀ v' w', w'.ownsRow base e 1 v' (n + m) (xs ++ zs m) → w.grownBy w' v.ownBlock → (v'.ownBlock = v.ownBlock ∨ ∀ g, v'.ownBlock = some g → w.heap.size ≤ g) → K (a.put o.dst v') w') :
    if Region.wanted o (yielded ops a.tmps) = true then Oper.wp P o a w K Q else E := by
  have hw : Region.wanted o (yielded ops a.tmps) = true := by simp [Region.wanted, hg]
  rw [if_pos hw]
  subst hM
  obtain ⟨v', w', hrun, r1, r2, r3⟩ := run_append_zeros (P := P) w base t ti o.type e i h1 h1' h2 h3 h4 h5 v n xs hown m hm hbase
  unfold Oper.wp
  simp [execOp, hop, resolve, invoke, builtin, hs, hx, hrun, Result.andThen]
  exact hK v' w' r1 r2 r3
theorem peek_yes (b : Nat) (v : Value) (l : List Int) (most over under : Int) (i : Nat) (B : Nat) (w : World) (h : IStk w B b v (l.map (.int .i64)) most over under) (hi : i < l.length) (hl : l.length ≤ 1000000) :
    Calls Try.prog 19 #[.pointer (some ⟨b, 0, none⟩), .int .i64 i] w fun e w' => e = .returned (.tuple #[.int .i64 (l.getD (l.length - 1 - i) 0), .int .i64 0]) ∧ w = w' := by
  have A := at_yes b v (l.map (.int .i64)) most over under i B w h (by omega) (by simpa using hi) (by simpa using hl)
  have hr : Rd w .i64 v l := Rd.of_own h.2.2
  obtain ⟨a, c, rfl, _⟩ := hr.len
  obtain ⟨g, off, rfl, k0⟩ := hr.at_ (i := l.length - 1 - i) (by omega)
  have c0 := h.cell.1
  obtain ⟨L, hL⟩ : ∃ L, l.length = L := ⟨_, rfl⟩
  rw [List.length_map] at A
  rw [hL] at A hi hl k0 c0 ⊢
  obtain ⟨p, hp⟩ : ∃ p, L - 1 - i = p := ⟨_, rfl⟩
  rw [hp] at k0 ⊢
  rw [show (L : Int) - 1 - i = (p : Int) by omega] at A
  obtain ⟨y, hy⟩ : ∃ y, l.getD p 0 = y := ⟨_, rfl⟩
  rw [hy] at k0 ⊢
  have HA := Lib.hid A
  have hpL : (p : Int) < L := by omega
  clear A h hr hL hy hp
  go_enter Try.func19, Try.ntmps19
  go_wp2_with (go_at_call 30; (with_reducible refine (HA.out).mono ?_); rintro e w' ⟨rfl, rfl⟩)
  go_ret2
  exact ⟨rfl, rfl⟩
end Go.Proofs.Yticjepfcgfdmgaa
