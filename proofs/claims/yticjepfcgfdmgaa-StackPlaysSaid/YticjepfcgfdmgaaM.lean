/- Cut to more. -/
import Derived.Test.YticjepfcgfdmgaaL
import Derived.StillTailTactics
namespace Go.Proofs.Yticjepfcgfdmgaa
set_option linter.unusedVariables false
set_option linter.unusedSimpArgs false
open Go.RowKit

theorem wpList_append_zeros {P : Program} {w : World} {ops : Array Oper} {rest : List Oper} {o : Oper} {a : Act} {Q : Exit → Act → World → Prop}
    (hgd : o.guard = none) (s x : Operand) (t ti : TypeId) (hop : o.op = Op.call { callee := Callee.builtin Builtin.append, args := #[s, x], argTypes := #[t, ti] })
    (base : Nat) (e : TypeId) (i : TypeInfo) (h1 : P.underlying t = some (.slice e)) (h1' : P.underlying ti = some (.int .i64)) (h2 : P.info? e = some i) (h3 : i.zero = some (.int .i64 0)) (h4 : i.size = 1) (h5 : i.bytes = 8)
    (v : Value) (n : Nat) (xs : List Value) (hs : a.eval s = v) (hown : w.ownsRow base e 1 v n xs) (m : Nat) (M : Int) (hx : a.eval x = .int .i64 M) (hM : M = m) (hm : n + m ≤ 1000000) (hbase : base ≤ w.heap.size)
    (h : ∀ v' w', w'.ownsRow base e 1 v' (n + m) (xs ++ zs m) → w.grownBy w' v.ownBlock → (v'.ownBlock = v.ownBlock ∨ ∀ g, v'.ownBlock = some g → w.heap.size ≤ g) → wpList P ops Q rest (a.put o.dst v') w') : wpList P ops Q (o :: rest) a w := by
  refine wpList_plain hgd fun K hK => ?_
  subst hM
  obtain ⟨v', w', hrun, r1, r2, r3⟩ := run_append_zeros (P := P) w base t ti o.type e i h1 h1' h2 h3 h4 h5 v n xs hown m hm hbase
  unfold Oper.wp
  simp [execOp, hop, resolve, invoke, builtin, hs, hx, hrun, Result.andThen]
  exact hK _ _ (h v' w' r1 r2 r3)
set_option maxHeartbeats 8000000 in
theorem cut_grow (b : Nat) (v : Value) (xs : List Value) (most over under i : Int) (m B : Nat) (w : World) (h : IStk w B b v xs most over under) (hB : B ≤ w.heap.size) (hm : 0 ≤ most ∧ most ≤ 100000) (hl : (xs.length : Int) ≤ most) (hi : (xs.length : Int) ≤ i) (hmm : min i most - xs.length = m) :
    Calls Try.prog 20 #[.pointer (some ⟨b, 0, none⟩), .int .i64 i] w fun e w' => e = .returned (.tuple #[]) ∧ ∃ v', IStk w' B b v' (xs ++ zs m) most over under ∧ Fr b v w w' ∧ Old w v v' := by
  have HS := Lib.hid h
  obtain ⟨a, c, rfl, hc⟩ := h.form
  obtain ⟨c0, c1, c2, c3⟩ := h.cell
  obtain ⟨L, hL⟩ : ∃ L, xs.length = L := ⟨_, rfl⟩
  rw [hL] at hc c0 hi hmm hl
  have hO : Hid (w.ownsRow B 3 1 (.slice a L c) L xs) := by have := h.2.2; rw [hL] at this; exact Lib.hid this
  have HL := Lib.hid hL
  have FIN : Hid (∀ v' w1, w1.ownsRow B 3 1 v' (L + m) (xs ++ zs m) → (w.drew).grownBy w1 (Value.slice a L c).ownBlock → (v'.ownBlock = (Value.slice a L c).ownBlock ∨ ∀ g, v'.ownBlock = some g → (w.drew).heap.size ≤ g) →
      w1.cell? ⟨b, 0, none⟩ = some (.slice a L c) ∧ w1.frozen? ⟨b, 0, none⟩ = false ∧ Hid (∃ v'', IStk (w1.setCell ⟨b, 0, none⟩ v') B b v'' (xs ++ zs m) most over under ∧ Fr b (.slice a L c) w (w1.setCell ⟨b, 0, none⟩ v') ∧ Old w (.slice a L c) v'')) := by
    refine Lib.hid fun v' w1 ho hg hat => ?_
    have hs : IStk w B b (.slice a L c) xs most over under := by have := HS.out; rw [hL] at this; exact this
    have hne := hs.ne (by decide)
    have hb : w1.heap[b]? = w.heap[b]? := hg.block b hs.lt (fun g => hne g.symm)
    have hg2 : w.grownBy w1 (Value.slice a L c).ownBlock := ⟨hg.os, hg.tape, hg.output, hg.size, hg.block⟩
    have hzl : (zs m).length = m := by simp [zs]
    have hp := Stk.put (ys := xs ++ zs m) hs hg2 (by rw [List.length_append, hL, hzl]; exact ho) hat (by decide)
    exact ⟨(World.cell?_of_block (w := w) hb).trans hs.cell.1, (World.frozen?_of_block (w := w) hb).trans (hs.frozen 0), Lib.hid ⟨v', hp.1, hp.2.1, hp.2.2⟩⟩
  rw [hL]
  have hi0 : 0 ≤ i := by omega
  have hni : ¬ i < (L : Int) := by omega
  obtain ⟨M, hM⟩ : ∃ M, min i most = M := ⟨_, rfl⟩
  rw [hM] at hmm
  have hmn : (i ≤ most ∧ i = M) ∨ (most < i ∧ most = M) := by omega
  have i1 : IntKind.i64.wrap (M - (L : Int)) = M - L := IntWalk.i64_in _ (by omega)
  obtain ⟨i0, hi1, hz0, hz1, hz2⟩ := info_parts info_int
  have HM : Hid (IntKind.i64.wrap ((if most < i then most else i) - (L : Int)) = m) := Lib.hid (by rw [show (if most < i then most else i) = M by split <;> omega, i1]; exact hmm)
  have HM3 : Hid (IntKind.i64.wrap (m : Int) = m) := Lib.hid (IntWalk.i64_in _ (by omega))
  have HM2 : Hid (L + m ≤ 1000000) := Lib.hid (by omega)
  clear h HS hL hM
  rcases hmn with ⟨n1, rfl⟩ | ⟨n1, rfl⟩
  all_goals
    go_enter Try.func20, Try.ntmps20
    go_wp2_with fail
    go_region_law (refine step_append_zeros rfl (.tmp 34) (.tmp 46) 22 3 rfl B 3 i0 Try.underlying22 Try.underlying3 hi1 hz0 hz1 hz2 (.slice a L c) L xs (by simp [Act.eval, Act.put]) hO.out m _ (by simp [Act.eval, Act.put]; rfl) (by first | exact HM.out | exact HM3.out | (simp; done)) HM2.out hB ?_; intro v' w1 hown hg hat; obtain ⟨a1, d1, rfl⟩ := ownsRow_slice hown; obtain ⟨hc1, hf1, hend⟩ := FIN.out _ _ hown hg hat; clear hown hg hat)
    all_goals
      go_wp2_with fail
      go_end0
      exact ⟨rfl, hend.out⟩
end Go.Proofs.Yticjepfcgfdmgaa
