/- One element appended to a row of the call's own. -/
import Derived.Test.YtjioombinbngpaaK
import Derived.OwnWalk
namespace Go.Proofs.Ytjioombinbngpaa
set_option linter.unusedVariables false
set_option linter.unusedSimpArgs false
open Go.RowKit

theorem info_u8 : (Try.prog.info? 5).map (fun i => (i.zero, i.size, i.bytes)) = some (some (.int .u8 0), 1, 1) := by kernel_rfl
/-- append(s, x), where x lies in a new block of its own. -/
theorem wp_app {P : Program} {ops : Array Oper} {rest : List Oper} {o : Oper} {a : Act} {Q : Exit → Act → World → Prop} (T e : TypeId) (z : Value) (bytes : Nat) (ht : P.underlying T = some (.slice e)) (hinfo : (P.info? e).map (fun i => (i.zero, i.size, i.bytes)) = some (some z, 1, bytes)) (hz1 : z.cells.size = 1)
    (B : Nat) (v : Value) (n : Nat) (xs : List Value) (y : Value) (w : World) (N : Nat) (hN : w.heap.size = N) (hgd : o.guard = none) (s x : Operand) (ho : o.op = .call { callee := .builtin .append, args := #[s, x], argTypes := #[T, T] })
    (hs : a.eval s = v) (hx : a.eval x = .slice (some ⟨N, 0, none⟩) 1 1) (hown : w.ownsRow B e 1 v n xs) (hB : B ≤ N) (hy : y.oneCell' = true) (hn : n < 1000000000000) (hby : bytes ≤ 64)
    (h : ∀ v' w', w'.ownsRow B e 1 v' (n + 1) (xs ++ [y]) → Below B w w' → wpList P ops Q rest (a.put o.dst v') w') :
    wpList P ops Q (o :: rest) a (w.alloc (.cells #[y] e)) := by
  subst hN
  obtain ⟨i0, hi, hz0, hz2, hz3⟩ := info_parts hinfo
  refine wpList_append_own _ hgd s x T ho B e i0 z 1 bytes ht hi hz0 hz2 hz3 hz1 (by decide) v n xs hs (hown.alloc _) ⟨w.heap.size, 0, none⟩ 1 1 [y] hx rfl ?c1 ?c2 ?c3 ?c4 ?c5 ?_
  case c1 =>
    intro j u hj
    match j, hj with
    | 0, hj =>
      simp at hj; subst hj
      simp [Addr.add, go_sem]
  case c2 => intro u hu; simp at hu; subst hu; exact hy
  case c3 => unfold maxLen; omega
  case c4 => calc (n + 1) * bytes ≤ (n + 1) * 64 := Nat.mul_le_mul_left _ hby
             _ ≤ 140737488355328 := by omega
  case c5 => simp; omega
  · intro v' w' h2 h3 _
    exact h v' w' h2 (((Below.refl B w).alloc hB _).grown h3 (by simp; omega) (fun k hk => (hown.lt k hk).1))
end Go.Proofs.Ytjioombinbngpaa
