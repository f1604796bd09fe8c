/- The program's Escape: the deferred closure; the text. -/
import Derived.Test.YtocmgdolinajmaaDoorS
import Derived.Laws.Pointers
import Derived.ScopeJumps
import Derived.OneCell
import Derived.WalkMore
namespace Go.Proofs.YtocmgdolinajmaaDoor
set_option linter.unusedVariables false
set_option linter.unusedSimpArgs false
open Go.RowKit

theorem catch_idle (p q r : Addr) (w : World) :
    CallsD Tryd.prog 31 #[.pointer (some p), .pointer (some q), .pointer (some r)] .returning w fun e u' w' => e = .returned (.tuple #[]) ∧ u' = .returning ∧ w' = w := by
  refine callsD_of_wpS Tryd.func31 rfl fun c₀ cs hu => ?_
  apply wpS_seq
  apply wpS_region
  simp [wpOpsS, go_sem, recoverD, hu, Tryd.ntmps31, Exit.thenS]
  apply wpS_seq
  apply wpS_region
  simp [wpOpsS, go_sem, Exit.thenS]
  refine wpS_cond (t := false) (by simp [Act.eval, Array.replicate]) ?_
  simp only [Bool.false_eq_true, if_false]
  refine wpS_of_wp (wp_skip ?_)
  cases c₀
  simp_all [bodyPostS, results, Tryd.results31]
theorem catch_bad (b : Nat) (v : Value) (x y : Int) (older : List PanicEntry) (w : World) (h0 : w.heap[b]? = some (.cells #[v] 22 (0, 0))) (h1 : w.heap[b + 1]? = some (.cells #[.int .i64 x] 3 (0, 0))) (h2 : w.heap[b + 2]? = some (.cells #[.int .i64 y] 3 (0, 0))) :
    CallsD Tryd.prog 31 #[.pointer (some ⟨b, 0, none⟩), .pointer (some ⟨b + 1, 0, none⟩), .pointer (some ⟨b + 2, 0, none⟩)] (.panicking ({ v := BadIface, recovered := false } :: older)) w fun e u' w' =>
      e = .returned (.tuple #[]) ∧ u' = .panicking ({ v := BadIface, recovered := true } :: older) ∧ w' = (((w.alloc (.cells #[] 52)).setCell ⟨b, 0, none⟩ (.slice none 0 0)).setCell ⟨b + 1, 0, none⟩ (.int .i64 0)).setCell ⟨b + 2, 0, none⟩ (.int .i64 (-24)) := by
  refine callsD_of_wpS Tryd.func31 rfl fun c₀ cs hu => ?_
  unfold BadIface at hu ⊢
  have hta : ∀ w, (Instr.typeAssert (.iface 52 (.agg #[])) 20 52 true).run Tryd.prog w = .ok (.tuple #[.agg #[], .bool true]) w := fun _ => by kernel_rfl
  apply wpS_seq
  apply wpS_region
  simp [wpOpsS, go_sem, recoverD, hu, Tryd.ntmps31, Exit.thenS]
  apply wpS_seq
  apply wpS_region
  simp [wpOpsS, go_sem, Exit.thenS]
  refine wpS_cond (t := true) (by simp [Act.eval, Array.replicate]) ?_
  simp only [if_true]
  apply wpS_seq
  apply wpS_seq
  apply wpS_region
  simp [wpOpsS, go_sem, Exit.thenS, recoverD, hta]
  apply wpS_seq
  apply wpS_region
  simp [wpOpsS, go_sem, Exit.thenS]
  refine wpS_cond (t := false) (by simp [Act.eval, Array.replicate]) ?_
  simp only [Bool.false_eq_true, if_false]
  refine wpS_of_wp (wp_skip ?_)
  simp only [Exit.thenS]
  apply wpS_region
  have k0 : (w.alloc (.cells #[] 52)).heap[b]? = some (.cells #[v] 22 (0, 0)) := (Below.heap_alloc w _ _ (lt_of_block h0)).trans h0
  have k1 : (w.alloc (.cells #[] 52)).heap[b + 1]? = some (.cells #[.int .i64 x] 3 (0, 0)) := (Below.heap_alloc w _ _ (lt_of_block h1)).trans h1
  have k2 : (w.alloc (.cells #[] 52)).heap[b + 2]? = some (.cells #[.int .i64 y] 3 (0, 0)) := (Below.heap_alloc w _ _ (lt_of_block h2)).trans h2
  have m1 : ((w.alloc (.cells #[] 52)).setCell ⟨b, 0, none⟩ (.slice none 0 0)).heap[b + 1]? = some (.cells #[.int .i64 x] 3 (0, 0)) := by rw [Below.heap_setCell _ _ _ _ (by simp)]; exact k1
  have m2 : ((w.alloc (.cells #[] 52)).setCell ⟨b, 0, none⟩ (.slice none 0 0)).heap[b + 2]? = some (.cells #[.int .i64 y] 3 (0, 0)) := by rw [Below.heap_setCell _ _ _ _ (by simp)]; exact k2
  have n2 : (((w.alloc (.cells #[] 52)).setCell ⟨b, 0, none⟩ (.slice none 0 0)).setCell ⟨b + 1, 0, none⟩ (.int .i64 0)).heap[b + 2]? = some (.cells #[.int .i64 y] 3 (0, 0)) := by rw [Below.heap_setCell _ _ _ _ (by simp)]; exact m2
  have g0 := cell_of_one k0
  have g1 := cell_of_one m1
  have g2 := cell_of_one n2
  have f0 := free_of_one k0
  have f1 := free_of_one m1
  have f2 := free_of_one n2
  clear h0 h1 h2 k0 k1 k2 m1 m2 n2
  simp [wpOpsS, go_sem, g0, g1, g2, f0, f1, f2, recoverD, bodyPostS, results, Tryd.results31]
/-- Two labels: one that is jumped back to, and one that is jumped to at the end. -/
def Jumps (l m : Nat) (J K : Act → World → Prop) (Q : Exit → Act → World → Prop) : Exit → Act → World → Prop
  | .goto l', a, w => (l' = l ∧ J a w) ∨ (l' = m ∧ K a w)
  | e, a, w => Q e a w
theorem wp_scope_two {P : Program} {a : Act} {w : World} {Q : Exit → Act → World → Prop} {c rest fin : Code} (l m : Nat) (J K : Act → World → Prop) (μ : Act → World → Nat) (hf : findLabel c l = some rest) (hm : findLabel c m = some fin)
    (first : c.wp P (Jumps l m J K Q) a w)
    (pass : ∀ a w, J a w → rest.wp P (Jumps l m (fun a' w' => J a' w' ∧ μ a' w' < μ a w) K Q) a w)
    (last : ∀ a w, K a w → fin.wp P (Exit.noGoto Q) a w) : (Code.scope c).wp P Q a w := by
  intro b k cs
  have hg : gotoIn l (.inScope c :: k) = some (.code rest :: .inScope c :: k) := by simp [gotoIn, hf]
  have hg2 : gotoIn m (.inScope c :: k) = some (.code fin :: .inScope c :: k) := by simp [gotoIn, hm]
  have endk : ∀ a w, K a w → ∃ e a' w', Q e a' w' ∧ Arrives P (lone (b.at a (.code fin :: .inScope c :: k)) cs w) b k cs e a' w' := by
    intro a w hK
    obtain ⟨e, a₁, w₁, hq, harr⟩ := last a w hK b (.inScope c :: k) cs
    cases e with
    | normal => exact ⟨.normal, a₁, w₁, hq, Steps.trans harr (.one step_inScope)⟩
    | exit id => exact ⟨.exit id, a₁, w₁, hq, fun k' hk => harr k' (by simp [exitTo, hk])⟩
    | goto l' => exact hq.elim
    | ret => exact ⟨_, a₁, w₁, hq, harr⟩
    | panic ch => exact ⟨_, a₁, w₁, hq, harr⟩
    | outgrown => exact ⟨_, a₁, w₁, hq, harr⟩
  have key : ∀ n a w, μ a w = n → J a w → ∃ e a' w', Q e a' w' ∧ Arrives P (lone (b.at a (.code rest :: .inScope c :: k)) cs w) b k cs e a' w' := by
    intro n
    induction n using Nat.strongRecOn with
    | _ n ih =>
      intro a w hn hJ
      obtain ⟨e, a₁, w₁, hq, harr⟩ := pass a w hJ b (.inScope c :: k) cs
      cases e with
      | normal => exact ⟨.normal, a₁, w₁, hq, Steps.trans harr (.one step_inScope)⟩
      | exit id => exact ⟨.exit id, a₁, w₁, hq, fun k' hk => harr k' (by simp [exitTo, hk])⟩
      | goto l' =>
        rcases hq with ⟨rfl, hJ', hlt⟩ | ⟨rfl, hK⟩
        · obtain ⟨e₂, a₂, w₂, hq₂, harr₂⟩ := ih _ (by omega) a₁ w₁ rfl hJ'
          exact ⟨e₂, a₂, w₂, hq₂, .of_steps (harr _ hg) harr₂⟩
        · obtain ⟨e₂, a₂, w₂, hq₂, harr₂⟩ := endk a₁ w₁ hK
          exact ⟨e₂, a₂, w₂, hq₂, .of_steps (harr _ hg2) harr₂⟩
      | ret => exact ⟨_, a₁, w₁, hq, harr⟩
      | panic ch => exact ⟨_, a₁, w₁, hq, harr⟩
      | outgrown => exact ⟨_, a₁, w₁, hq, harr⟩
  obtain ⟨e, a₁, w₁, hq, harr⟩ := first b (.inScope c :: k) cs
  cases e with
  | normal => exact ⟨.normal, a₁, w₁, hq, .head step_scope (Steps.trans harr (.one step_inScope))⟩
  | exit id => exact ⟨.exit id, a₁, w₁, hq, fun k' hk => .head step_scope (harr k' (by simp [exitTo, hk]))⟩
  | goto l' =>
    rcases hq with ⟨rfl, hJ'⟩ | ⟨rfl, hK⟩
    · obtain ⟨e₂, a₂, w₂, hq₂, harr₂⟩ := key _ a₁ w₁ rfl hJ'
      exact ⟨e₂, a₂, w₂, hq₂, .of_steps (.head step_scope (harr _ hg)) harr₂⟩
    · obtain ⟨e₂, a₂, w₂, hq₂, harr₂⟩ := endk a₁ w₁ hK
      exact ⟨e₂, a₂, w₂, hq₂, .of_steps (.head step_scope (harr _ hg2)) harr₂⟩
  | ret => exact ⟨_, a₁, w₁, hq, .of_steps (.one step_scope) harr⟩
  | panic ch => exact ⟨_, a₁, w₁, hq, .of_steps (.one step_scope) harr⟩
  | outgrown => exact ⟨_, a₁, w₁, hq, .of_steps (.one step_scope) harr⟩
theorem wp_scope_two' {P : Program} {a : Act} {w : World} {Q : Exit → Act → World → Prop} {x z rest fin : Code} (l m : Nat) (J K : Act → World → Prop) (μ : Act → World → Nat) (hf : findLabel (.seq x (.seq (.label l) z)) l = some rest) (hm : findLabel (.seq x (.seq (.label l) z)) m = some fin)
    (hr : ∀ Q a w, z.wp P Q a w → rest.wp P Q a w)
    (start : x.wp P (fun e a w => e = .normal ∧ J a w) a w)
    (pass : ∀ a w, J a w → z.wp P (Jumps l m (fun a' w' => J a' w' ∧ μ a' w' < μ a w) K Q) a w)
    (last : ∀ a w, K a w → fin.wp P (Exit.noGoto Q) a w) : (Code.scope (.seq x (.seq (.label l) z))).wp P Q a w := by
  refine wp_scope_two l m J K μ hf hm ?_ (fun a w h => hr _ _ _ (pass a w h)) last
  apply wp_seq
  refine wp_mono start ?_
  rintro e a w ⟨rfl, hJ⟩
  apply wp_seq
  apply wp_label
  refine wp_mono (pass a w hJ) ?_
  intro e a w h
  cases e with
  | goto l' => exact h.imp (fun h => ⟨h.1, h.2.1⟩) id
  | _ => exact h

/-- The three results' variables, and the text so far. -/
structure EI (w : World) (B i : Nat) (out : List Int) (a5 : Option Addr) (c5 : Nat) (wr : World) : Prop where
  h0 : wr.heap[B]? = some (.cells #[.slice a5 out.length c5] 22 (0, 0))
  h1 : wr.heap[B + 1]? = some (.cells #[.int .i64 (i : Int)] 3 (0, 0))
  h2 : wr.heap[B + 1 + 1]? = some (.cells #[.int .i64 0] 3 (0, 0))
  own : wr.ownsRow (B + 3) 5 1 (.slice a5 out.length c5) out.length (out.map (Value.int .u8))
  below : Below B w wr
  le : out.length ≤ i
theorem EI.size {w : World} {B i : Nat} {out : List Int} {a5 : Option Addr} {c5 : Nat} {wr : World} (h : EI w B i out a5 c5 wr) : B + 3 ≤ wr.heap.size := by
  have := lt_of_block h.h2; omega
theorem EI.used {w : World} {B i : Nat} {out : List Int} {a5 : Option Addr} {c5 : Nat} {wr : World} (h : EI w B i out a5 c5 wr) (j : Nat) (hj : i ≤ j) : EI w B j out a5 c5 (wr.setCell ⟨B + 1, 0, none⟩ (.int .i64 (j : Int))) := by
  refine ⟨?_, one_setCell h.h1, ?_, ?_, h.below.setCell (by simp) _, Nat.le_trans h.le hj⟩
  · rw [Below.heap_setCell _ _ _ _ (by simp)]; exact h.h0
  · rw [Below.heap_setCell _ _ _ _ (by simp)]; exact h.h2
  · exact ownsRow_setCell_other h.own (fun e => by have := (h.own.lt _ e).1; have h2 : (⟨B + 1, 0, none⟩ : Addr).block = B + 1 := rfl; omega) _
theorem EI.used' {w : World} {B i : Nat} {out : List Int} {a5 : Option Addr} {c5 : Nat} {wr : World} (h : EI w B i out a5 c5 wr) (j : Nat) (z : Int) (hz : z = (j : Int)) (hj : i ≤ j) : EI w B j out a5 c5 (wr.setCell ⟨B + 1, 0, none⟩ (.int .i64 z)) := by
  subst hz; exact h.used j hj
theorem EI.kept {w : World} {B i : Nat} {out : List Int} {a5 : Option Addr} {c5 : Nat} {wr w2 : World} (h : EI w B i out a5 c5 wr) (hb : Below wr.heap.size wr w2) (hB : B ≤ w.heap.size) : EI w B i out a5 c5 w2 := by
  have hs := h.size
  refine ⟨(hb.block _ (by omega)).trans h.h0, (hb.block _ (by omega)).trans h.h1, (hb.block _ (by omega)).trans h.h2, ownsRow_same h.own (fun gg hg => hb.block gg (h.own.lt gg hg).2), below_then h.below (by omega) hb, h.le⟩
theorem EI.put {w : World} {B i : Nat} {out : List Int} {a5 : Option Addr} {c5 : Nat} {wr w1 : World} (h : EI w B i out a5 c5 wr) (ys : List Int) (a1 : Option Addr) (d1 : Nat) (hb : Below (B + 3) wr w1) (ho : w1.ownsRow (B + 3) 5 1 (.slice a1 (out ++ ys).length d1) (out ++ ys).length ((out ++ ys).map (Value.int .u8))) :
    (w1.cell? ⟨B, 0, none⟩ = some (.slice a5 out.length c5) ∧ w1.frozen? ⟨B, 0, none⟩ = false ∧ w1.cell? ⟨B + 1, 0, none⟩ = some (.int .i64 (i : Int)) ∧ w1.frozen? ⟨B + 1, 0, none⟩ = false) ∧
    ∀ j, (out ++ ys).length ≤ j → i ≤ j → EI w B j (out ++ ys) a1 d1 ((w1.setCell ⟨B, 0, none⟩ (.slice a1 (out ++ ys).length d1)).setCell ⟨B + 1, 0, none⟩ (.int .i64 (j : Int))) ∧ (j = i → EI w B j (out ++ ys) a1 d1 (w1.setCell ⟨B, 0, none⟩ (.slice a1 (out ++ ys).length d1))) := by
  have hs := h.size
  have k0 := (hb.block B (by omega)).trans h.h0
  have k1 := (hb.block (B + 1) (by omega)).trans h.h1
  have k2 := (hb.block (B + 1 + 1) (by omega)).trans h.h2
  refine ⟨⟨cell_of_one k0, free_of_one k0, cell_of_one k1, free_of_one k1⟩, fun j hj hij => ?_⟩
  have hbw : Below B w w1 := h.below.trans (hb.mono (by omega))
  have o1 : (w1.setCell ⟨B, 0, none⟩ (.slice a1 (out ++ ys).length d1)).ownsRow (B + 3) 5 1 (.slice a1 (out ++ ys).length d1) (out ++ ys).length ((out ++ ys).map (Value.int .u8)) := ownsRow_setCell_other ho (fun e => by have := (ho.lt _ e).1; have h2 : (⟨B, 0, none⟩ : Addr).block = B := rfl; omega) _
  have b1 : Below B w (w1.setCell ⟨B, 0, none⟩ (.slice a1 (out ++ ys).length d1)) := hbw.setCell (by simp) _
  have q1 : (w1.setCell ⟨B, 0, none⟩ (.slice a1 (out ++ ys).length d1)).heap[B + 1]? = some (.cells #[.int .i64 (i : Int)] 3 (0, 0)) := by rw [Below.heap_setCell _ _ _ _ (by simp)]; exact k1
  have q2 : (w1.setCell ⟨B, 0, none⟩ (.slice a1 (out ++ ys).length d1)).heap[B + 1 + 1]? = some (.cells #[.int .i64 0] 3 (0, 0)) := by rw [Below.heap_setCell _ _ _ _ (by show B + 1 + 1 ≠ B; omega)]; exact k2
  refine ⟨⟨?_, one_setCell q1, ?_, ?_, b1.setCell (by simp) _, hj⟩, fun e => ?_⟩
  · rw [Below.heap_setCell _ _ _ _ (by simp)]; exact one_setCell k0
  · rw [Below.heap_setCell _ _ _ _ (by simp)]; exact q2
  · exact ownsRow_setCell_other o1 (fun e => by have := (ho.lt _ e).1; have h2 : (⟨B + 1, 0, none⟩ : Addr).block = B + 1 := rfl; omega) _
  · subst e
    exact ⟨one_setCell k0, q1, q2, o1, b1, hj⟩
theorem EI.again {w : World} {B i : Nat} {out : List Int} {a5 : Option Addr} {c5 : Nat} {wr : World} (h : EI w B i out a5 c5 wr) :
    EI w B i out a5 c5 (((wr.setCell ⟨B, 0, none⟩ (.slice a5 out.length c5)).setCell ⟨B + 1, 0, none⟩ (.int .i64 (i : Int))).setCell ⟨B + 1 + 1, 0, none⟩ (.int .i64 0)).drew := by
  have o1 : (wr.setCell ⟨B, 0, none⟩ (.slice a5 out.length c5)).ownsRow (B + 3) 5 1 (.slice a5 out.length c5) out.length (out.map (Value.int .u8)) := ownsRow_setCell_other h.own (fun e => by have := (h.own.lt _ e).1; have h2 : (⟨B, 0, none⟩ : Addr).block = B := rfl; omega) _
  have o2 := ownsRow_setCell_other (a := ⟨B + 1, 0, none⟩) o1 (fun e => by have := (h.own.lt _ e).1; have h2 : (⟨B + 1, 0, none⟩ : Addr).block = B + 1 := rfl; omega) (.int .i64 (i : Int))
  have o3 := ownsRow_setCell_other (a := ⟨B + 1 + 1, 0, none⟩) o2 (fun e => by have := (h.own.lt _ e).1; have h2 : (⟨B + 1 + 1, 0, none⟩ : Addr).block = B + 1 + 1 := rfl; omega) (.int .i64 0)
  refine ⟨?_, ?_, ?_, ownsRow_same o3 (fun _ _ => rfl), (((h.below.setCell (by simp) _).setCell (by simp) _).setCell (by show B ≤ B + 1 + 1; omega) _).drew, h.le⟩
  · show (((wr.setCell ⟨B, 0, none⟩ (.slice a5 out.length c5)).setCell ⟨B + 1, 0, none⟩ (.int .i64 (i : Int))).setCell ⟨B + 1 + 1, 0, none⟩ (.int .i64 0)).heap[B]? = _
    rw [Below.heap_setCell _ _ _ _ (by show B ≠ B + 1 + 1; omega), Below.heap_setCell _ _ _ _ (by simp)]; exact one_setCell h.h0
  · show (((wr.setCell ⟨B, 0, none⟩ (.slice a5 out.length c5)).setCell ⟨B + 1, 0, none⟩ (.int .i64 (i : Int))).setCell ⟨B + 1 + 1, 0, none⟩ (.int .i64 0)).heap[B + 1]? = _
    rw [Below.heap_setCell _ _ _ _ (by simp)]
    exact one_setCell (by rw [Below.heap_setCell _ _ _ _ (by simp)]; exact h.h1)
  · show (((wr.setCell ⟨B, 0, none⟩ (.slice a5 out.length c5)).setCell ⟨B + 1, 0, none⟩ (.int .i64 (i : Int))).setCell ⟨B + 1 + 1, 0, none⟩ (.int .i64 0)).heap[B + 1 + 1]? = _
    exact one_setCell (by rw [Below.heap_setCell _ _ _ _ (by simp), Below.heap_setCell _ _ _ _ (by show B + 1 + 1 ≠ B; omega)]; exact h.h2)
theorem EI.caught {w : World} {B i : Nat} {out : List Int} {a5 : Option Addr} {c5 : Nat} {w2 : World} (h : EI w B i out a5 c5 w2) :
    ((((w2.alloc (.cells #[] 52)).setCell ⟨B, 0, none⟩ (.slice none 0 0)).setCell ⟨B + 1, 0, none⟩ (.int .i64 0)).setCell ⟨B + 2, 0, none⟩ (.int .i64 (-24))).cell? ⟨B, 0, none⟩ = some (.slice none 0 0) ∧
    ((((w2.alloc (.cells #[] 52)).setCell ⟨B, 0, none⟩ (.slice none 0 0)).setCell ⟨B + 1, 0, none⟩ (.int .i64 0)).setCell ⟨B + 2, 0, none⟩ (.int .i64 (-24))).cell? ⟨B + 1, 0, none⟩ = some (.int .i64 0) ∧
    ((((w2.alloc (.cells #[] 52)).setCell ⟨B, 0, none⟩ (.slice none 0 0)).setCell ⟨B + 1, 0, none⟩ (.int .i64 0)).setCell ⟨B + 2, 0, none⟩ (.int .i64 (-24))).cell? ⟨B + 1 + 1, 0, none⟩ = some (.int .i64 (-24)) ∧
    Below B w ((((w2.alloc (.cells #[] 52)).setCell ⟨B, 0, none⟩ (.slice none 0 0)).setCell ⟨B + 1, 0, none⟩ (.int .i64 0)).setCell ⟨B + 2, 0, none⟩ (.int .i64 (-24))) := by
  have hs := h.size
  have k0 := (Below.heap_alloc w2 (.cells #[] 52) _ (lt_of_block h.h0)).trans h.h0
  have k1 := (Below.heap_alloc w2 (.cells #[] 52) _ (lt_of_block h.h1)).trans h.h1
  have k2 := (Below.heap_alloc w2 (.cells #[] 52) _ (lt_of_block h.h2)).trans h.h2
  refine ⟨cell_of_one (t := 22) ?_, cell_of_one (t := 3) ?_, cell_of_one (t := 3) ?_, ((((h.below.alloc (by omega) _).setCell (by simp) _).setCell (by simp) _).setCell (by simp) _)⟩
  · rw [Below.heap_setCell _ _ _ _ (by show B ≠ B + 2; omega), Below.heap_setCell _ _ _ _ (by simp)]; exact one_setCell k0
  · rw [Below.heap_setCell _ _ _ _ (by simp)]; exact one_setCell (by rw [Below.heap_setCell _ _ _ _ (by simp)]; exact k1)
  · exact one_setCell (b := B + 2) (by rw [Below.heap_setCell _ _ _ _ (by simp), Below.heap_setCell _ _ _ _ (by simp)]; exact k2)
theorem ei_start (w : World) : EI w w.heap.size 0 [] none 0 (((w.alloc (.cells #[.slice none 0 0] 22)).alloc (.cells #[.int .i64 0] 3)).alloc (.cells #[.int .i64 0] 3)) := by
  have z1 : (w.alloc (.cells #[.slice none 0 0] 22)).heap.size = w.heap.size + 1 := by simp
  have z2 : ((w.alloc (.cells #[.slice none 0 0] 22)).alloc (.cells #[.int .i64 0] 3)).heap.size = w.heap.size + 1 + 1 := by simp
  refine ⟨?_, ?_, ?_, World.ownsRow_nil _ _ _ _, (((Below.refl _ w).alloc (Nat.le_refl _) _).alloc (by omega) _).alloc (by omega) _, Nat.le_refl _⟩
  · rw [Below.heap_alloc _ _ _ (by omega), Below.heap_alloc _ _ _ (by omega)]; exact heap_alloc_new w _
  · rw [Below.heap_alloc _ _ _ (by omega)]
    have := heap_alloc_new (w.alloc (.cells #[.slice none 0 0] 22)) (.cells #[.int .i64 0] 3)
    rwa [z1] at this
  · have := heap_alloc_new ((w.alloc (.cells #[.slice none 0 0] 22)).alloc (.cells #[.int .i64 0] 3)) (.cells #[.int .i64 0] 3)
    rwa [z2] at this
/-- The frame at a label. -/
def EF (a : Option Addr) (L c B : Nat) (f : Act) : Prop := ∃ u5 u6 u7 u8 u9 u10 u11 u12 u13 u14 u15 u16 u17 u18 u19 u20 u21 u22 u23 u24 u25 u26 u27 u28 u29 u30 u31 u32 u33 u34 u35 u36 u37 u38 u39 u40 u41 u42 u43 : Value, f = { tmps := #[.slice a L c, undef, .pointer (some ⟨B, 0, none⟩), .pointer (some ⟨B + 1, 0, none⟩), .pointer (some ⟨B + 1 + 1, 0, none⟩), u5, u6, u7, u8, u9, u10, u11, u12, u13, u14, u15, u16, u17, u18, u19, u20, u21, u22, u23, u24, u25, u26, u27, u28, u29, u30, u31, u32, u33, u34, u35, u36, u37, u38, u39, u40, u41, u42, u43], defers := [{ target := .fn (.func 31) #[.pointer (some ⟨B, 0, none⟩), .pointer (some ⟨B + 1, 0, none⟩), .pointer (some ⟨B + 1 + 1, 0, none⟩)], args := #[] }] }
/-- At the label that is jumped back to; at the end's. -/
def EJ (a : Option Addr) (L c : Nat) (w : World) (B : Nat) (l : List Int) (R : Option (List Int × Nat)) (f : Act) (wr : World) : Prop :=
  EF a L c B f ∧ ∃ (k : Nat) (out : List Int) (a5 : Option Addr) (c5 : Nat), k ≤ L ∧ Hid (EI w B k out a5 c5 wr) ∧ Hid (Esc l k out R)
def EK (a : Option Addr) (L c : Nat) (w : World) (B : Nat) (R : Option (List Int × Nat)) (f : Act) (wr : World) : Prop :=
  EF a L c B f ∧ ∃ (u : Nat) (out : List Int) (a5 : Option Addr) (c5 : Nat), Hid (EI w B u out a5 c5 wr) ∧ Hid (R = some (out, u))
def EM (L B : Nat) (wr : World) : Nat := match wr.cell? ⟨B + 1, 0, none⟩ with | some (.int _ x) => L - x.toNat | _ => 0
theorem em_is {w : World} {L B i : Nat} {out : List Int} {a5 : Option Addr} {c5 : Nat} {wr : World} (h : EI w B i out a5 c5 wr) : EM L B wr = L - i := by
  unfold EM; rw [cell_of_one h.h1]; simp
set_option maxRecDepth 100000 in
set_option maxHeartbeats 4000000 in
theorem pescape_c (v : Value) (l : List Int) (w : World) (hr : Rd w .u8 v l) (hb : Byt l) (hs : l.length ≤ 1000000) (R : Option (List Int × Nat)) (hR : Esc l 0 [] R) : Calls Tryd.prog 22 #[v] w fun e w' => EscRes R w e w' := by
  obtain ⟨a, c, rfl⟩ := hr.len
  have hc : l.length ≤ c := by obtain ⟨_, _, e, h, _⟩ := hr; injection e with e1 e2 e3; omega
  obtain ⟨L, hL⟩ : ∃ L, l.length = L := ⟨_, rfl⟩
  have HL := Lib.hid hL
  have HR := Lib.hid hr
  have HB := Lib.hid hb
  have HE := Lib.hid hR
  have ESC := Lib.hid (fun (v : Value) (s : List Int) (w : World) hr hb hs => escape_any v s w hr hb hs)
  rw [hL] at hs hc ⊢
  clear hL hr hb hR
  obtain ⟨B, hB⟩ : ∃ B, w.heap.size = B := ⟨_, rfl⟩
  have START := ei_start w
  rw [hB] at START
  have hmf : ∀ (fn : Fn) (first cap : Array Value) (w : World), (Instr.makeFunc fn first cap).run Tryd.prog w = .ok (.func fn first cap) w := fun _ _ _ _ => rfl
  go_enter_defers Tryd.func22, Tryd.ntmps22
  go_wp2
  have HBB := Lib.hid hB
  clear hB
  refine wp_scope_two' 1 0 (EJ a L c w B l R) (EK a L c w B R) (fun _ wr => EM L B wr) rfl rfl ?_ ?_ ?_ ?_
  · intro Q a w h
    exact wp_seq (wp_skip h)
  · go_wp2
    exact ⟨⟨_, _, _, _, _, _, _, _, _, _, _, _, _, _, _, _, _, _, _, _, _, _, _, _, _, _, _, _, _, _, _, _, _, _, _, _, _, _, _, rfl⟩, 0, [], none, 0, Nat.zero_le _, Lib.hid START, HE⟩
  · rintro f wr ⟨⟨u5, u6, u7, u8, u9, u10, u11, u12, u13, u14, u15, u16, u17, u18, u19, u20, u21, u22, u23, u24, u25, u26, u27, u28, u29, u30, u31, u32, u33, u34, u35, u36, u37, u38, u39, u40, u41, u42, u43, rfl⟩, k, out, a5, c5, hk, HI, HS⟩
    have hc0 := cell_of_one HI.out.h0
    have hc1 := cell_of_one HI.out.h1
    have hf0 := free_of_one HI.out.h0
    have hf1 := free_of_one HI.out.h1
    by_cases hlt : k < L
    · have hcell := (HR.out.below (by rw [HBB.out]; exact HI.out.below)).at8 (i := k) (by rw [HL.out]; exact hlt)
      have hcb := byt_getD HB.out k
      have Q1 := Lib.hid (fun h => HS.out.at_quote (by rw [HL.out]; exact hlt) h)
      have Q2 := Lib.hid (fun h1 h2 => HS.out.at_char (by rw [HL.out]; exact hlt) h1 h2)
      have Q3 := Lib.hid (fun h1 h2 => HS.out.at_bad (by rw [HL.out]; exact hlt) h1 h2)
      have Q4 := Lib.hid (fun h1 h2 => HS.out.at_esc (by rw [HL.out]; exact hlt) h1 h2)
      have HU := Lib.hid (HI.out.used' (k + 1) ((k : Int) + 1) (by omega) (by omega))
      have z0 : ((k : Int) == (L : Int)) = false := by rw [beq_eq_false_iff_ne]; omega
      have gB : ∀ (g off : Nat), a = some ⟨g, off, none⟩ → g < B := fun g off h => by
        have := (HR.out).at8 (i := k) (by rw [HL.out]; exact hlt)
        obtain ⟨g', off', e, hcl⟩ := this
        rw [h] at e; injection e with e; injection e with e1 e2
        rw [← HBB.out]; subst e1; exact World.block_lt_of_cell? w _ hcl
      obtain ⟨x, hx⟩ : ∃ x, l.getD k 0 = x := ⟨_, rfl⟩
      rw [hx] at hcell hcb Q1 Q2 Q3 Q4
      clear hx HS
      by_cases h1 : x = 34
      · have G := Lib.hid (Q1.out h1)
        clear Q1 Q2 Q3 Q4
        subst h1
        obtain ⟨g, off, rfl, hcl⟩ := hcell
        have hg := gB g off rfl
        clear gB
        have hne : (wr.setCell ⟨B + 1, 0, none⟩ (.int .i64 ((k : Int) + 1))).cell? ⟨g, off + k, none⟩ = some (.int .u8 34) := (World.cell?_of_block (w := wr) (Below.heap_setCell _ _ _ _ (by show g ≠ B + 1; omega))).trans hcl
        clear hcl
        go_wp2
        go_step3
        exact .inr ⟨rfl, ⟨_, _, _, _, _, _, _, _, _, _, _, _, _, _, _, _, _, _, _, _, _, _, _, _, _, _, _, _, _, _, _, _, _, _, _, _, _, _, _, rfl⟩, k + 1, out, a5, c5, HU, G⟩
      · by_cases h2 : x = 92
        · have BY : Byt (l.drop (k + 1)) := fun y hy => HB.out y (List.mem_of_mem_drop hy)
          have SL : (l.drop (k + 1)).length ≤ 1000000 := by rw [List.length_drop, HL.out]; omega
          have RD : Hid (∀ (g off : Nat) (a' : Option Addr), a = some ⟨g, off, none⟩ → (k + 1 < c → a' = some ⟨g, off + (k + 1), none⟩) → Rd (wr.setCell ⟨B + 1, 0, none⟩ (.int .i64 ((k : Int) + 1))) .u8 (.slice a' (L - (k + 1)) (c - (k + 1))) (l.drop (k + 1))) := Lib.hid (fun g off a' h1 h2 => by
            have := (HR.out.below (by rw [HBB.out]; exact HU.out.below)).from_ (m := k + 1) (by rw [HL.out]; exact hlt) g off h1 a' h2
            rw [HL.out] at this; exact this)
          have HBY := Lib.hid BY
          have HSL := Lib.hid SL
          clear BY SL
          obtain ⟨s, hs'⟩ : ∃ s, l.drop (k + 1) = s := ⟨_, rfl⟩
          rw [hs'] at HBY HSL RD Q3 Q4
          have HDR := Lib.hid hs'
          clear hs' Q1 Q2
          have z1 : (x == 34) = false := beq_no h1
          subst h2
          obtain ⟨g, off, rfl, hcl⟩ := hcell
          have hg := gB g off rfl
          clear gB
          have hne : (wr.setCell ⟨B + 1, 0, none⟩ (.int .i64 ((k : Int) + 1))).cell? ⟨g, off + k, none⟩ = some (.int .u8 92) := (World.cell?_of_block (w := wr) (Below.heap_setCell _ _ _ _ (by show g ≠ B + 1; omega))).trans hcl
          clear hcl
          obtain ⟨m, hm⟩ : ∃ m, (oneV s).2 = m := ⟨_, rfl⟩
          obtain ⟨b, hbb⟩ : ∃ b, (oneV s).1 = b := ⟨_, rfl⟩
          have HM := Lib.hid hm
          have HBB2 := Lib.hid hbb
          have HLS : Hid (s.length = L - (k + 1)) := Lib.hid (by rw [← HDR.out, List.length_drop, HL.out])
          rw [hm] at Q3 Q4
          rw [hbb] at Q4
          clear hm hbb
          have i1 : (k : Int) + 1 ≤ c := by omega
          by_cases hcap : k + 1 = c
          · obtain rfl : c = k + 1 := hcap.symm
            rw [Nat.sub_self, show L - (k + 1) = 0 by omega] at RD
            clear hcap
            have CC0 := ESC.out (.slice (some ⟨g, off, none⟩) 0 0) s (wr.setCell ⟨B + 1, 0, none⟩ (.int .i64 ((k : Int) + 1))) (RD.out g off (some ⟨g, off, none⟩) rfl (fun h => absurd h (Nat.lt_irrefl _))) HBY.out HSL.out
            by_cases hm0 : m = 0
            · have G := Lib.hid (Q3.out rfl hm0)
              have CC : Hid (Calls Tryd.prog 32 #[.slice (some ⟨g, off, none⟩) 0 0] (wr.setCell ⟨B + 1, 0, none⟩ (.int .i64 ((k : Int) + 1))) fun e w' => e = .panicked Bad ∧ EI w B (k + 1) out a5 c5 w') := Lib.hid (CC0.mono (by
                rintro e w' ⟨hb2, ⟨u, _, _, h0⟩ | ⟨rfl, _⟩⟩
                · exact absurd hm0 (by rw [← HM.out]; exact h0)
                · exact ⟨rfl, HU.out.kept hb2 (by rw [HBB.out]; exact Nat.le_refl _)⟩))
              clear CC0 Q3 Q4 HBY HSL RD HU
              go_wp2_with (go_at_call 32; (with_reducible refine (CC.out).mono ?_); rintro e w2 ⟨rfl, hi2⟩; have HI2 := Lib.hid hi2; clear hi2)
              refine leaves_cons (f := 31) (args := #[.pointer (some ⟨B, 0, none⟩), .pointer (some ⟨B + 1, 0, none⟩), .pointer (some ⟨B + 1 + 1, 0, none⟩)]) (by simp) (by simp [go_sem]) ?_
              refine (catch_bad B _ _ _ [] w2 HI2.out.h0 HI2.out.h1 HI2.out.h2).mono ?_
              rintro e u' w'' ⟨rfl, rfl, rfl⟩
              obtain ⟨d0, d1, d2, d3⟩ := HI2.out.caught
              simp [Leaves, settle, results, Tryd.results22, go_sem, d0, d1, d2]
              rw [G.out]
              exact ⟨by rw [HBB.out]; exact d3, rfl⟩
            · have z8 : k + 1 + m ≤ L := by have := (oneV_len s).1; rw [HM.out, HLS.out] at this; omega
              omega
          · have i3 : k + 1 < c := by omega
            have CC0 := ESC.out (.slice (some ⟨g, off + (k + 1), none⟩) (L - (k + 1)) (c - (k + 1))) s (wr.setCell ⟨B + 1, 0, none⟩ (.int .i64 ((k : Int) + 1))) (RD.out g off (some ⟨g, off + (k + 1), none⟩) rfl (fun h => rfl)) HBY.out HSL.out
            by_cases hm0 : m = 0
            · have G := Lib.hid (Q3.out rfl hm0)
              have CC : Hid (Calls Tryd.prog 32 #[.slice (some ⟨g, off + (k + 1), none⟩) (L - (k + 1)) (c - (k + 1))] (wr.setCell ⟨B + 1, 0, none⟩ (.int .i64 ((k : Int) + 1))) fun e w' => e = .panicked Bad ∧ EI w B (k + 1) out a5 c5 w') := Lib.hid (CC0.mono (by
                rintro e w' ⟨hb2, ⟨u, _, _, h0⟩ | ⟨rfl, _⟩⟩
                · exact absurd hm0 (by rw [← HM.out]; exact h0)
                · exact ⟨rfl, HU.out.kept hb2 (by rw [HBB.out]; exact Nat.le_refl _)⟩))
              clear CC0 Q3 Q4 HBY HSL RD HU
              go_wp2_with (go_at_call 32; (with_reducible refine (CC.out).mono ?_); rintro e w2 ⟨rfl, hi2⟩; have HI2 := Lib.hid hi2; clear hi2)
              refine leaves_cons (f := 31) (args := #[.pointer (some ⟨B, 0, none⟩), .pointer (some ⟨B + 1, 0, none⟩), .pointer (some ⟨B + 1 + 1, 0, none⟩)]) (by simp) (by simp [go_sem]) ?_
              refine (catch_bad B _ _ _ [] w2 HI2.out.h0 HI2.out.h1 HI2.out.h2).mono ?_
              rintro e u' w'' ⟨rfl, rfl, rfl⟩
              obtain ⟨d0, d1, d2, d3⟩ := HI2.out.caught
              simp [Leaves, settle, results, Tryd.results22, go_sem, d0, d1, d2]
              rw [G.out]
              exact ⟨by rw [HBB.out]; exact d3, rfl⟩
            · have G := Lib.hid (Q4.out rfl hm0)
              have z6 : (m : Int) ≤ 3 := by have := (oneV_len s).2.2; rw [HM.out] at this; omega
              have z7 : b.length ≤ 1 + m := by have := (oneV_len s).2.1; rw [HM.out, HBB2.out] at this; exact this
              have z8 : k + 1 + m ≤ L := by have := (oneV_len s).1; rw [HM.out, HLS.out] at this; omega
              have CC : Hid (Calls Tryd.prog 32 #[.slice (some ⟨g, off + (k + 1), none⟩) (L - (k + 1)) (c - (k + 1))] (wr.setCell ⟨B + 1, 0, none⟩ (.int .i64 ((k : Int) + 1))) fun e w' => EI w B (k + 1) out a5 c5 w' ∧ ∃ v, e = .returned (.tuple #[v, .int .i64 (m : Int)]) ∧ Rd w' .u8 v b) := Lib.hid (CC0.mono (by
                rintro e w' ⟨hb2, ⟨u, rfl, h1, h0⟩ | ⟨rfl, h0⟩⟩
                · rw [HM.out]; rw [HBB2.out] at h1; exact ⟨HU.out.kept hb2 (by rw [HBB.out]; exact Nat.le_refl _), _, rfl, h1⟩
                · exact absurd (HM.out.symm.trans h0) hm0))
              clear CC0 Q3 Q4 HBY HSL RD HU
              have i2 : IntKind.i64.wrap ((k : Int) + 1 + m) = (k : Int) + 1 + m := by simp only [IntKind.wrap_i64]; omega
              have ho : out.length ≤ 1000000 := by have := HI.out.le; omega
              go_wp2_with (first
                | (go_at_call 32; (with_reducible refine (CC.out).mono ?_); rintro e w2 ⟨hi2, u, rfl, hr2⟩; obtain ⟨ua, uc, rfl⟩ := hr2.len; have HR2 := Lib.hid hr2; have HI2 := Lib.hid hi2; have e0 := cell_of_one HI2.out.h0; clear hr2 hi2)
                | (at_builtin; go_loud (refine wp_apps 22 5 (.int .u8 0) 1 Tryd.underlying22 info_byte rfl (B + 3) (.slice a5 out.length c5) out.length _ rfl (.tmp 36) (.tmp 37) (by rfl) (by rfl) HI2.out.own (by exact HI2.out.size) .u8 _ b (by rfl) HR2.out (by omega) (by decide) ?_); intro v' w3 hown hg _; obtain ⟨a1, d1, rfl⟩ := ownsRow_slice hown; obtain ⟨⟨p0, p1, p2, p3⟩, hput⟩ := HI2.out.put b a1 d1 (grown_below hg HI2.out.own HI2.out.size) (by rw [List.length_append, List.map_append]; exact hown); have HP := Lib.hid hput; clear hown hg hput e0))
              go_step3
              have HN := (HP.out (k + 1 + m) (by rw [List.length_append]; have := HI.out.le; omega) (by omega)).1
              rw [List.length_append, show ((k + 1 + m : Nat) : Int) = (k : Int) + 1 + m by omega] at HN
              exact .inl ⟨rfl, ⟨⟨_, _, _, _, _, _, _, _, _, _, _, _, _, _, _, _, _, _, _, _, _, _, _, _, _, _, _, _, _, _, _, _, _, _, _, _, _, _, _, rfl⟩, k + 1 + m, out ++ b, a1, d1, z8, Lib.hid HN, G⟩, by rw [em_is HN, em_is HI.out]; omega⟩
        · have G := Lib.hid (Q2.out h1 h2)
          clear Q1 Q2 Q3 Q4
          have z1 : (x == 34) = false := beq_no h1
          have z2 : (x == 92) = false := beq_no h2
          obtain ⟨g, off, rfl, hcl⟩ := hcell
          have hg := gB g off rfl
          clear gB
          have hne : (wr.setCell ⟨B + 1, 0, none⟩ (.int .i64 ((k : Int) + 1))).cell? ⟨g, off + k, none⟩ = some (.int .u8 x) := (World.cell?_of_block (w := wr) (Below.heap_setCell _ _ _ _ (by show g ≠ B + 1; omega))).trans hcl
          clear hcl
          have ho : out.length ≤ 1000000 := by have := HI.out.le; omega
          have e0 := cell_of_one HU.out.h0
          go_wp2_with (at_builtin; go_loud (refine wp_app 22 5 (.int .u8 0) 1 Tryd.underlying22 info_byte rfl (B + 3) (.slice a5 out.length c5) out.length _ (.int .u8 x) _ wr.heap.size (by simp [World.setCell]) (by rfl) (.tmp 21) (.tmp 23) (by rfl) (by rfl) (by rfl) HU.out.own (by exact HI.out.size) rfl (by omega) (by decide) ?_); intro v' w1 hown hb1; obtain ⟨a1, d1, rfl⟩ := ownsRow_slice hown; obtain ⟨⟨p0, p1, p2, p3⟩, hput⟩ := HU.out.put [x] a1 d1 hb1 (by rw [List.length_append, List.map_append]; exact hown); have HP := Lib.hid hput; clear hown hb1 hput e0)
          go_step3
          have HN := (HP.out (k + 1) (by rw [List.length_append]; have := HI.out.le; simp; omega) (by omega)).2 rfl
          rw [List.length_append, List.length_singleton] at HN
          exact .inl ⟨rfl, ⟨⟨_, _, _, _, _, _, _, _, _, _, _, _, _, _, _, _, _, _, _, _, _, _, _, _, _, _, _, _, _, _, _, _, _, _, _, _, _, _, _, rfl⟩, k + 1, out ++ [x], a1, d1, by omega, Lib.hid HN, G⟩, by rw [em_is HN, em_is HI.out]; omega⟩
    · have e : k = L := by omega
      subst e
      have G := Lib.hid (HS.out.at_end (by rw [HL.out]; exact Nat.le_refl _))
      clear HS
      go_wp2
      go_step3
      exact .inr ⟨rfl, ⟨_, _, _, _, _, _, _, _, _, _, _, _, _, _, _, _, _, _, _, _, _, _, _, _, _, _, _, _, _, _, _, _, _, _, _, _, _, _, _, rfl⟩, k, out, a5, c5, HI, G⟩
  · rintro f wr ⟨⟨u5, u6, u7, u8, u9, u10, u11, u12, u13, u14, u15, u16, u17, u18, u19, u20, u21, u22, u23, u24, u25, u26, u27, u28, u29, u30, u31, u32, u33, u34, u35, u36, u37, u38, u39, u40, u41, u42, u43, rfl⟩, k, out, a5, c5, HI, HS⟩
    have hc0 := cell_of_one HI.out.h0
    have hc1 := cell_of_one HI.out.h1
    have hc2 := cell_of_one HI.out.h2
    have hf0 := free_of_one HI.out.h0
    have hf1 := free_of_one HI.out.h1
    have hf2 := free_of_one HI.out.h2
    go_wp2
    go_region
    all_goals
      go_wp2
    all_goals
      (refine leaves_cons (f := 31) (args := #[.pointer (some ⟨B, 0, none⟩), .pointer (some ⟨B + 1, 0, none⟩), .pointer (some ⟨B + 1 + 1, 0, none⟩)]) (by simp) (by simp [go_sem]) ?_
       refine (catch_idle _ _ _ _).mono ?_
       rintro e u' w'' ⟨rfl, rfl, rfl⟩
       have AG := HI.out.again
       have d0 := cell_of_one AG.h0
       have d1 := cell_of_one AG.h1
       have d2 := cell_of_one AG.h2
       simp [Leaves, settle, results, Tryd.results22, go_sem, d0, d1, d2])
    all_goals
      (have AG := HI.out.again
       rw [HS.out]
       exact ⟨by rw [HBB.out]; exact AG.below, _, rfl, Rd.of_own AG.own⟩)
end Go.Proofs.YtocmgdolinajmaaDoor
