/- The heap's rows: Pop; take of the only event; Next. -/
import Derived.Test.YthigimmlhgdchaaG
namespace Go.Proofs.Ythigimmlhgdchaa
set_option linter.unusedVariables false
set_option linter.unusedSimpArgs false
open Go.RowKit

theorem popm_c (b B g c n : Nat) (s t : Int) (l : List (Int × Int × Int)) (w : World) (hC : Clk 54 w b s t (.slice (some ⟨g, 0, none⟩) (n + 1) c)) (h : Rw w B (.slice (some ⟨g, 0, none⟩) (n + 1) c) l) (hn : l.length = n + 1) (hb : b < B) (hs : n < 1000000) :
    Calls Try.prog 58 #[.pointer (some ⟨b, 2, none⟩)] w fun e w' => e = .returned (.iface 58 (.agg #[.int .i64 (l.getD n e0).1, .int .i64 (l.getD n e0).2.1, .int .i64 (l.getD n e0).2.2])) ∧ Clk 54 w' b s t (.slice (some ⟨g, 0, none⟩) n c) ∧ Rw w' B (.slice (some ⟨g, 0, none⟩) n c) (l.take n) ∧ Fb b w w' := by
  have hr : w.ownsRow B 58 3 (.slice (some ⟨g, 0, none⟩) (n + 1) c) (n + 1) (cells3 l) := by rw [← hn]; rw [← hn] at h; exact h
  have ha := cells3_get l n _ (getD_get (by omega))
  obtain ⟨⟨x0, x1, x2⟩, hx⟩ : ∃ x, l.getD n e0 = x := ⟨_, rfl⟩
  rw [hx] at ha ⊢
  have a0 := row_get hr ha.1
  have a1 := row_get hr ha.2.1
  have a2 := row_get hr ha.2.2
  have c2 := hC.c2
  have f2 := hC.fz 2
  have hg : b ≠ g := by have := (row_blk hr).1; omega
  have hnc : n + 1 ≤ c := by obtain ⟨_, cur, _, h1, _⟩ := row_blk hr; exact h1
  have bA : Below w.heap.size w (w.alloc (.cells #[.int .i64 x0, .int .i64 x1, .int .i64 x2] 58)) := (Below.refl _ _).alloc (Nat.le_refl _) _
  have c2a := (hC.below bA).c2
  have f2a := (hC.below bA).fz 2
  have hS : Clk 54 (w.setCell ⟨b, 2, none⟩ (.slice (some ⟨g, 0, none⟩) n c)) b s t (.slice (some ⟨g, 0, none⟩) n c) := hC.set2 _
  have bS : Below (w.setCell ⟨b, 2, none⟩ (.slice (some ⟨g, 0, none⟩) n c)).heap.size (w.setCell ⟨b, 2, none⟩ (.slice (some ⟨g, 0, none⟩) n c)) ((w.setCell ⟨b, 2, none⟩ (.slice (some ⟨g, 0, none⟩) n c)).alloc (.cells #[.int .i64 x0, .int .i64 x1, .int .i64 x2] 58)) := (Below.refl _ _).alloc (Nat.le_refl _) _
  have EN : Hid (Clk 54 ((w.setCell ⟨b, 2, none⟩ (.slice (some ⟨g, 0, none⟩) n c)).alloc (.cells #[.int .i64 x0, .int .i64 x1, .int .i64 x2] 58)) b s t (.slice (some ⟨g, 0, none⟩) n c) ∧ Rw ((w.setCell ⟨b, 2, none⟩ (.slice (some ⟨g, 0, none⟩) n c)).alloc (.cells #[.int .i64 x0, .int .i64 x1, .int .i64 x2] 58)) B (.slice (some ⟨g, 0, none⟩) n c) (l.take n) ∧ Fb b w ((w.setCell ⟨b, 2, none⟩ (.slice (some ⟨g, 0, none⟩) n c)).alloc (.cells #[.int .i64 x0, .int .i64 x1, .int .i64 x2] 58))) := by
    refine Lib.hid ⟨hS.below bS, ?_, (Fb.set _ _).trans (Fb.of_below bS)⟩
    have h0 : (w.setCell ⟨b, 2, none⟩ (.slice (some ⟨g, 0, none⟩) n c)).ownsRow B 58 3 (.slice (some ⟨g, 0, none⟩) (n + 1) c) (n + 1) (cells3 l) := ownsRow_same hr (fun g' hg' => Below.heap_setCell _ _ _ _ (by simp [Value.ownBlock] at hg'; subst hg'; exact fun h => hg h.symm))
    have h1 := row_cut (h0.alloc (.cells #[.int .i64 x0, .int .i64 x1, .int .i64 x2] 58)) (Nat.le_succ n)
    rw [cells3_take] at h1
    unfold Rw
    rw [List.length_take, hn, Nat.min_eq_left (by omega)]
    exact h1
  have hbs : b < w.heap.size := hC.lt
  have z2 : ((w.alloc (.cells #[.int .i64 x0, .int .i64 x1, .int .i64 x2] 58)).setCell ⟨b, 2, none⟩ (.slice (some ⟨g, 0, none⟩) n c)).cell? ⟨w.heap.size, 2, none⟩ = some (.int .i64 x2) := by
    rw [World.cell?_setCell_other _ _ _ _ (by intro e; injection e with e1; omega), World.cell?_alloc_mark]
    rfl
  have hz : (n : Int) + 1 - 1 = n := by omega
  have hlt : (n : Int) < n + 1 := by omega
  have h0 : (0 : Int) ≤ n := by omega
  have hcc : (n : Int) ≤ c := by omega
  clear hr ha hx h hC bA hn hS bS
  go_enter Try.func58, Try.ntmps58
  go_wp2_with fail
  go_ret
  exact ⟨rfl, EN.out.1, EN.out.2.1, EN.out.2.2⟩
/-- One event: down has nothing to do. -/
theorem down_one (x : Value) (w : World) : Calls Try.prog 29 #[x, .int .i64 0, .int .i64 0] w fun e w' => e = .returned (.bool false) ∧ w = w' := by
  go_enter Try.func29, Try.ntmps29
  go_wp2_with fail
  go_loop [7] (fun v7 => v7 = .int .i64 0) (fun _ => 0)
  case atStart => rfl
  case round =>
    subst hrel
    go_wp2_with fail
    go_ret
    exact ⟨rfl, rfl⟩
theorem swp_one (e : Int × Int × Int) : swp [e] 0 0 = [e] := rfl
/-- Of what was there, two blocks alone may have turned. -/
structure F2 (b g : Nat) (w w' : World) : Prop where
  os : w'.os = w.os
  tape : w'.tape = w.tape
  output : w'.output = w.output
  size : w.heap.size ≤ w'.heap.size
  block : ∀ k, k < w.heap.size → k ≠ b → k ≠ g → w'.heap[k]? = w.heap[k]?
theorem F2.of_b {b g : Nat} {w w' : World} (h : Fb b w w') : F2 b g w w' := ⟨h.os, h.tape, h.output, h.size, fun k hk h1 _ => h.block k hk h1⟩
theorem F2.of_g {b g : Nat} {w w' : World} (h : Fb g w w') : F2 b g w w' := ⟨h.os, h.tape, h.output, h.size, fun k hk _ h1 => h.block k hk h1⟩
theorem F2.of_below {b g : Nat} {w w' : World} (h : Below w.heap.size w w') : F2 b g w w' := ⟨h.os, h.tape, h.output, h.size, fun k hk _ _ => h.block k hk⟩
theorem F2.trans {b g : Nat} {w w1 w2 : World} (h : F2 b g w w1) (k : F2 b g w1 w2) : F2 b g w w2 := ⟨k.os.trans h.os, k.tape.trans h.tape, k.output.trans h.output, Nat.le_trans h.size k.size, fun i hi h1 h2 => (k.block i (Nat.lt_of_lt_of_le hi h.size) h1 h2).trans (h.block i hi h1 h2)⟩
theorem F2.below {b g B : Nat} {w w' : World} (h : F2 b g w w') (hb : B ≤ b) (hg : B ≤ g) (hB : B ≤ w.heap.size) : Below B w w' := ⟨h.os, h.tape, h.output, h.size, fun k hk => h.block k (by omega) (by omega) (by omega)⟩
theorem F2.drewN {b g : Nat} {w w' : World} (h : F2 b g w w') (n : Nat) : F2 b g w (w'.drewN n) := ⟨h.os, h.tape, h.output, h.size, h.block⟩
theorem below_fb {w0 w w' : World} {b : Nat} (h : Below w0.heap.size w0 w) (f : Fb b w w') (hb : w0.heap.size ≤ b) : Below w0.heap.size w0 w' :=
  ⟨f.os.trans h.os, f.tape.trans h.tape, f.output.trans h.output, Nat.le_trans h.size f.size, fun k hk => (f.block k (Nat.lt_of_lt_of_le hk h.size) (by omega)).trans (h.block k hk)⟩
theorem hpop_one (b B g c : Nat) (s t : Int) (e1 : Int × Int × Int) (w : World) (hC : Clk 54 w b s t (.slice (some ⟨g, 0, none⟩) 1 c)) (h : Rw w B (.slice (some ⟨g, 0, none⟩) 1 c) [e1]) (hb : b < B) :
    Calls Try.prog 30 #[.iface 60 (.pointer (some ⟨b, 2, none⟩))] w fun e w' => e = .returned (.iface 58 (.agg #[.int .i64 e1.1, .int .i64 e1.2.1, .int .i64 e1.2.2])) ∧ Clk 54 w' b s t (.slice (some ⟨g, 0, none⟩) 0 c) ∧ F2 b g w w' := by
  have hg : b ≠ g := by have := (row_blk h).1; omega
  have c2 := hC.c2
  have M1 := run_len _ _ _ c2
  have M2 := run_swap _ _ _ c2
  have L := Lib.hid (len_c (some ⟨g, 0, none⟩) 1 c w)
  have S : Hid (Calls Try.prog 54 #[.slice (some ⟨g, 0, none⟩) 1 c, .int .i64 0, .int .i64 0] w fun e w' => e = .returned (.tuple #[]) ∧ (Clk 54 w' b s t (.slice (some ⟨g, 0, none⟩) 1 c) ∧ Rw w' B (.slice (some ⟨g, 0, none⟩) 1 c) [e1] ∧ Fb g w w')) := by
    refine Lib.hid ((swap_c B g c 0 0 1 [e1] w h rfl (by decide) (by decide)).mono ?_)
    rintro e w' ⟨rfl, h1, h2⟩
    exact ⟨rfl, hC.fb h2 hg, h1, h2⟩
  have MP := Lib.hid (fun w' : World => run_pop ⟨b, 2, none⟩ w')
  have P := Lib.hid (fun w' (hh : Clk 54 w' b s t (.slice (some ⟨g, 0, none⟩) 1 c) ∧ Rw w' B (.slice (some ⟨g, 0, none⟩) 1 c) [e1] ∧ Fb g w w') => popm_c b B g c 0 s t [e1] w' hh.1 hh.2.1 rfl hb (by decide))
  have hB := (row_blk h).1
  clear hC h
  go_enter Try.func30, Try.ntmps30
  go_wp2_with (first
    | (go_at_call 52; (with_reducible refine (L.out).mono ?_); rintro e w' ⟨rfl, rfl⟩)
    | (go_at_call 54; (with_reducible refine (S.out).mono ?_); rintro e w1 ⟨rfl, hh⟩; have M3 := MP.out w1)
    | (go_at_call 29; (with_reducible refine (down_one _ _).mono ?_); rintro e w' ⟨rfl, rfl⟩)
    | (go_at_call 58; (with_reducible refine (P.out _ hh).mono ?_); rintro e w2 ⟨rfl, k1, k2, k3⟩))
  go_ret
  exact ⟨rfl, k1, (F2.of_g hh.2.2).trans (F2.of_b k3)⟩
end Go.Proofs.Ythigimmlhgdchaa
