/- Roll, the walk. -/
import Derived.Test.YticjepfcgfdmgaaP
namespace Go.Proofs.Yticjepfcgfdmgaa
set_option linter.unusedVariables false
set_option linter.unusedSimpArgs false
open Go.RowKit

theorem size_int : (Try.prog.info? 3).map (·.size) = some 1 := by kernel_rfl
set_option maxHeartbeats 4000000 in
theorem roll_yes (b : Nat) (v : Value) (l : List Int) (most over under : Int) (i : Nat) (B : Nat) (w : World) (h : IStk w B b v (l.map (.int .i64)) most over under) (hi : i < l.length) (hl : l.length ≤ 1000000) :
    Calls Try.prog 22 #[.pointer (some ⟨b, 0, none⟩), .int .i64 i] w fun e w' => e = .returned (.int .i64 0) ∧ IStk w' B b v ((rolled l (l.length - 1 - i)).map (.int .i64)) most over under ∧ Fr b v w w' := by
  have HS := Lib.hid h
  have A := at_yes b v (l.map (.int .i64)) most over under i B w h (by omega) (by simpa using hi) (by simpa using hl)
  have hr : Rd w .i64 v l := Rd.of_own h.2.2
  have ho := h.2.2
  have hT := h.ne (by decide)
  have hbl := h.lt
  have hBb := h.2.1
  obtain ⟨a, c, rfl, hc, hg⟩ := own_form ho
  obtain ⟨g, rfl, hBg⟩ := hg (by simp; omega)
  clear hg
  rw [List.length_map] at ho hc A hT hr
  have hne : g ≠ b := fun e => hT (by simp [Value.ownBlock, e])
  obtain ⟨hw, cur, hh, hcm, hcs0, hcur⟩ : ∃ (hw : (l.map (Value.int .i64)).length = l.length * 1) (cur : Array Value), w.heap[g]? = some (.cells cur 3 (0, 0)) ∧ c ≤ maxLen ∧ cur.size = c * 1 ∧ cur.toList.take (l.length * 1) = l.map (Value.int .i64) := by
    refine ⟨by simp, ?_⟩
    rcases ho.2 with ⟨h2, _⟩ | ⟨g', cap, cur, hv, hb, hh, hn, hm, hs, ht⟩
    · cases h2
    · injection hv with e1 e2 e3
      injection e1 with e1
      injection e1 with e1
      subst e1 e3
      exact ⟨cur, hh, hm, hs, ht⟩
  have hcat : cur.toList = l.map (Value.int .i64) ++ cur.toList.drop l.length := by
    rw [← hcur, Nat.mul_one, List.take_append_drop]
  obtain ⟨Z, hZ⟩ : ∃ Z, cur.toList.drop l.length = Z := ⟨_, rfl⟩
  rw [hZ] at hcat
  have HG : Hid (w.heap[g]? = some (.cells (l.map (Value.int .i64) ++ Z).toArray 3 (0, 0))) := Lib.hid (by rw [← hcat]; exact hh)
  have hsz : (l.map (Value.int .i64) ++ Z).length = c := by rw [← hcat]; simpa using hcs0
  obtain ⟨p, hp⟩ : ∃ p, l.length - 1 - i = p := ⟨_, rfl⟩
  obtain ⟨q, hq⟩ : ∃ q, l.length - 1 = q := ⟨_, rfl⟩
  have hpl : p < l.length := by omega
  have RS := rolled_splice hpl Z
  have RL := rolled_length hpl
  obtain ⟨k1, o1, e1, k0⟩ := hr.at_ (i := p) hpl
  injection e1 with e1
  injection e1 with e1 e2
  subst e1 e2
  rw [Nat.zero_add] at k0
  obtain ⟨y, hy⟩ : ∃ y, l.getD p 0 = y := ⟨_, rfl⟩
  obtain ⟨cs, hcs⟩ : ∃ cs, (l.drop (p + 1)).map (Value.int .i64) = cs := ⟨_, rfl⟩
  obtain ⟨ys, hys⟩ : ∃ ys, (rolled l p).map (Value.int .i64) = ys := ⟨_, rfl⟩
  obtain ⟨xs, hxs⟩ : ∃ xs, l.map (Value.int .i64) = xs := ⟨_, rfl⟩
  have HCL : Hid (cs.length = i) := Lib.hid (by rw [← hcs]; simp; omega)
  have HC1 : Hid (∀ v ∈ cs, v.oneCell' = true) := Lib.hid (by rw [← hcs]; intro v hv; obtain ⟨z, _, rfl⟩ := List.mem_map.1 hv; rfl)
  have HSRC : Hid (∀ j v, cs[j]? = some v → w.cell? ((⟨g, p + 1, none⟩ : Addr).add j) = some v) := by
    refine Lib.hid fun j v hj => ?_
    have := ho.cells (g := g) rfl (p + 1 + j) v (by rw [← hcs, List.getElem?_map, List.getElem?_drop] at hj; rw [List.getElem?_map]; exact hj)
    rw [← this]
    simp only [Addr.add]
    split <;> split <;> simp_all
  rw [hys] at RS
  rw [hxs, hcs, hy, hq] at RS
  rw [hxs] at HG hsz HS
  have hxl : xs.length = l.length := by rw [← hxs, List.length_map]
  have hyl : ys.length = l.length := by rw [← hys, List.length_map]; exact RL
  rw [hp, hys]
  rw [hy] at k0
  obtain ⟨L, hL⟩ : ∃ L, l.length = L := ⟨_, rfl⟩
  rw [hxl] at HS
  rw [hL] at A hr ho hc hi hl hyl hq hp HS hpl RS
  rw [hxs, hxl, hL]
  have HFIT : Hid (p + cs.length ≤ (xs ++ Z).length) := Lib.hid (by rw [HCL.out, hsz]; omega)
  have FIN : Hid (∀ w1, w1.heap[g]? = some (.cells (splice (xs ++ Z) p cs).toArray 3 (0, 0)) → w.drew.grownBy w1 (some g) → w1.cell? ⟨b, 0, none⟩ = some (.slice (some ⟨g, 0, none⟩) L c) ∧ w1.frozen? ⟨g, q, none⟩ = false ∧ (∃ u, w1.cell? ⟨g, q, none⟩ = some u) ∧ Hid (∀ n, IStk ((w1.setCell ⟨g, q, none⟩ (.int .i64 y)).drewN n) B b (.slice (some ⟨g, 0, none⟩) L c) ys most over under ∧ Fr b (.slice (some ⟨g, 0, none⟩) L c) w ((w1.setCell ⟨g, q, none⟩ (.int .i64 y)).drewN n))) := by
    refine Lib.hid fun w1 h1 hg0 => ?_
    have hg1 : w.grownBy w1 (some g) := ⟨hg0.os, hg0.tape, hg0.output, hg0.size, hg0.block⟩
    have hbb : w1.heap[b]? = w.heap[b]? := hg1.block b hbl (fun e => hne (by have := Option.some.inj e; omega))
    have hsl : (splice (xs ++ Z) p cs).length = c := by rw [length_splice _ _ _ HFIT.out, hsz]
    refine ⟨(World.cell?_of_block (w := w) hbb).trans HS.out.cell.1, by simp [World.frozen?, h1], ?_, Lib.hid fun n => ⟨?_, ?_⟩⟩
    · rw [cell_of_row w1 g q _ _ _ h1]
      have : q < (splice (xs ++ Z) p cs).toArray.size := by simp [hsl]; omega
      exact ⟨_, Array.getElem?_eq_getElem this⟩
    · refine ⟨?_, hBb, ?_⟩
      · show (w1.setCell ⟨g, q, none⟩ (.int .i64 y)).heap[b]? = _
        exact ((Below.heap_setCell _ _ _ _ (fun e => hne e.symm)).trans hbb).trans HS.out.1
      · refine ⟨by omega, .inr ⟨g, c, (splice (xs ++ Z) p cs).toArray.setIfInBounds q (.int .i64 y), by rw [hyl], hBg, ?_, by omega, hcm, by simp [hsl], ?_⟩⟩
        · show (w1.setCell ⟨g, q, none⟩ (.int .i64 y)).heap[g]? = _
          simp [World.setCell, Array.getElem?_modify, h1]
        · rw [Array.toList_setIfInBounds, hyl, Nat.mul_one]
          exact RS
    · refine ⟨hg1.os, hg1.tape, hg1.output, ?_, fun k hk h1 h2 => ?_⟩
      · show w.heap.size ≤ (w1.setCell ⟨g, q, none⟩ (.int .i64 y)).heap.size
        simpa [World.setCell] using hg1.size
      · show (w1.setCell ⟨g, q, none⟩ (.int .i64 y)).heap[k]? = _
        have hkg : k ≠ g := fun e => h2 (by simp [Value.ownBlock, e])
        exact (Below.heap_setCell _ _ _ _ hkg).trans (hg1.block k hk (fun e => hkg (by have := Option.some.inj e; omega)))
  rw [show (L : Int) - 1 - i = (p : Int) by omega] at A
  have HA := Lib.hid A
  have c0 := HS.out.cell.1
  have hpL : (p : Int) < L := by omega
  have hqL : (q : Int) < L := by omega
  have i1 : IntKind.i64.wrap ((L : Int) - 1) = (q : Int) := by rw [IntWalk.i64_in _ (by omega)]; omega
  have i2 : IntKind.i64.wrap ((p : Int) + 1) = ((p + 1 : Nat) : Int) := by rw [IntWalk.i64_in _ (by omega)]; omega
  have HQ : Hid (q + 1 = L) := Lib.hid (by omega)
  have HNE : Hid (0 < i → p + 1 < L) := Lib.hid (by omega)
  have hpc : p < c := by omega
  have HCS : Hid (cs.length = 0 ∨ p + 1 < L) := Lib.hid (by rw [HCL.out]; omega)
  have HLEN : Hid (cs.length = L - (p + 1)) := Lib.hid (by rw [HCL.out]; omega)
  have gNN : (0 : Int) ≤ L := by omega
  have hLc : (L : Int) ≤ c := by omega
  have f0 := HS.out.frozen 0
  clear h HS A hr ho hT hbl hBb hBg hw hh hcm hcs0 hcur hcat hZ hsz RS RL hcs hys hxs hL hyl hy hp hq hpl hne
  have n1 : p ≤ L := by omega
  have n2 : ¬ c = p := by omega
  have n3 : p + 1 ≤ L := by omega
  have n6 : (0 : Int) ≤ p + 1 := by omega
  have n7 : (p : Int) + 1 ≤ L := by omega
  have n8 : (p : Int) ≤ p + 1 := by omega
  have hp1 : p + 1 < c ∨ p + 1 = c := by omega
  rcases hp1 with hp1 | hp1
  · have n4 : ¬ c = p + 1 := by omega
    go_enter Try.func22, Try.ntmps22
    go_wp2_with (go_at_call 30; (with_reducible refine (HA.out).mono ?_); rintro e w' ⟨rfl, rfl⟩)
    go_region_law (refine step_copy_in rfl (.tmp 30) (.tmp 37) 22 22 rfl 3 Try.underlying22 size_int (some ⟨g, p, none⟩) (some ⟨g, p + 1, none⟩) (L - p) (c - p) (L - (p + 1)) (c - (p + 1)) (by simp [Act.eval, Act.put]) (by simp [Act.eval, Act.put]) g p (xs ++ Z) 3 HG.out cs (by rw [HLEN.out]; show _ = min _ _; omega) (fun _ => ⟨rfl, _, rfl, HSRC.out⟩) HFIT.out HC1.out ?_; intro w1 hg1 gb1; obtain ⟨c1, f1, ⟨u1, d1⟩, HE⟩ := FIN.out w1 hg1.out gb1; clear hg1 gb1)
    all_goals
      go_wp2_with fail
      go_big_region
      all_goals
        go_wp2_with fail
        go_ret
        exact ⟨rfl, HE.out _⟩
  · have n5 : L = p + 1 := by omega
    subst n5
    have n4 : c = p + 1 := hp1.symm
    obtain rfl : p = q := by have := HQ.out; omega
    subst n4
    go_enter Try.func22, Try.ntmps22
    go_wp2_with (go_at_call 30; (with_reducible refine (HA.out).mono ?_); rintro e w' ⟨rfl, rfl⟩)
    go_region_law (refine step_copy_in rfl (.tmp 30) (.tmp 37) 22 22 rfl 3 Try.underlying22 size_int (some ⟨g, p, none⟩) (some ⟨g, 0, none⟩) 1 1 0 0 (by simp [Act.eval, Act.put]) (by simp [Act.eval, Act.put]) g p (xs ++ Z) 3 HG.out cs (by rw [HLEN.out]; show _ = min _ _; omega) (fun h => absurd h (by rw [HLEN.out]; omega)) HFIT.out HC1.out ?_; intro w1 hg1 gb1; obtain ⟨c1, f1, ⟨u1, d1⟩, HE⟩ := FIN.out w1 hg1.out gb1; clear hg1 gb1)
    all_goals
      go_wp2_with fail
      go_big_region
      all_goals
        go_wp2_with fail
        go_ret
        exact ⟨rfl, HE.out _⟩
end Go.Proofs.Yticjepfcgfdmgaa
