/- append(s, make([]int, m)...) onto a row of the call's own. -/
import Derived.Test.YticjepfcgfdmgaaE
namespace Go.Proofs.Yticjepfcgfdmgaa
set_option linter.unusedVariables false
set_option linter.unusedSimpArgs false
open Go.RowKit

def zs (m : Nat) : List Value := List.replicate m (.int .i64 0)
theorem zeros_eq (m : Nat) : Builtin.zeroCells #[Value.int .i64 0] m = (zs m).toArray := by
  apply Array.ext'
  simp [Builtin.zeroCells, zs, Nat.mod_one]
  exact List.eq_replicate_iff.2 ⟨by simp, by simp [Nat.mod_one]⟩
theorem run_zeros_nil {P : Program} (w : World) (t ti ty e : TypeId) (i : TypeInfo) (ht : P.underlying t = some (.slice e)) (hti : P.underlying ti = some (.int .i64)) (hi : P.info? e = some i) (hz : i.zero = some (.int .i64 0)) (hs : i.size = 1) (hby : i.bytes = 8) (m : Nat) (h0 : 0 < m) (hm : m ≤ 1000000) :
    (Builtin.append_ #[t, ti] ty #[.slice none 0 0, .int .i64 m]).run P w = .ok (.slice (some ⟨w.heap.size, 0, none⟩) m (grownCap w m 0 e)) (w.drew.alloc (.cells ((zs m).toArray ++ Builtin.zeroCells #[.int .i64 0] (grownCap w m 0 e - m)) e)) := by
  have hw : IntKind.i64.wrap (m : Int) = m := by simp only [IntKind.wrap_i64]; omega
  have hn : m ≠ 0 := by omega
  have h1 : ¬ ((m : Int) < 0) := by omega
  have h2 : ¬ (281474976710656 < (m : Int) * 8) := by omega
  have h3 : ¬ (9223372036854775807 < (m : Int)) := by omega
  have h4 : ¬ (281474976710656 < Builtin.nextslicecap m 0 * 8) := by rw [nextslicecap_zero h0]; omega
  have h5 : (Value.int IntKind.i64 0).cells = #[.int .i64 0] := rfl
  simp [Builtin.append_, run_underlying ht, run_underlying hti, sizeOf, typeInfo, zeroValue, hi, hz, hs, hby, asInt, asIntOf, hw, hn, h1, h2, h3, h4, h5, Question.forced, run_firstCells_none, newRow, grownCap, zeros_eq]
theorem run_zeros_room {P : Program} (w : World) (t ti ty e : TypeId) (i : TypeInfo) (ht : P.underlying t = some (.slice e)) (hti : P.underlying ti = some (.int .i64)) (hi : P.info? e = some i) (hz : i.zero = some (.int .i64 0)) (hs : i.size = 1) (hby : i.bytes = 8) (g n cap : Nat) (cur : Array Value) (hg : w.heap[g]? = some (.cells cur e (0, 0))) (m : Nat) (h0 : 0 < m) (hm : m ≤ 1000000) (hroom : n + m ≤ cap) (hfit : n + m ≤ cur.size) :
    (Builtin.append_ #[t, ti] ty #[.slice (some ⟨g, 0, none⟩) n cap, .int .i64 m]).run P w = .ok (.slice (some ⟨g, 0, none⟩) (n + m) cap) (w.setRow g (cur.toList.take n ++ zs m ++ cur.toList.drop (n + m)).toArray) := by
  have hw : IntKind.i64.wrap (m : Int) = m := by simp only [IntKind.wrap_i64]; omega
  have hn : m ≠ 0 := by omega
  have h1 : ¬ ((m : Int) < 0) := by omega
  have h2 : ¬ (281474976710656 < (m : Int) * 8) := by omega
  have h5 : (Value.int IntKind.i64 0).cells = #[.int .i64 0] := rfl
  have hl : (zs m).length = m := by simp [zs]
  have hst := run_storeCells_at P g n e (zs m) 0 cur w hg (by simpa [zs] using hfit) (by intro u hu; simp [zs] at hu; rw [hu.2]; rfl)
  simp only [Nat.add_zero, hl] at hst
  simp [Builtin.append_, run_underlying ht, run_underlying hti, sizeOf, typeInfo, zeroValue, hi, hz, hs, hby, asInt, asIntOf, hw, hn, h1, h2, h5, hroom, zeros_eq, Addr.add_lit, hst]
theorem run_zeros_none {P : Program} (w : World) (t ti ty e : TypeId) (i : TypeInfo) (ht : P.underlying t = some (.slice e)) (hti : P.underlying ti = some (.int .i64)) (hi : P.info? e = some i) (a : Addr) (n cap : Nat) (hroom : n ≤ cap) :
    (Builtin.append_ #[t, ti] ty #[.slice (some a) n cap, .int .i64 0]).run P w = .ok (.slice (some a) n cap) w := by
  have hw : IntKind.i64.wrap 0 = 0 := by decide
  simp [Builtin.append_, run_underlying ht, run_underlying hti, sizeOf, typeInfo, hi, asInt, asIntOf, hw, hroom, storeCells]
theorem run_zeros_grow {P : Program} (w : World) (t ti ty e : TypeId) (i : TypeInfo) (ht : P.underlying t = some (.slice e)) (hti : P.underlying ti = some (.int .i64)) (hi : P.info? e = some i) (hz : i.zero = some (.int .i64 0)) (hs : i.size = 1) (hby : i.bytes = 8) (b : Addr) (n cap : Nat) (olds : List Value) (hlo : olds.length = n) (holds : ∀ j v, olds[j]? = some v → w.cell? (b.add j) = some v) (m : Nat) (h0 : 0 < m) (hm : n + m ≤ 1000000) (hg : cap < n + m) :
    (Builtin.append_ #[t, ti] ty #[.slice (some b) n cap, .int .i64 m]).run P w =
      .ok (.slice (some ⟨w.heap.size, 0, none⟩) (n + m) (grownCap w (n + m) cap e)) (w.drew.alloc (.cells (olds.toArray ++ (zs m).toArray ++ Builtin.zeroCells #[.int .i64 0] (grownCap w (n + m) cap e - (n + m))) e)) := by
  have hw : IntKind.i64.wrap (m : Int) = m := by simp only [IntKind.wrap_i64]; omega
  have hn : m ≠ 0 := by omega
  have h1 : ¬ ((m : Int) < 0) := by omega
  have h2 : ¬ (281474976710656 < (m : Int) * 8) := by omega
  have h3 : ¬ (9223372036854775807 < ((n : Int) + (m : Int))) := by omega
  have h4 : ¬ (281474976710656 < Builtin.nextslicecap (n + m) cap * 8) := by
    have := growslice_fits (bytes := 8) (need := n + m) (old := cap) (by omega) (by omega)
    omega
  have h6 : ¬ (n + m ≤ cap) := by omega
  have h5 : (Value.int IntKind.i64 0).cells = #[.int .i64 0] := rfl
  have hfo := run_firstCells_some (P := P) w.drew 1 n b n cap olds (by omega) (by simpa using holds)
  simp [Builtin.append_, run_underlying ht, run_underlying hti, sizeOf, typeInfo, zeroValue, hi, hz, hs, hby, asInt, asIntOf, hw, hn, h1, h2, h3, h4, h5, h6, Question.forced, hfo, newRow, grownCap, zeros_eq]
theorem run_append_zeros {P : Program} (w : World) (base : Nat) (t ti ty e : TypeId) (i : TypeInfo) (ht : P.underlying t = some (.slice e)) (hti : P.underlying ti = some (.int .i64)) (hi : P.info? e = some i) (hz : i.zero = some (.int .i64 0)) (hs : i.size = 1) (hby : i.bytes = 8)
    (v : Value) (n : Nat) (xs : List Value) (hown : w.ownsRow base e 1 v n xs) (m : Nat) (hm : n + m ≤ 1000000) (hbase : base ≤ w.heap.size) :
    ∃ v' w', (Builtin.append_ #[t, ti] ty #[v, .int .i64 m]).run P w = .ok v' w' ∧ w'.ownsRow base e 1 v' (n + m) (xs ++ zs m) ∧ w.grownBy w' v.ownBlock ∧ (v'.ownBlock = v.ownBlock ∨ ∀ g, v'.ownBlock = some g → w.heap.size ≤ g) := by
  have hlz : (zs m).length = m := by simp [zs]
  have hlen : (xs ++ zs m).length = (n + m) * 1 := by rw [List.length_append, hown.1, hlz]; omega
  have grown : ∀ (old : Nat) (row : Option Nat),
      (w.drew.alloc (.cells (xs.toArray ++ (zs m).toArray ++ Builtin.zeroCells #[.int .i64 0] (grownCap w (n + m) old e - (n + m))) e)).ownsRow base e 1 (.slice (some ⟨w.heap.size, 0, none⟩) (n + m) (grownCap w (n + m) old e)) (n + m) (xs ++ zs m) ∧
      w.grownBy (w.drew.alloc (.cells (xs.toArray ++ (zs m).toArray ++ Builtin.zeroCells #[.int .i64 0] (grownCap w (n + m) old e - (n + m))) e)) row := by
    intro old row
    have hge := grownCap_ge w (n + m) old e
    have hcm : grownCap w (n + m) old e ≤ maxLen := grownCap_le_maxLen w (n + m) old e (by unfold maxLen; omega)
    refine ⟨⟨hlen, .inr ⟨w.heap.size, _, _, rfl, hbase, heap_alloc_new w.drew _, hge, hcm, ?_, ?_⟩⟩, ⟨rfl, rfl, rfl, by simp, fun k hk _ => heap_alloc_old w.drew _ hk⟩⟩
    · have := hown.1
      simp only [Array.size_append, List.size_toArray, zeros_eq]
      simp [zs]
      omega
    · simp only [Array.toList_append, List.append_assoc]
      rw [← List.append_assoc, ← hlen]
      exact List.take_left
  rcases hown.2 with ⟨rfl, rfl⟩ | ⟨g, cap, cur, rfl, hbg, hg, hnc, hcm, hcs, htake⟩
  · have hx : xs = [] := List.eq_nil_of_length_eq_zero (by simpa using hown.1)
    subst hx
    by_cases h0 : m = 0
    · subst h0
      exact ⟨_, _, run_append_zero w t ti ty e i ht hti hi, World.ownsRow_nil w base e 1, ⟨rfl, rfl, rfl, Nat.le_refl _, fun _ _ _ => rfl⟩, .inl rfl⟩
    · have hr := run_zeros_nil w t ti ty e i ht hti hi hz hs hby m (by omega) (by omega)
      have hgr := grown 0 (Value.ownBlock (.slice none 0 0))
      simp only [Nat.zero_add, List.nil_append, Array.empty_append] at hgr ⊢
      exact ⟨_, _, hr, hgr.1, hgr.2, .inr (by simp [Value.ownBlock])⟩
  · by_cases h0 : m = 0
    · subst h0
      refine ⟨_, _, run_zeros_none w t ti ty e i ht hti hi _ n cap hnc, ?_, ⟨rfl, rfl, rfl, Nat.le_refl _, fun _ _ _ => rfl⟩, .inl rfl⟩
      simpa [zs] using hown
    · by_cases hroom : n + m ≤ cap
      · have hr := run_zeros_room w t ti ty e i ht hti hi hz hs hby g n cap cur hg m (by omega) (by omega) hroom (by omega)
        refine ⟨_, _, hr, ⟨hlen, .inr ⟨g, cap, _, rfl, hbg, setRow_heap w g cur _ e _ hg, hroom, hcm, ?_, ?_⟩⟩, ⟨rfl, rfl, rfl, by simp, fun k _ hk => setRow_other w g k _ (fun e => hk (by simp [Value.ownBlock, e]))⟩, .inl rfl⟩
        · simp only [List.size_toArray, List.length_append, List.length_take, List.length_drop, Array.length_toList, hlz]
          omega
        · have htk : cur.toList.take n = xs := by rw [← htake]; simp
          rw [htk, ← hlen]
          exact List.take_left
      · have holds : ∀ j u, xs[j]? = some u → w.cell? ((⟨g, 0, none⟩ : Addr).add j) = some u := hown.cells (g := g) rfl
        have hr := run_zeros_grow w t ti ty e i ht hti hi hz hs hby ⟨g, 0, none⟩ n cap xs (by have := hown.1; omega) holds m (by omega) hm (by omega)
        have hgr := grown cap (Value.ownBlock (.slice (some ⟨g, 0, none⟩) n cap))
        exact ⟨_, _, hr, hgr.1, hgr.2, .inr (by simp [Value.ownBlock])⟩
end Go.Proofs.Yticjepfcgfdmgaa
