/- Contracts of the library's decoders, on slices that are read; of xchar.Decode. -/
import Derived.Test.YtpkfkipnagajkaaDoorP
namespace Go.Proofs.YtpkfkipnagajkaaDoor
set_option linter.unusedVariables false
set_option linter.unusedSimpArgs false
open Go.RowKit Go.Shelf

def Tabs (w : World) : Prop := Go.Lib.Utf8Tabs (Tryd.lays32_ren.g 2) (Tryd.lays32_ren.g 3) w
theorem Tabs.below {w w' : World} (h : Tabs w) (hb : Below w.heap.size w w') : Tabs w' := Utf8Tabs_below h hb
theorem get_byte (l : List Int) (hb : Byt l) (j : Nat) (hj : j < l.length) : (((strOfNums l).get! j).toNat : Int) = l.getD j 0 := by
  rw [← Go.Lib.getD_get!', strOfNums_data]
  exact bytesOf_getD l hb j
theorem strOfNums_bytesOf (l : List Int) : strOfNums l = ⟨(Go.Lib.bytesOf l).toArray⟩ := rfl
theorem decodeGo_L (l : List Int) (hne : l ≠ []) : Go.Lib.decodeGo (strOfNums l) = Go.Lib.decodeL (Go.Lib.bytesOf l) := by
  unfold Go.Lib.decodeGo Go.Lib.decodeL
  have hs : ¬ (strOfNums l).size = 0 := by rw [strOfNums_size]; exact fun h => hne (List.eq_nil_of_length_eq_zero h)
  rw [if_neg hs]
  rfl
theorem dslow_empty (a : Option Addr) (c : Nat) (w : World) : Calls Tryd.prog 27 #[.slice a 0 c] w fun e w' => e = .returned (.tuple #[.int .i32 65533, .int .i64 0]) ∧ w = w' := by
  go_enter Tryd.func27, Tryd.ntmps27
  go_wp2
  go_ret2
  exact ⟨rfl, rfl⟩
theorem drune_empty (a : Option Addr) (c : Nat) (w : World) : Calls Tryd.prog 20 #[.slice a 0 c] w fun e w' => e = .returned (.tuple #[.int .i32 65533, .int .i64 0]) ∧ w = w' := by
  go_enter Tryd.func20, Tryd.ntmps20
  go_wp2
  refine wp_loop_rounds 1 ?_
  rw [rounds_succ]
  go_wp2_with (go_at_call 27; refine (dslow_empty _ _ _).mono ?_; rintro e w' ⟨rfl, rfl⟩)
  go_ret2
  exact ⟨rfl, rfl⟩
theorem dlast_empty (a : Option Addr) (c : Nat) (w : World) : Calls Tryd.prog 23 #[.slice a 0 c] w fun e w' => e = .returned (.tuple #[.int .i32 65533, .int .i64 0]) ∧ w = w' := by
  go_enter Tryd.func23, Tryd.ntmps23
  go_wp2
  go_ret2
  exact ⟨rfl, rfl⟩
theorem drune_c (v : Value) (l : List Int) (w : World) (hr : Rd w .u8 v l) (hb : Byt l) (hT : Tabs w) :
    Calls Tryd.prog 20 #[v] w fun e w' => (∃ r n : Int, e = .returned (.tuple #[.int .i32 r, .int .i64 n]) ∧ 0 ≤ r ∧ r ≤ 1114111 ∧ 0 ≤ n ∧ n ≤ 4 ∧
      ((r = 65533 ∧ n < 2 ∧ dec l = (0, 0)) ∨ (¬ (r = 65533 ∧ n < 2) ∧ dec l = (r, n) ∧ 1 ≤ n))) ∧ Below w.heap.size w w' := by
  obtain ⟨a, c, rfl, hc, hcell⟩ := hr
  by_cases hne : l = []
  · subst hne
    refine (drune_empty a c w).mono ?_
    rintro e w' ⟨rfl, rfl⟩
    exact ⟨⟨_, _, rfl, by decide, by decide, by decide, by decide, .inl ⟨rfl, by decide, rfl⟩⟩, Below.refl _ _⟩
  · obtain ⟨g, off, rfl, hcl⟩ : ∃ g off, a = some ⟨g, off, none⟩ ∧ ∀ i, i < l.length → w.cell? ⟨g, off + i, none⟩ = some (.int .u8 (l.getD i 0)) := by
      rcases hcell with h | h
      · exact absurd h hne
      · exact h
    have hs : (strOfNums l).size = l.length := strOfNums_size l
    have := Any7.utf8_DecodeRune Tryd.lays32 (strOfNums l) g off c w hT (fun j hj => by rw [get_byte l hb j (by omega)]; exact hcl j (by omega))
    rw [hs, decodeGo_L l hne] at this
    refine this.mono ?_
    rintro e w' ⟨rfl, hbel⟩
    refine ⟨⟨_, _, rfl, ?_⟩, hbel⟩
    have dr := dec_range l hb
    rcases decodeL_dec l hb hne with ⟨h1, h2, h3⟩ | ⟨h1, h2, h3⟩
    · rw [h1, h2]
      exact ⟨by decide, by decide, by decide, by decide, .inl ⟨rfl, by decide, h3⟩⟩
    · rw [h1] at dr
      exact ⟨dr.1, dr.2.1, dr.2.2.1, dr.2.2.2.1, .inr ⟨fun h => by have := h3 (by omega); omega, h1, by omega⟩⟩
end Go.Proofs.YtpkfkipnagajkaaDoor
