/- Contracts of xchar.Decode, xchar.Back; of the reference's. -/
import Derived.Test.YtpkfkipnagajkaaDoorQ
import Derived.Test.YtpkfkipnagajkaaDoorR
namespace Go.Proofs.YtpkfkipnagajkaaDoor
set_option linter.unusedVariables false
set_option linter.unusedSimpArgs false
open Go.RowKit Go.Shelf

theorem decT_fail {l : List Int} (h : dec l = (0, 0)) : decT l = -77 := by unfold decT; rw [h]; rfl
theorem decode_c (v : Value) (l : List Int) (w : World) (hr : Rd w .u8 v l) (hb : Byt l) (hT : Tabs w) :
    Calls Tryd.prog 8 #[v] w fun e w' => e = .returned (.tuple #[.int .i64 (dec l).1, .int .i64 (dec l).2, .int .i64 (decT l)]) ∧ Below w.heap.size w w' := by
  have D := drune_c v l w hr hb hT
  have HD := Lib.hid D
  clear D hr
  go_enter Tryd.func8, Tryd.ntmps8
  go_wp2_with (go_at_call 20; refine (HD.out).mono ?_; rintro e w' ⟨⟨r, n, rfl, r0, r1, n0, n1, hrn⟩, hbel⟩; have HRN := Lib.hid hrn; clear hrn)
  · go_ret3
    rcases HRN.out with ⟨h1, h2, h3⟩ | ⟨h1, h2, h3⟩
    · exact ⟨ret3 (by rw [h3]) (by rw [h3]) (decT_fail h3).symm, hbel⟩
    · exact absurd ⟨by assumption, by assumption⟩ h1
  · go_ret3
    rcases HRN.out with ⟨h1, h2, h3⟩ | ⟨h1, h2, h3⟩
    · exfalso; omega
    · exact ⟨ret3 (by rw [h2]; try (simp only; omega)) (by rw [h2]) (by unfold decT; rw [h2, if_neg (by simp only; omega)]), hbel⟩
  · go_ret3
    rcases HRN.out with ⟨h1, h2, h3⟩ | ⟨h1, h2, h3⟩
    · rename_i hh; simp [h1] at hh
    · exact ⟨ret3 (by rw [h2]; try (simp only; omega)) (by rw [h2]) (by unfold decT; rw [h2, if_neg (by simp only; omega)]), hbel⟩
theorem bkT_fail {l : List Int} (h : bkN l = 0) : bkT l = -77 := by unfold bkT; rw [if_pos h]
theorem dlast_c (v : Value) (l : List Int) (w : World) (hr : Rd w .u8 v l) (hb : Byt l) (hs : l.length ≤ 9223372036854775807) (hT : Tabs w) :
    Calls Tryd.prog 23 #[v] w fun e w' => (∃ r n : Int, e = .returned (.tuple #[.int .i32 r, .int .i64 n]) ∧ 0 ≤ r ∧ r ≤ 1114111 ∧ 0 ≤ n ∧ n ≤ 4 ∧
      ((r = 65533 ∧ n < 2 ∧ bkN l = 0) ∨ (¬ (r = 65533 ∧ n < 2) ∧ bkN l = n ∧ 1 ≤ n))) ∧ Below w.heap.size w w' := by
  obtain ⟨a, c, rfl, hc, hcell⟩ := hr
  by_cases hne : l = []
  · subst hne
    refine (dlast_empty a c w).mono ?_
    rintro e w' ⟨rfl, rfl⟩
    exact ⟨⟨_, _, rfl, by decide, by decide, by decide, by decide, .inl ⟨rfl, by decide, by decide⟩⟩, Below.refl _ _⟩
  · obtain ⟨g, off, rfl, hcl⟩ : ∃ g off, a = some ⟨g, off, none⟩ ∧ ∀ i, i < l.length → w.cell? ⟨g, off + i, none⟩ = some (.int .u8 (l.getD i 0)) := by
      rcases hcell with h | h
      · exact absurd h hne
      · exact h
    have hz : (strOfNums l).size = l.length := strOfNums_size l
    have := Any7.utf8_DecodeLastRune Tryd.lays33 (strOfNums l) g off c w (by omega) (fun j hj => by rw [get_byte l hb j (by omega)]; exact hcl j (by omega)) (by omega) hT
    rw [hz, show (strOfNums l).data.toList = Go.Lib.bytesOf l from strOfNums_data l] at this
    refine this.mono ?_
    rintro e w' ⟨rfl, hbel⟩
    refine ⟨⟨_, _, rfl, ?_⟩, hbel⟩
    rcases decodeLastL_bk l hb hne with ⟨h1, h2, h3⟩ | ⟨h1, h2, h3, h4, h5⟩
    · rw [h1, h2]
      exact ⟨by decide, by decide, by decide, by decide, .inl ⟨rfl, by decide, h3⟩⟩
    · exact ⟨by omega, by omega, by omega, by omega, .inr ⟨fun h => by have := h5 (by omega); omega, h1, by omega⟩⟩
theorem back_c (v : Value) (l : List Int) (w : World) (hr : Rd w .u8 v l) (hb : Byt l) (hs : l.length ≤ 9223372036854775807) (hT : Tabs w) :
    Calls Tryd.prog 10 #[v] w fun e w' => e = .returned (.tuple #[.int .i64 (bkN l), .int .i64 (bkT l)]) ∧ Below w.heap.size w w' := by
  have D := dlast_c v l w hr hb hs hT
  have HD := Lib.hid D
  clear D hr
  go_enter Tryd.func10, Tryd.ntmps10
  go_wp2_with (go_at_call 23; refine (HD.out).mono ?_; rintro e w' ⟨⟨r, n, rfl, r0, r1, n0, n1, hrn⟩, hbel⟩; have HRN := Lib.hid hrn; clear hrn)
  · go_ret2
    rcases HRN.out with ⟨h1, h2, h3⟩ | ⟨h1, h2, h3⟩
    · exact ⟨ret2 h3.symm (bkT_fail h3).symm, hbel⟩
    · exact absurd ⟨by assumption, by assumption⟩ h1
  · go_ret2
    rcases HRN.out with ⟨h1, h2, h3⟩ | ⟨h1, h2, h3⟩
    · exfalso; omega
    · exact ⟨ret2 h2.symm (by unfold bkT; rw [h2, if_neg (by omega)]), hbel⟩
  · go_ret2
    rcases HRN.out with ⟨h1, h2, h3⟩ | ⟨h1, h2, h3⟩
    · rename_i hh; simp [h1] at hh
    · exact ⟨ret2 h2.symm (by unfold bkT; rw [h2, if_neg (by omega)]), hbel⟩
end Go.Proofs.YtpkfkipnagajkaaDoor
