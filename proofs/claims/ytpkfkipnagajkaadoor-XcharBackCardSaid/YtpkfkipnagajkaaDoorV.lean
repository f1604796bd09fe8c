/- The walks of XcharDecodes, Back, Garbage, Columns. -/
import Derived.Test.YtpkfkipnagajkaaDoorT
namespace Go.Proofs.YtpkfkipnagajkaaDoor
set_option linter.unusedVariables false
set_option linter.unusedSimpArgs false
open Go.RowKit Go.Shelf

theorem ldecodes_walk (v : Value) (l : List Int) (w : World) (hr : Rd w .u8 v l) (hb : Byt l) (hs : l.length ≤ 9223372036854775807) (hT : Tabs w) : Calls Tryd.prog 3 #[v] w fun e w' => e = .returned (.bool true) ∧ Below w.heap.size w w' := by
  have D := decode_c v l w hr hb hT
  have hr0 := hr
  obtain ⟨a, c, rfl, hc, hcell⟩ := hr
  obtain ⟨u, hu⟩ : ∃ u, (dec l).1 = u := ⟨_, rfl⟩
  obtain ⟨n, hn⟩ : ∃ u, (dec l).2 = u := ⟨_, rfl⟩
  obtain ⟨t, ht⟩ : ∃ u, decT l = u := ⟨_, rfl⟩
  have R := fun w1 (h : Rd w1 .u8 (.slice a l.length c) l) => rdecode_c _ l w1 h hb
  rw [hu, hn, ht] at D R
  have HD := Lib.hid D
  have HR := Lib.hid R
  clear D R hu hn ht hcell
  go_enter Tryd.func3, Tryd.ntmps3
  by_cases h4 : (300 : Int) < l.length
  · go_wp2_with (go_at_call 7; refine (awake_c _).mono ?_; rintro e w3 ⟨rfl, hb3⟩)
    go_ret
    exact ⟨rfl, hb3⟩
  · go_wp2_with (first
      | (go_at_call 8; refine (HD.out).mono ?_; rintro e w1 ⟨rfl, hb1⟩)
      | (go_at_call 9; refine (HR.out _ (hr0.below hb1)).mono ?_; rintro e w2 ⟨rfl, rfl⟩)
      | (go_at_call 7; refine (awake_c _).mono ?_; rintro e w3 ⟨rfl, hb3⟩))
    go_ret
    exact ⟨rfl, below_then hb1 hb1.size hb3⟩
end Go.Proofs.YtpkfkipnagajkaaDoor
