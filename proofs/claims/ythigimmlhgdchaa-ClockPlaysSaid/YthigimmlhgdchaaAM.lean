/- The law ClockPlays, whole. -/
import Derived.Test.YthigimmlhgdchaaAK
import Derived.Test.YthigimmlhgdchaaAL
import Derived.Test.YthigimmlhgdchaaJ
import Derived.Deep.RegionWith
import Derived.OwnWalk
namespace Go.Proofs.Ythigimmlhgdchaa
set_option linter.unusedVariables false
set_option linter.unusedSimpArgs false
open Go.RowKit

set_option maxRecDepth 100000 in
set_option maxHeartbeats 16000000 in
theorem lplays_walk (s : Int) (v u : Value) (l : List (Int × Int)) (r : List (Int × Int × Bool)) (w : World) (hv : Evs w v l) (hr : Rd3 w u r) : Calls Try.prog 6 #[.int .i64 s, v, u] w fun e w' => e = .returned (.bool true) ∧ Below w.heap.size w w' := by
  have HE := Lib.hid hv
  have HR := Lib.hid hr
  obtain ⟨a, c, rfl, hc, _⟩ := hv
  obtain ⟨a2, c2, rfl, hc2, _⟩ := hr
  obtain ⟨L, hL⟩ : ∃ L, l.length = L := ⟨_, rfl⟩
  obtain ⟨N, hN⟩ : ∃ N, r.length = N := ⟨_, rfl⟩
  rw [hL] at HE hc ⊢
  rw [hN] at HR hc2 ⊢
  by_cases h4 : L ≤ 200
  · by_cases h5 : N ≤ 200
    · rcases good_or s l with ⟨s0, s1, hok⟩ | hn
      · exact lplays_good s a a2 L c N c2 (L + 1) l r w HE (Lib.hid hL) hc h4 HR (Lib.hid hN) hc2 h5 (Lib.hid hok) (Lib.hid s0) (Lib.hid s1) (Lib.hid rfl) (by omega) (by omega)
      · exact lplays_bad s a a2 L c N c2 (L + 1) l w HE (Lib.hid hL) hc h4 h5 (Lib.hid hn) (Lib.hid rfl) (by omega) (by omega)
    · have AW := Lib.hid (fun w => awake_c w)
      have h6 : (200 : Int) < N := by omega
      have h7 : ¬ (200 : Int) < L := by omega
      clear HE HR h4 h5 hL hN
      go_enter Try.func6, Try.ntmps6
      go_wp2_with (go_at_call 8; (with_reducible refine (AW.out _).mono ?_); rintro e w3 ⟨rfl, hb3⟩)
      go_ret
      exact ⟨rfl, hb3⟩
  · have AW := Lib.hid (fun w => awake_c w)
    have h6 : (200 : Int) < L := by omega
    clear HE HR h4 hL hN
    go_enter Try.func6, Try.ntmps6
    go_wp2_with (go_at_call 8; (with_reducible refine (AW.out _).mono ?_); rintro e w3 ⟨rfl, hb3⟩)
    go_ret
    exact ⟨rfl, hb3⟩
end Go.Proofs.Ythigimmlhgdchaa
