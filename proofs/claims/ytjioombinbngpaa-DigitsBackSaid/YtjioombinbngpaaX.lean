/- The laws of chapter 8 over a slice of bytes. -/
import Derived.Test.YtjioombinbngpaaW
import Derived.ChangeSlices
import Derived.WideShapes
namespace Go.Proofs.Ytjioombinbngpaa
set_option linter.unusedVariables false
set_option linter.unusedSimpArgs false
open Go.RowKit Go.Shelf Go.ChangeShapes Go.WideShapes

/-- A slice of numbers that is an argument, read. -/
theorem rd_arg {H : Type} {enc : TypeId × Value → H} {P : Program} {W : World} {t e : TypeId} {k : IntKind} {v : Value} {d : DataW H} {p : List MemPlace} (ht : P.underlying t = some (.slice e)) (he : P.underlying e = some (.int k)) (hc : P.cellsOf e = 1)
    (hv : ∃ a len cap, v = .slice a len cap) (h : DataW.Trod enc P W 0 (fun _ => true) true t v d p) : ∃ l, Rd W k v l ∧ (∀ x ∈ l, (Lit.int k x).wf = true) ∧ l.length ≤ maxLen := by
  obtain ⟨a0, len0, cap0, rfl⟩ := hv
  obtain ⟨fuel, hf⟩ := h
  rcases open_ints ht he hc hf with ⟨hcs, hx⟩ | ⟨a, len, cap, zs, hcs, _, hl, hm, hz, hx, hcell, hwz⟩
  · simp [Value.cells] at hcs
    obtain ⟨rfl, rfl, rfl⟩ := hcs
    exact ⟨[], Rd.nil _ _ _, fun x hx => by simp at hx, by simp⟩
  · simp [Value.cells] at hcs
    obtain ⟨rfl, rfl, rfl⟩ := hcs
    simp only [if_true] at hz
    have hlen : (zs.take len0).length = len0 := by rw [List.length_take]; omega
    refine ⟨zs.take len0, ⟨some a, cap0, by rw [hlen], by omega, ?_⟩, fun x hx => hwz x (List.mem_of_mem_take hx), by omega⟩
    by_cases h0 : len0 = 0
    · exact .inl (by subst h0; simp)
    · obtain ⟨b, off, spot⟩ := a
      have hspot : spot = none := by simpa [Addr.add] using World.cell?_spot (hcell 0 (by omega))
      subst hspot
      refine .inr ⟨b, off, rfl, fun i hi => ?_⟩
      rw [hlen] at hi
      have := hcell i (by omega)
      rw [← add_plain, this]
      simp [List.getD_eq_getElem?_getD, List.getElem?_take, hi]
theorem byt_wf {l : List Int} (h : ∀ x ∈ l, (Lit.int .u8 x).wf = true) : Byt l := fun x hx => wf_byte (h x hx)
theorem pnum_agg (s : List Int) (b : Int) : ∃ k lo hi, pnum s b = .agg #[.int .i64 k, .int .i64 lo, .int .i64 hi] := by
  unfold pnum
  split
  · exact ⟨_, _, _, rfl⟩
  · unfold pk
    split
    · exact ⟨_, _, _, rfl⟩
    · split
      · exact ⟨_, _, _, rfl⟩
      · exact ⟨_, _, _, rfl⟩
theorem lparse_walk (v : Value) (s : List Int) (b : Int) (w : World) (hr : Rd w .u8 v s) (hb : Byt s) (hs : s.length ≤ 9223372036854775807) : Calls Try.prog 3 #[v, .int .i64 b] w fun e w' => e = .returned (.bool true) ∧ Below w.heap.size w w' := by
  have hr0 := hr
  obtain ⟨a, c, rfl, hc, hcell⟩ := hr
  obtain ⟨k, lo, hi, hp⟩ := pnum_agg s b
  have P := parse_c b _ s w hr0 hb hs
  have R := fun w1 (h : Rd w1 .u8 (.slice a s.length c) s) => rparse_c b _ s w1 h hb hs
  rw [hp] at P R
  have HP := Lib.hid P
  have HR := Lib.hid R
  clear P R hp hcell
  go_enter Try.func3, Try.ntmps3
  by_cases h4 : (400 : Int) < s.length
  · go_wp2
    go_ret
    exact ⟨rfl, Below.refl _ _⟩
  · go_wp2_with (first
      | (go_at_call 9; refine (HP.out).mono ?_; rintro e w1 ⟨rfl, hb1⟩)
      | (go_at_call 10; refine (HR.out _ (hr0.below hb1)).mono ?_; rintro e w2 ⟨rfl, hb2⟩)
      | (go_at_call 11; refine (awake_c _).mono ?_; rintro e w3 ⟨rfl, hb3⟩))
    go_ret
    exact ⟨rfl, below_then hb1 hb1.size (hb2.trans (hb3.mono hb2.size))⟩
theorem lmore_walk (lo hi : Int) (v : Value) (s : List Int) (b : Int) (w : World) (hl : Cell lo) (hh : Cell hi) (hr : Rd w .u8 v s) (hb : Byt s) (hs : s.length ≤ 9223372036854775807) : Calls Try.prog 4 #[.int .i64 lo, .int .i64 hi, v, .int .i64 b] w fun e w' => e = .returned (.bool true) ∧ Below w.heap.size w w' := by
  have hr0 := hr
  obtain ⟨a, c, rfl, hc, hcell⟩ := hr
  have HP := Lib.hid (more_c lo hi b _ s w hl hh hr0 hb hs)
  have HR := Lib.hid (rmore_c lo hi b _ s w hl hh hr0 hb hs)
  clear hcell
  go_enter Try.func4, Try.ntmps4
  by_cases h4 : (400 : Int) < s.length
  · go_wp2_with (go_at_call 11; refine (awake_c _).mono ?_; rintro e w3 ⟨rfl, hb3⟩)
    go_ret
    exact ⟨rfl, hb3⟩
  · go_wp2_with (first
      | (go_at_call 12; refine (HP.out).mono ?_; rintro e w1 ⟨rfl, rfl⟩)
      | (go_at_call 13; refine (HR.out).mono ?_; rintro e w2 ⟨rfl, rfl⟩)
      | (go_at_call 11; refine (awake_c _).mono ?_; rintro e w3 ⟨rfl, hb3⟩))
    go_ret
    exact ⟨rfl, hb3⟩
theorem Rd.take {w : World} {k : IntKind} {l : List Int} {a : Option Addr} {n c m : Nat} (h : Rd w k (.slice a n c) l) (hm : m ≤ n) : Rd w k (.slice a m c) (l.take m) := by
  obtain ⟨a', c', e, hc, hr⟩ := h
  injection e with e1 e2 e3
  subst e1 e2 e3
  have hl : (l.take m).length = m := by rw [List.length_take]; omega
  refine ⟨a, c, by rw [hl], by omega, ?_⟩
  rcases hr with h | ⟨g, off, ha, hcl⟩
  · exact .inl (by rw [h]; simp)
  · refine .inr ⟨g, off, ha, fun i hi => ?_⟩
    rw [hl] at hi
    rw [hcl i (by omega)]
    simp [List.getD_eq_getElem?_getD, List.getElem?_take, hi]
theorem Rd.drop {w : World} {k : IntKind} {l : List Int} {g off n c m n' c' : Nat} (h : Rd w k (.slice (some ⟨g, off, none⟩) n c) l) (hm : m ≤ n) (hn : n' = n - m) (hc' : c' = c - m) : Rd w k (.slice (some ⟨g, off + m, none⟩) n' c') (l.drop m) := by
  obtain ⟨a', c', e, hc, hr⟩ := h
  injection e with e1 e2 e3
  subst e1 e2 e3
  subst hn hc'
  refine ⟨_, _, by rw [List.length_drop], by rw [List.length_drop]; omega, ?_⟩
  rcases hr with h | ⟨g', off', ha, hcl⟩
  · exact .inl (by rw [h]; simp)
  · injection ha with ha
    injection ha with h1 h2
    subst h1 h2
    refine .inr ⟨g, off + m, rfl, fun i hi => ?_⟩
    rw [List.length_drop] at hi
    rw [Nat.add_assoc, hcl (m + i) (by omega)]
    simp [List.getD_eq_getElem?_getD]
theorem Rd.empty {w : World} {k : IntKind} {l : List Int} {a : Option Addr} {n c : Nat} (hn : n = 0) (h : l = []) : Rd w k (.slice a n c) l := by
  subst hn h; exact ⟨a, c, rfl, Nat.zero_le _, .inl rfl⟩
theorem lsteps_walk (lo hi : Int) (v : Value) (s : List Int) (cut b : Int) (w : World) (hl : Cell lo) (hh : Cell hi) (hcut : Cell cut) (hr : Rd w .u8 v s) (hb : Byt s) (hs : s.length ≤ 9223372036854775807) : Calls Try.prog 8 #[.int .i64 lo, .int .i64 hi, v, .int .i64 cut, .int .i64 b] w fun e w' => e = .returned (.bool true) ∧ Below w.heap.size w w' := by
  have hr0 := hr
  obtain ⟨a, c, rfl, hc, hcell⟩ := hr
  by_cases h4 : (400 : Int) < s.length ∨ cut < 0 ∨ (s.length : Int) < cut
  · clear hcell
    go_enter Try.func8, Try.ntmps8
    rcases h4 with h | h | h
    · go_wp2_with (go_at_call 11; refine (awake_c _).mono ?_; rintro e w3 ⟨rfl, hb3⟩)
      all_goals go_ret
      all_goals exact ⟨rfl, hb3⟩
    · go_wp2_with (go_at_call 11; refine (awake_c _).mono ?_; rintro e w3 ⟨rfl, hb3⟩)
      all_goals go_ret
      all_goals exact ⟨rfl, hb3⟩
    · by_cases h7 : (400 : Int) < s.length
      · go_wp2_with (go_at_call 11; refine (awake_c _).mono ?_; rintro e w3 ⟨rfl, hb3⟩)
        all_goals go_ret
        all_goals exact ⟨rfl, hb3⟩
      · by_cases h8 : cut < 0
        · go_wp2_with (go_at_call 11; refine (awake_c _).mono ?_; rintro e w3 ⟨rfl, hb3⟩)
          all_goals go_ret
          all_goals exact ⟨rfl, hb3⟩
        · go_wp2_with (go_at_call 11; refine (awake_c _).mono ?_; rintro e w3 ⟨rfl, hb3⟩)
          all_goals go_ret
          all_goals exact ⟨rfl, hb3⟩
  · obtain ⟨k, rfl⟩ := Int.eq_ofNat_of_zero_le (show 0 ≤ cut by omega)
    have h5 : s.length ≤ 400 := by omega
    have h6 : k ≤ s.length := by omega
    rcases hcell with rfl | ⟨g, off, rfl, _⟩
    · have k0 : k = 0 := by simpa using h6
      subst k0
      have Z : ∀ v, Rd w .u8 v [] → Calls Try.prog 12 #[.int .i64 lo, .int .i64 hi, v, .int .i64 b] w fun e w' => e = .returned (.tuple #[.int .i64 lo, .int .i64 hi, .int .i64 0]) ∧ w = w' := fun v h => by
        have := more_c lo hi b v [] w hl hh h (fun x hx => by simp at hx) (by simp)
        rwa [show moN b (UD lo hi) [] = UD lo hi from rfl, (dlo_UD lo hi hl hh).1, (dlo_UD lo hi hl hh).2] at this
      have HZ := Lib.hid Z
      clear Z h4 hcut
      go_enter Try.func8, Try.ntmps8
      go_wp2_with (first
        | (go_at_call 12; with_reducible refine (HZ.out _ (Rd.empty rfl rfl)).mono ?_; rintro e w1 ⟨rfl, rfl⟩)
        | (go_at_call 11; refine (awake_c _).mono ?_; rintro e w3 ⟨rfl, hb3⟩))
      go_ret
      exact ⟨rfl, hb3⟩
    have u0 := UD_bounds lo hi
    have nr := moN_range b (s.take k) (UD lo hi) u0.1 u0.2
    have sp := mo_split b s k (UD lo hi) h6
    have M1 := more_c lo hi b _ s w hl hh hr0 hb hs
    have M2 := more_c lo hi b _ (s.take k) w hl hh (hr0.take h6) (fun x hx => hb x (List.mem_of_mem_take hx)) (by rw [List.length_take]; omega)
    obtain ⟨N, hN⟩ : ∃ x, moN b (UD lo hi) s = x := ⟨_, rfl⟩
    obtain ⟨z, hz⟩ : ∃ x, moU b s = x := ⟨_, rfl⟩
    obtain ⟨N1, hN1⟩ : ∃ x, moN b (UD lo hi) (s.take k) = x := ⟨_, rfl⟩
    obtain ⟨z1, hz1⟩ : ∃ x, moU b (s.take k) = x := ⟨_, rfl⟩
    have zr := moU_range b s
    rw [hz] at zr
    rw [hN, hz] at M1
    rw [hN1, hz1] at M2
    rw [hN1] at nr
    rw [hN, hz, hN1, hz1] at sp
    have HM := Lib.hid M1
    have HT := Lib.hid M2
    by_cases hk : z1 = k
    · have sq := sp.1 hk
      have UN : UD (dlo N1) (dhi N1) = N1 := UD_of N1 nr.1 nr.2
      have HD := Lib.hid (fun (v : Value) (h : Rd w .u8 v (s.drop k)) => more_c (dlo N1) (dhi N1) b v (s.drop k) w (cell_dlo _) (cell_dhi _) h (fun x hx => hb x (List.mem_of_mem_drop hx)) (by rw [List.length_drop]; omega))
      rw [UN, ← sq.1] at HD
      have e1 : moU b (s.drop k) = z - k := by omega
      rw [e1] at HD
      have zk := beq_of hk
      clear h4 hcut M1 M2 sp sq hN hz hN1 hz1 u0 nr e1 UN hk
      go_enter Try.func8, Try.ntmps8
      go_wp2_with (first
        | (go_at_call 12; with_reducible refine (HM.out).mono ?_; rintro e w1 ⟨rfl, rfl⟩)
        | (go_at_call 12; with_reducible refine (HT.out).mono ?_; rintro e w1 ⟨rfl, rfl⟩)
        | (go_at_call 12; refine (HD.out _ (by first | exact hr0.drop h6 (by omega) rfl | exact Rd.empty (by omega) (List.drop_eq_nil_of_le (by omega)))).mono ?_; rintro e w1 ⟨rfl, rfl⟩)
        | (go_at_call 11; refine (awake_c _).mono ?_; rintro e w3 ⟨rfl, hb3⟩))
      all_goals go_ret
      all_goals exact ⟨rfl, hb3⟩
    · have sq := sp.2 hk
      have zk := beq_no hk
      have HQ := Lib.hid sq
      obtain ⟨rfl, rfl⟩ := sq
      clear h4 hcut M1 M2 sp hN hz hN1 hz1 u0 nr hk HQ
      go_enter Try.func8, Try.ntmps8
      go_wp2_with (first
        | (go_at_call 12; with_reducible refine (HM.out).mono ?_; rintro e w1 ⟨rfl, rfl⟩)
        | (go_at_call 12; with_reducible refine (HT.out).mono ?_; rintro e w1 ⟨rfl, rfl⟩)
        | (go_at_call 11; refine (awake_c _).mono ?_; rintro e w3 ⟨rfl, hb3⟩))
      go_ret
      exact ⟨rfl, hb3⟩
end Go.Proofs.Ytjioombinbngpaa
