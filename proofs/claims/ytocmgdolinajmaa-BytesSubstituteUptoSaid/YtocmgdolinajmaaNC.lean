/- The law BytesSubstitute. -/
import Derived.Test.YtocmgdolinajmaaNB
namespace Go.Proofs.Ytocmgdolinajmaa
set_option linter.unusedVariables false
set_option linter.unusedSimpArgs false
open Go.RowKit

theorem tot_mem {ls : List (List Int × List Int)} {p : List Int × List Int} (h : p ∈ ls) : 1 + p.1.length + p.2.length ≤ tot ls := by
  induction ls with
  | nil => cases h
  | cons q r ih =>
    unfold tot at ih ⊢
    simp only [List.map_cons, List.sum_cons]
    rcases List.mem_cons.1 h with rfl | h
    · omega
    · have := ih h; omega
theorem byt_join {a b : List Int} (ha : Byt a) (hb : Byt b) : Byt (a ++ b) := fun x hx => (List.mem_append.1 hx).elim (ha x) (hb x)
theorem byt_37 : Byt [37] := fun x hx => by rw [List.mem_singleton.1 hx]; decide
theorem find_byt {nm : List Int} : ∀ {ls : List (List Int × List Int)} {tx : List Int}, (∀ p ∈ ls, Byt p.2) → findV nm ls = some tx → Byt tx
  | (n, t) :: r, tx, h, hf => by
    unfold findV at hf
    split at hf
    · injection hf with hf
      rw [← hf]
      exact h _ (List.mem_cons_self ..)
    · exact find_byt (fun p hp => h p (List.mem_cons_of_mem _ hp)) hf
theorem sub_byt (ls : List (List Int × List Int)) (h : ∀ p ∈ ls, Byt p.2) : ∀ (n : Nat) (s : List Int), s.length ≤ n → Byt s → Byt (sub ls s).1
  | _, [], _, _ => by rw [sub_nil]; exact fun x hx => by simp at hx
  | 0, x :: t, hn, _ => by simp at hn
  | n + 1, x :: t, hn, hs => by
    simp only [List.length_cons] at hn
    have ih := sub_byt ls h n
    have ht : Byt t := fun y hy => hs y (List.mem_cons_of_mem _ hy)
    have hd : ∀ k, Byt (t.drop k) := fun k y hy => ht y (List.mem_of_mem_drop hy)
    by_cases hx : x = 37
    · subst hx
      rcases idx_cases 37 t with ⟨h1, h2⟩ | ⟨i, h1, h2, h3, h4⟩
      · rw [sub_end ls h1]
        exact byt_join byt_37 (ih t (by omega) ht)
      · by_cases h0 : i = 0
        · subst h0
          rw [sub_two ls h1]
          exact byt_join byt_37 (ih (t.drop 1) (by rw [List.length_drop]; omega) (hd 1))
        · rw [sub_name ls h1 h0]
          have g := ih (t.drop (i + 1)) (by rw [List.length_drop]; omega) (hd _)
          cases hf : findV (t.take i) ls with
          | some tx => exact byt_join (find_byt h hf) g
          | none => exact byt_join (byt_join byt_37 (fun y hy => ht y (List.mem_of_mem_take hy))) g
    · rw [sub_char ls hx]
      exact byt_join (a := [x]) (fun y hy => by rw [List.mem_singleton.1 hy]; exact hs x (List.mem_cons_self ..)) (ih t (by omega) ht)
theorem subV_byt {ls : List (List Int × List Int)} {n : Int} {s : List Int} (h : ∀ p ∈ ls, Byt p.2) (hs : Byt s) : Byt (subV ls n s).1 := by
  unfold subV
  split
  · exact fun x hx => by simp at hx
  · exact sub_byt ls h _ s (Nat.le_refl _) hs
set_option maxRecDepth 100000 in
set_option maxHeartbeats 8000000 in
theorem lsub_walk (u v : Value) (S : List Int) (ls : List (List Int × List Int)) (n : Int) (w : World) (hu : Rd w .u8 u S) (hv : Pm w v ls) (bS : Byt S) (hb : ∀ p ∈ ls, Byt p.1 ∧ Byt p.2) (ht : tot ls ≤ 1048576) (hn : -9223372036854775808 ≤ n ∧ n ≤ 9223372036854775807) :
    Calls Try.prog 6 #[u, .int .i64 n, v] w fun e w' => e = .returned (.bool true) ∧ Below w.heap.size w w' := by
  have HU := Lib.hid hu
  have HV := Lib.hid hv
  have PC := Lib.hid (pairs_c v ls w hv ht)
  have AW := Lib.hid (fun w => awake_c w)
  obtain ⟨au, cu, rfl, hcu, _⟩ := hu
  obtain ⟨av, cv, rfl, hcv, _⟩ := hv
  obtain ⟨L, hL⟩ : ∃ L, S.length = L := ⟨_, rfl⟩
  have HL := Lib.hid hL
  obtain ⟨M, hM⟩ : ∃ M, ls.length = M := ⟨_, rfl⟩
  rw [hL] at HU hcu ⊢
  rw [hM] at HV hcv PC ⊢
  by_cases h1 : tot ls ≤ 400
  · have PC1 : Hid (Calls Try.prog 15 #[.slice av M cv] w fun e w' => ∃ a1 c1 a2 c2, e = .returned (.tuple #[.slice a1 M c1, .slice a2 M c2, .bool true]) ∧ Below w.heap.size w w' ∧ Hid (Pm w' (.slice a1 M c1) ls ∧ Pm w' (.slice a2 M c2) ls)) := by
      refine Lib.hid (PC.out.mono ?_)
      rintro e w' ⟨hb, a1, c1, a2, c2, he, h⟩
      rw [decide_eq_true h1] at he
      exact ⟨a1, c1, a2, c2, he, hb, h⟩
    by_cases h2 : (400 : Int) < L
    · clear hL hM bS hb ht PC
      go_enter Try.func6, Try.ntmps6
      go_wp2_with (first
        | (go_at_call 15; (with_reducible refine (PC1.out).mono ?_); rintro e w1 ⟨a1, c1, a2, c2, rfl, hb1, HPM⟩)
        | (go_at_call 8; (with_reducible refine (AW.out _).mono ?_); rintro e w2 ⟨rfl, hb2⟩))
      go_ret
      exact ⟨rfl, below_then hb1 hb1.size hb2⟩
    · have hg : Good ls := fun p hp => ⟨(hb p hp).1, (hb p hp).2, by have := tot_mem hp; omega, by have := tot_mem hp; omega⟩
      have hls : ls.length ≤ 1000000 := by have := tot_len ls; omega
      have hS : S.length ≤ 400 := by omega
      have LT : Hid (∀ w', Below w.heap.size w w' → Calls Try.prog 9 #[.slice au L cu] w' fun e w2 => ∃ a c, e = .returned (.slice a L c) ∧ Hid (Lent w2 (.slice a L c) S) ∧ Below w'.heap.size w' w2) := by
        refine Lib.hid fun w' h => (lent_c _ S w' (HU.out.below h) (by omega)).mono ?_
        rintro e w2 ⟨r, rfl, hl, hb2⟩
        obtain ⟨a, c, rfl⟩ := hl.rd.len
        rw [hL] at hl ⊢
        exact ⟨a, c, rfl, Lib.hid hl, hb2⟩
      obtain ⟨X, hX⟩ : ∃ X, subV ls n S = X := ⟨_, rfl⟩
      have PS1 := Lib.hid (fun w' (p x : Value) (h1 : Rd w' .u8 p S) (h2 : Pm w' x ls) => psub_c p x S ls n w' h1 h2 bS hg hS hls hn)
      have RS1 := Lib.hid (fun w' (p x : Value) (h1 : Rd w' .u8 p S) (h2 : Pm w' x ls) => rsub_c p x S ls n w' h1 h2 bS hg hS hls hn)
      rw [hX] at PS1 RS1
      have BX : Hid (Byt X.1) := Lib.hid (by rw [← hX]; exact subV_byt (fun p hp => (hb p hp).2) bS)
      have SY := Lib.hid (fun w' (p q : Value) (h1 : Rd w' .u8 p X.1) (h2 : Rd w' .u8 q X.1) => same_yes p q X.1 w' h1 h2 BX.out)
      have BK := Lib.hid (fun w' (p : Value) (h1 : Lent w' p S) (h2 : Rd w' .u8 (.slice au L cu) S) => back_c p _ S w' h1 h2 bS (by omega))
      clear hL hM bS hb ht PC hg hls hS hX
      go_enter Try.func6, Try.ntmps6
      go_wp2_with (first
        | (go_at_call 15; (with_reducible refine (PC1.out).mono ?_); rintro e w1 ⟨a1, c1, a2, c2, rfl, hb1, HPM⟩)
        | (go_at_call 9; (with_reducible refine (LT.out _ hb1).mono ?_); rintro e w2 ⟨a3, c3, rfl, HLT, hb2⟩; have hbw2 := below_then hb1 hb1.size hb2)
        | (go_at_call 16; (with_reducible refine (PS1.out _ _ _ HLT.out.rd (HPM.out.1.below hb2)).mono ?_); rintro e w3 ⟨hb3, r3, rfl, R3⟩; have hbw3 := below_then hbw2 hbw2.size hb3; obtain ⟨x3, y3, rfl⟩ := R3.len; have HR3 := Lib.hid R3; clear R3)
        | (go_at_call 17; (with_reducible refine (RS1.out _ _ _ (HU.out.below hbw3) ((HPM.out.2.below hb2).below hb3)).mono ?_); rintro e w4 ⟨hb4, r4, rfl, R4⟩; have hbw4 := below_then hbw3 hbw3.size hb4; obtain ⟨x4, y4, rfl⟩ := R4.len; have HR4 := Lib.hid R4; clear R4)
        | (go_at_call 12; (with_reducible refine (SY.out _ _ _ (HR3.out.below hb4) HR4.out).mono ?_); rintro e w' ⟨rfl, rfl⟩)
        | (go_at_call 13; (with_reducible refine (BK.out _ _ ((HLT.out.below hb3).below hb4) (HU.out.below hbw4)).mono ?_); rintro e w5 ⟨rfl, hb5⟩)
        | (go_at_call 8; (with_reducible refine (AW.out _).mono ?_); rintro e w6 ⟨rfl, hb6⟩))
      go_ret
      exact ⟨rfl, below_then (below_then hbw4 hbw4.size hb5) (below_then hbw4 hbw4.size hb5).size hb6⟩
  · have PC1 : Hid (Calls Try.prog 15 #[.slice av M cv] w fun e w' => ∃ a1 c1 a2 c2, e = .returned (.tuple #[.slice a1 M c1, .slice a2 M c2, .bool false]) ∧ Below w.heap.size w w') := by
      refine Lib.hid (PC.out.mono ?_)
      rintro e w' ⟨hb, a1, c1, a2, c2, he, h⟩
      rw [decide_eq_false h1] at he
      exact ⟨a1, c1, a2, c2, he, hb⟩
    clear hL hM bS hb ht PC
    go_enter Try.func6, Try.ntmps6
    go_wp2_with (first
      | (go_at_call 15; (with_reducible refine (PC1.out).mono ?_); rintro e w1 ⟨a1, c1, a2, c2, rfl, hb1⟩)
      | (go_at_call 8; (with_reducible refine (AW.out _).mono ?_); rintro e w2 ⟨rfl, hb2⟩))
    go_ret
    exact ⟨rfl, below_then hb1 hb1.size hb2⟩
end Go.Proofs.Ytocmgdolinajmaa
