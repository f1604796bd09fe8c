/- The law BytesBack. -/
import Derived.Test.YtocmgdolinajmaaDoorCH
import Derived.Test.YtocmgdolinajmaaDoorND
namespace Go.Proofs.YtocmgdolinajmaaDoor
set_option linter.unusedVariables false
set_option linter.unusedSimpArgs false
open Go.RowKit

theorem tot_mem {ls : List (List Int × List Int)} {p : List Int × List Int} (h : p ∈ ls) : 1 + p.1.length + p.2.length ≤ tot ls := by
  induction ls with
  | nil => cases h
  | cons q r ih =>
    unfold tot at ih ⊢
    simp only [List.map_cons, List.sum_cons]
    rcases List.mem_cons.1 h with rfl | h
    · omega
    · have := ih h; omega
/-- A doubled text is given back. -/
theorem sub_dbl (ls : List (List Int × List Int)) : ∀ a : List Int, sub ls (dbl a) = (a, 0)
  | [] => rfl
  | x :: a => by
    have ih := sub_dbl ls a
    by_cases hx : x = 37
    · subst hx
      have e : dbl (37 :: a) = 37 :: 37 :: dbl a := by rw [dbl, if_pos rfl]
      rw [e, sub_two ls (t := 37 :: dbl a) (by simp [idxB])]
      show (37 :: (sub ls (dbl a)).1, (sub ls (dbl a)).2) = _
      rw [ih]
    · have e : dbl (x :: a) = x :: dbl a := by rw [dbl, if_neg hx]
      rw [e, sub_char ls hx, ih]
theorem subV_dbl (ls : List (List Int × List Int)) (n : Int) (a : List Int) : subV ls n (dbl a) = if n < a.length then ([], -78) else (a, 0) := by
  unfold subV
  rw [sub_dbl]
  by_cases h : n < a.length
  · rw [if_pos (.inr h), if_pos h]
  · rw [if_neg (by rintro (h1 | h1) <;> first | (exact h h1) | omega), if_neg h]
    rfl
set_option maxRecDepth 100000 in
set_option maxHeartbeats 8000000 in
theorem lback_walk (u v : Value) (S : List Int) (ls : List (List Int × List Int)) (n : Int) (w : World) (hsh : w.ShapedOpen Tryd.prog) (hu : Rd w .u8 u S) (hv : Pm w v ls) (bS : Byt S) (hb : ∀ p ∈ ls, Byt p.1 ∧ Byt p.2) (ht : tot ls ≤ 1048576) (hn : -9223372036854775808 ≤ n ∧ n ≤ 9223372036854775807) :
    Calls Tryd.prog 5 #[u, v, .int .i64 n] w fun e w' => e = .returned (.bool true) ∧ Below w.heap.size w w' := by
  have HU := Lib.hid hu
  have PC := Lib.hid (pairs_c v ls w hv ht)
  have AW := Lib.hid (fun w => awake_c w)
  obtain ⟨au, cu, rfl, hcu, _⟩ := hu
  obtain ⟨av, cv, rfl, hcv, _⟩ := hv
  obtain ⟨L, hL⟩ : ∃ L, S.length = L := ⟨_, rfl⟩
  obtain ⟨M, hM⟩ : ∃ M, ls.length = M := ⟨_, rfl⟩
  rw [hL] at HU hcu ⊢
  rw [hM] at hcv PC ⊢
  by_cases h1 : tot ls ≤ 400
  · have PC1 : Hid (Calls Tryd.prog 20 #[.slice av M cv] w fun e w' => ∃ a1 c1 a2 c2, e = .returned (.tuple #[.slice a1 M c1, .slice a2 M c2, .bool true]) ∧ Below w.heap.size w w' ∧ Hid (Pm w' (.slice a1 M c1) ls ∧ Pm w' (.slice a2 M c2) ls)) := by
      refine Lib.hid (PC.out.mono ?_)
      rintro e w' ⟨hb, a1, c1, a2, c2, he, h⟩
      rw [decide_eq_true h1] at he
      exact ⟨a1, c1, a2, c2, he, hb, h⟩
    by_cases h2 : (400 : Int) < L
    · clear hL hM bS hb ht PC hsh
      go_enter Tryd.func5, Tryd.ntmps5
      go_wp2_with (first
        | (go_at_call 20; (with_reducible refine (PC1.out).mono ?_); rintro e w1 ⟨a1, c1, a2, c2, rfl, hb1, HPM⟩)
        | (go_at_call 6; (with_reducible refine (AW.out _).mono ?_); rintro e w2 ⟨rfl, hb2⟩))
      go_ret
      exact ⟨rfl, below_then hb1 hb1.size hb2⟩
    · have hg : Good ls := fun p hp => ⟨(hb p hp).1, (hb p hp).2, by have := tot_mem hp; omega, by have := tot_mem hp; omega⟩
      have hls : ls.length ≤ 1000000 := by have := tot_len ls; omega
      have hS : S.length ≤ 400 := by omega
      have hD : (dbl S).length ≤ 800 := by have := dbl_len S; have := cnt_le S; omega
      have UN : Hid (∀ w1, Below w.heap.size w w1 → Calls Tryd.prog 8 #[.slice au L cu] w1 fun e w' => ∃ r, e = .returned r ∧ Hid (Rd w' .u8 r (dbl S)) ∧ Below w1.heap.size w1 w') := Lib.hid (fun w1 b1 => by
        refine (punesc_c _ S w1 (shaped_below hsh b1) (HU.out.below b1) bS hS).mono ?_
        rintro e w' ⟨v2, rfl, h1, h2⟩
        exact ⟨v2, rfl, Lib.hid (Rd.of_own h1), h2⟩)
      have PS1 := Lib.hid (fun w' (p x : Value) (h1 : Rd w' .u8 p (dbl S)) (h2 : Pm w' x ls) => psub_c p x (dbl S) ls n w' h1 h2 (byt_dbl bS) hg hD hls hn)
      rw [subV_dbl] at PS1
      rw [hL] at PS1
      have SY := Lib.hid (fun w' (p q : Value) (h1 : Rd w' .u8 p S) (h2 : Rd w' .u8 q S) => same_yes p q S w' h1 h2 bS)
      by_cases h3 : n < (L : Int)
      · rw [if_pos h3] at PS1
        have PS2 : Hid (∀ w' (p x : Value), Rd w' .u8 p (dbl S) → Pm w' x ls → Calls Tryd.prog 21 #[p, .int .i64 n, x] w' fun e w2 => ∃ a4 c4, e = .returned (.tuple #[.slice a4 0 c4, .int .i64 (-78)]) ∧ Below w'.heap.size w' w2) := Lib.hid (fun w' p x h1 h2 => by
          refine (PS1.out w' p x h1 h2).mono ?_
          rintro e w2 ⟨hb, r, rfl, hr⟩
          obtain ⟨a4, c4, rfl⟩ := hr.len
          exact ⟨a4, c4, rfl, hb⟩)
        clear hL hM bS hb ht PC hg hls hS hD PS1 hsh SY
        go_enter Tryd.func5, Tryd.ntmps5
        go_wp2_with (first
          | (go_at_call 20; (with_reducible refine (PC1.out).mono ?_); rintro e w1 ⟨a1, c1, a2, c2, rfl, hb1, HPM⟩)
          | (go_at_call 8; (with_reducible refine (UN.out _ hb1).mono ?_); rintro e w2 ⟨r2, rfl, R2, hb2⟩)
          | (go_at_call 21; (with_reducible refine (PS2.out _ _ _ R2.out (HPM.out.1.below hb2)).mono ?_); rintro e w3 ⟨a4, c4, rfl, hb3⟩)
          | (go_at_call 6; (with_reducible refine (AW.out _).mono ?_); rintro e w6 ⟨rfl, hb6⟩))
        go_ret
        have z2 := below_then hb1 hb1.size hb2
        have z3 := below_then z2 z2.size hb3
        exact ⟨rfl, below_then z3 z3.size hb6⟩
      · rw [if_neg h3] at PS1
        have PS2 : Hid (∀ w' (p x : Value), Rd w' .u8 p (dbl S) → Pm w' x ls → Calls Tryd.prog 21 #[p, .int .i64 n, x] w' fun e w2 => ∃ a4 c4, e = .returned (.tuple #[.slice a4 L c4, .int .i64 0]) ∧ Hid (Rd w2 .u8 (.slice a4 L c4) S) ∧ Below w'.heap.size w' w2) := Lib.hid (fun w' p x h1 h2 => by
          refine (PS1.out w' p x h1 h2).mono ?_
          rintro e w2 ⟨hb, r, rfl, hr⟩
          obtain ⟨a4, c4, rfl⟩ := hr.len
          rw [hL] at hr ⊢
          exact ⟨a4, c4, rfl, Lib.hid hr, hb⟩)
        clear hL hM bS hb ht PC hg hls hS hD PS1 hsh
        go_enter Tryd.func5, Tryd.ntmps5
        go_wp2_with (first
          | (go_at_call 20; (with_reducible refine (PC1.out).mono ?_); rintro e w1 ⟨a1, c1, a2, c2, rfl, hb1, HPM⟩)
          | (go_at_call 8; (with_reducible refine (UN.out _ hb1).mono ?_); rintro e w2 ⟨r2, rfl, R2, hb2⟩; have z2 := below_then hb1 hb1.size hb2)
          | (go_at_call 21; (with_reducible refine (PS2.out _ _ _ R2.out (HPM.out.1.below hb2)).mono ?_); rintro e w3 ⟨a4, c4, rfl, R4, hb3⟩; have z3 := below_then z2 z2.size hb3)
          | (go_at_call 9; (with_reducible refine (SY.out _ _ _ R4.out (HU.out.below z3)).mono ?_); rintro e w' ⟨rfl, rfl⟩)
          | (go_at_call 6; (with_reducible refine (AW.out _).mono ?_); rintro e w6 ⟨rfl, hb6⟩))
        go_ret
        exact ⟨rfl, below_then z3 z3.size hb6⟩
  · have PC1 : Hid (Calls Tryd.prog 20 #[.slice av M cv] w fun e w' => ∃ a1 c1 a2 c2, e = .returned (.tuple #[.slice a1 M c1, .slice a2 M c2, .bool false]) ∧ Below w.heap.size w w') := by
      refine Lib.hid (PC.out.mono ?_)
      rintro e w' ⟨hb, a1, c1, a2, c2, he, h⟩
      rw [decide_eq_false h1] at he
      exact ⟨a1, c1, a2, c2, he, hb⟩
    clear hL hM bS hb ht PC hsh
    go_enter Tryd.func5, Tryd.ntmps5
    go_wp2_with (first
      | (go_at_call 20; (with_reducible refine (PC1.out).mono ?_); rintro e w1 ⟨a1, c1, a2, c2, rfl, hb1⟩)
      | (go_at_call 6; (with_reducible refine (AW.out _).mono ?_); rintro e w2 ⟨rfl, hb2⟩))
    go_ret
    exact ⟨rfl, below_then hb1 hb1.size hb2⟩
end Go.Proofs.YtocmgdolinajmaaDoor
