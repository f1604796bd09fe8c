/- The law StackTwo. -/
import Derived.Test.YticjepfcgfdmgaaZD
namespace Go.Proofs.Yticjepfcgfdmgaa
set_option linter.unusedVariables false
set_option linter.unusedSimpArgs false
open Go.RowKit

theorem all_same {w2 : World} {B b mb : Nat} {v' u' : Value} {l' : List Int} {most over under : Int} (hb : Both w2 B b v' mb u' l' most over under) (hm : most ≤ 100000) :
    ∃ (a' : Option Addr) (n c' : Nat), w2.cell? ⟨mb, 0, none⟩ = some (.slice a' n c') ∧
      Hid (∀ k, Calls Try.prog 10 #[.pointer (some ⟨b, 0, none⟩)] (w2.drewN k) fun e w' => ∃ a3 c3, e = .returned (.slice a3 n c3) ∧ w'.cell? ⟨mb, 0, none⟩ = some (.slice a' n c') ∧ Hid (Below (w2.drewN k).heap.size (w2.drewN k) w') ∧
        Hid (Calls Try.prog 11 #[.slice a3 n c3, .slice a' n c'] w' fun e w4 => e = .returned (.bool true) ∧ Below w'.heap.size w' w4)) := by
  obtain ⟨a', c', rfl, hc⟩ := hb.m.form
  rw [List.length_map] at hb
  have lim := hb.lim
  refine ⟨a', l'.length, c', hb.m.cell.1, Lib.hid fun k => ?_⟩
  have hk := hb.below (below_drewN (Below.refl _ _) k)
  refine (all_c b v' l' most over under B (w2.drewN k) hk.s (by omega)).mono ?_
  rintro e w' ⟨r, rfl, ho, hb2⟩
  have hr : Rd w' .i64 r l' := Rd.of_own ho
  obtain ⟨a3, c3, rfl⟩ := ownsRow_slice ho
  have hr2 : Rd w' .i64 (.slice a' l'.length c') l' := (Rd.of_own hk.m.2.2 : Rd (w2.drewN k) .i64 _ l').below hb2
  exact ⟨a3, c3, rfl, cell_below hb2 hk.m.cell.1, Lib.hid hb2, Lib.hid (same_c _ _ l' w' hr hr2 (by omega))⟩
set_option maxHeartbeats 16000000 in
set_option maxRecDepth 100000 in
theorem ltwo_walk (v0 v1 : Value) (l : List (Int × Int × Int)) (ns : List ByteArray) (w : World) (hr : Rd3 w v0 l) (hn : Rds w v1 ns) : Calls Try.prog 4 #[v0, v1] w fun e w' => e = .returned (.bool true) ∧ Below w.heap.size w w' := by
  have HR := Lib.hid hr
  have HN := Lib.hid hn
  obtain ⟨a, c, rfl, hc, _⟩ := hr
  obtain ⟨a1, c1, rfl, hc1, _⟩ := hn
  obtain ⟨L, hL⟩ : ∃ L, l.length = L := ⟨_, rfl⟩
  obtain ⟨L1, hL1⟩ : ∃ L1, ns.length = L1 := ⟨_, rfl⟩
  have HL := Lib.hid hL
  have HL1 := Lib.hid hL1
  rw [hL] at HR hc ⊢
  rw [hL1] at HN hc1 ⊢
  clear hL hL1
  have AW := Lib.hid (fun w => awake_c w)
  by_cases h4 : (300 : Int) < L
  · go_enter Try.func4, Try.ntmps4
    go_wp2_with (go_at_call 7; (with_reducible refine (AW.out _).mono ?_); rintro e w3 ⟨rfl, hb3⟩)
    go_ret
    exact ⟨rfl, hb3⟩
  · by_cases h5 : (300 : Int) < L1
    · go_enter Try.func4, Try.ntmps4
      go_wp2_with (go_at_call 7; (with_reducible refine (AW.out _).mono ?_); rintro e w3 ⟨rfl, hb3⟩)
      go_ret
      exact ⟨rfl, hb3⟩
    · have hl3 : L ≤ 300 := by omega
      have hl4 : L1 ≤ 300 := by omega
      have N0 := Lib.hid (new_c 50 (-3) (-4) w (by decide) (by decide))
      have N1 := Lib.hid (fun w1 => new_s 1000 (-44) (-45) w1 (by decide) (by decide))
      have MZ : Hid (∀ w1 w2, IStk w1 w.heap.size w.heap.size (.slice none 0 0) [] 50 (-3) (-4) → Below w.heap.size w w1 → (∀ B, B ≤ w1.heap.size → SStk w2 B w1.heap.size (.slice none 0 0) [] 1000 (-44) (-45)) → Below w1.heap.size w1 w2 →
          Tri (w2.alloc (.cells #[.slice none 0 0, .int .i64 50, .int .i64 (-3), .int .i64 (-4)] 39 (0, 0))) w.heap.size w.heap.size (.slice none 0 0) w2.heap.size (.slice none 0 0) [] w1.heap.size (.slice none 0 0) [] ∧ Below w.heap.size w (w2.alloc (.cells #[.slice none 0 0, .int .i64 50, .int .i64 (-3), .int .i64 (-4)] 39 (0, 0)))) := by
        refine Lib.hid fun w1 w2 s1 hb s2 hb2 => ?_
        have b2 := below_then hb hb.size hb2
        have ba : Below w2.heap.size w2 (w2.alloc (.cells #[.slice none 0 0, .int .i64 50, .int .i64 (-3), .int .i64 (-4)] 39 (0, 0))) := (Below.refl _ _).alloc (Nat.le_refl _) _
        refine ⟨⟨⟨(s1.below hb2).below ba, ⟨heap_alloc_new w2 _, b2.size, World.ownsRow_nil _ _ _ _⟩, fun g h => (by cases h), by decide⟩, (s2 w.heap.size hb.size).below ba, Nat.le_trans b2.size ba.size⟩, b2.alloc b2.size _⟩
      go_enter Try.func4, Try.ntmps4
      go_wp2_with (first
        | (go_at_call 8; (with_reducible refine (N0.out).mono ?_); rintro e w1 ⟨rfl, hs, hb1⟩; have S1 := Lib.hid (hs w.heap.size (Nat.le_refl _)); clear hs)
        | (go_at_call 12; (with_reducible refine (N1.out _).mono ?_); rintro e w2 ⟨rfl, hs2, hb2⟩; have S2 := Lib.hid (MZ.out w1 w2 S1.out hb1 hs2 hb2); clear hs2))
      go_loopw [10] (fun x wr => ∃ (i : Nat) (v u sv : Value) (l' : List Int), (i ≤ L ∨ i ≤ L1) ∧ x = .int .i64 i ∧ Below w.heap.size w wr ∧ Hid (Tri wr w.heap.size w.heap.size v w2.heap.size u l' w1.heap.size sv (ns.take i))) (fun x _ => L + L1 - (intOf x).toNat)
      case atStart => exact ⟨0, _, _, _, _, .inl (Nat.zero_le _), rfl, S2.out.2, Lib.hid S2.out.1⟩
      case round =>
        obtain ⟨i, v, u, sv, l', hi, rfl, hbw, HS⟩ := hrel
        obtain ⟨mb, hmb⟩ : ∃ mb, w2.heap.size = mb := ⟨_, rfl⟩
        obtain ⟨sb, hsb2⟩ : ∃ sb, w1.heap.size = sb := ⟨_, rfl⟩
        rw [hmb, hsb2] at HS
        rw [hmb, hsb2]
        clear S1 S2 hb1 hb2 MZ N0 N1
        have hys : Hid ((ns.take i).length ≤ 300) := Lib.hid (by rw [List.length_take]; have := HL1.out; omega)
        by_cases h1 : i < L
        · obtain ⟨g, off, rfl, k0, k1, k2⟩ := (HR.out.below hbw).at_ (i := i) (by have := HL.out; omega)
          obtain ⟨⟨K, X, Y⟩, hk⟩ : ∃ k, l.getD i (0, 0, 0) = k := ⟨_, rfl⟩
          rw [hk] at k0 k1 k2
          clear hk
          have DOES := Lib.hid (tri_does K X Y HS.out)
          by_cases h2 : i < L1
          · obtain ⟨g2, off2, rfl, q0⟩ := (HN.out).at_ (i := i) (by have := HL1.out; omega)
            have TM := Lib.hid (take_more ns i (by have := HL1.out; omega))
            obtain ⟨q, hq⟩ : ∃ q, ns.getD i ByteArray.empty = q := ⟨_, rfl⟩
            rw [hq] at q0 TM
            clear hq
            have CQ := Lib.hid (fun w' (hb : Below w.heap.size w w') => cell_below hb q0)
            have PUSH := Lib.hid (fun w' v u l' (h : Tri w' w.heap.size w.heap.size v mb u l' sb sv (ns.take i)) => tri_push q h hys.out)
            go_wp2_with (first
              | (go_at_call 13; (with_reducible refine (DOES.out).mono ?_); rintro e w3 ⟨rfl, v3, u3, l3, HT3, hb3⟩; have hbw3 := hbw.trans hb3; have q3 := CQ.out w3 hbw3)
              | (go_at_call 14; (with_reducible refine (PUSH.out _ _ _ _ HT3.out).mono ?_); rintro e w4 ⟨rfl, sv4, HT4, hb4⟩; have hbw4 := hbw3.trans hb4))
            go_roundw
            case rel => exact ⟨i + 1, v3, u3, sv4, l3, by omega, by go_num, hbw4, Lib.hid (by have := HT4.out; rwa [TM.out] at this)⟩
            case measure => simp [intOf]; omega
          · have TM := Lib.hid (take_same ns i (by have := HL1.out; omega))
            go_wp2_with (go_at_call 13; (with_reducible refine (DOES.out).mono ?_); rintro e w3 ⟨rfl, v3, u3, l3, HT3, hb3⟩; have hbw3 := hbw.trans hb3)
            go_roundw
            case rel => exact ⟨i + 1, v3, u3, sv, l3, by omega, by go_num, hbw3, Lib.hid (by have := HT3.out; rwa [TM.out] at this)⟩
            case measure => simp [intOf]; omega
        · by_cases h2 : i < L1
          · obtain ⟨g2, off2, rfl, q0⟩ := (HN.out.below hbw).at_ (i := i) (by have := HL1.out; omega)
            have TM := Lib.hid (take_more ns i (by have := HL1.out; omega))
            obtain ⟨q, hq⟩ : ∃ q, ns.getD i ByteArray.empty = q := ⟨_, rfl⟩
            rw [hq] at q0 TM
            clear hq
            have PUSH := Lib.hid (tri_push q HS.out hys.out)
            go_wp2_with (go_at_call 14; (with_reducible refine (PUSH.out).mono ?_); rintro e w4 ⟨rfl, sv4, HT4, hb4⟩; have hbw4 := hbw.trans hb4)
            go_roundw
            case rel => exact ⟨i + 1, v, u, sv4, l', by omega, by go_num, hbw4, Lib.hid (by have := HT4.out; rwa [TM.out] at this)⟩
            case measure => simp [intOf]; omega
          · have HT : Hid (Tri wr w.heap.size w.heap.size v mb u l' sb sv ns) := Lib.hid (by have := HS.out; rwa [List.take_of_length_le (by have := HL1.out; omega)] at this)
            have AS := Lib.hid (all_s sb sv ns 1000 (-44) (-45) w.heap.size wr HT.out.2.1 (by have := HL1.out; omega))
            have AF : Hid (∀ w5 u5, w5.ownsRow wr.heap.size 9 1 u5 ns.length (ns.map Value.string) → Below wr.heap.size wr w5 → Below w.heap.size w w5 ∧ Rds w5 u5 ns ∧ Rds w5 (.slice a1 L1 c1) ns ∧ Tri w5 w.heap.size w.heap.size v mb u l' sb sv ns) :=
              Lib.hid fun w5 u5 ho hb => ⟨below_then hbw hbw.size hb, Rds.of_own ho, HN.out.below (below_then hbw hbw.size hb), HT.out.below hb⟩
            go_wp2_with (go_at_call 15; (with_reducible refine (AS.out).mono ?_); rintro e w5 ⟨u5, rfl, ho5, hb5⟩; have F5 := Lib.hid (AF.out w5 u5 ho5 hb5); rw [HL1.out] at ho5; obtain ⟨a5, c5, rfl⟩ := ownsRow_slice ho5; clear ho5 hb5)
            have hbw5 := F5.out.1
            obtain ⟨a6, n6, c6, m6, HA⟩ := all_same F5.out.2.2.2.1 (by decide)
            have PK : Hid (∀ (n i p : Nat), i < L1 → p + i + 1 = L1 → Calls Try.prog 16 #[.pointer (some ⟨sb, 0, none⟩), .int .i64 p] (w5.drewN n) fun e w' => e = .returned (.tuple #[.string (ns.getD i ByteArray.empty), .int .i64 0]) ∧ w5.drewN n = w') := by
              refine Lib.hid fun n i p hi hp => ?_
              have := peek_s sb sv ns 1000 (-44) (-45) p w.heap.size (w5.drewN n) (F5.out.2.2.2.2.1.below (below_drewN (Below.refl _ _) n)) (by have := HL1.out; omega) (by have := HL1.out; omega)
              rw [show ns.length - 1 - p = i by have := HL1.out; omega] at this
              exact this
            clear HT AS AF HS
            go_loopw [12] (fun x wr => ∃ (j n : Nat), j ≤ L1 ∧ x = .int .i64 j ∧ wr = w5.drewN n) (fun x _ => L1 - (intOf x).toNat)
            case atStart => exact ⟨0, 0, Nat.zero_le _, rfl, rfl⟩
            case round =>
              obtain ⟨j, n, hj, rfl, rfl⟩ := hrel
              by_cases hjl : j < L1
              · obtain ⟨g2, off2, rfl, q0⟩ := F5.out.2.2.1.at_ (i := j) (by have := HL1.out; omega)
                obtain ⟨g5, off5, rfl, r0⟩ := F5.out.2.1.at_ (i := j) (by have := HL1.out; omega)
                obtain ⟨p, hp⟩ : ∃ p, L1 - 1 - j = p := ⟨_, rfl⟩
                have P := PK.out n j p hjl (by omega)
                obtain ⟨q, hq⟩ : ∃ q, ns.getD j ByteArray.empty = q := ⟨_, rfl⟩
                rw [hq] at q0 r0 P
                have HP := Lib.hid P
                clear P hq
                have i1 : IntKind.i64.wrap ((L1 : Int) - 1) = (L1 : Int) - 1 := IntWalk.i64_in _ (by omega)
                have i2 : IntKind.i64.wrap ((L1 : Int) - 1 - j) = (p : Int) := by rw [IntWalk.i64_in _ (by omega)]; omega
                clear hp
                go_wp2_with (go_at_call 16; (with_reducible refine (HP.out).mono ?_); rintro e w' ⟨rfl, rfl⟩)
                go_big_region
                all_goals
                  go_wp2_with fail
                  go_roundw
                  case rel => exact ⟨j + 1, n + 1, by omega, by go_num, rfl⟩
                  case measure => simp [intOf]; omega
              · have HA2 := Lib.hid (HA.out (n + 1))
                go_wp2_with fail
                go_region_with (first
                  | (go_at_call 10; (refine (HA2.out).mono ?_); rintro e w6 ⟨a7, c7, rfl, m7, HB7, HSM⟩)
                  | (go_at_call 11; (with_reducible refine (HSM.out).mono ?_); rintro e w7 ⟨rfl, hb7⟩)
                  | (go_at_call 7; (with_reducible refine (AW.out _).mono ?_); rintro e w8 ⟨rfl, hb8⟩))
                all_goals
                  go_wp2_with fail
                  go_ret
                  have b1 := below_drewN hbw5 (n + 1)
                  have b2 := below_then b1 b1.size HB7.out
                  have b3 := below_then b2 b2.size hb7
                  exact ⟨rfl, below_then b3 b3.size hb8⟩
end Go.Proofs.Yticjepfcgfdmgaa
