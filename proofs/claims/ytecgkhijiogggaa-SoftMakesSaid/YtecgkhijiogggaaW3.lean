/- The program's Make, of more than four words. -/
import Derived.Test.YtecgkhijiogggaaW2
import Derived.BigQuiet
import Derived.Deep.QuietTactic
namespace Go.Proofs.Ytecgkhijiogggaa
set_option linter.unusedVariables false
set_option linter.unusedSimpArgs false
open Go.RowKit Go.Shelf Go.ChangeShapes Go.WideShapes SF

def MakeRel (w1 : World) (l : List Int) (q : Nat) (v7 v29 : Value) (wr : World) : Prop := ∃ k : Nat, k ≤ q ∧ v7 = .bool (some0 l k) ∧ v29 = .int .i64 (k : Int) ∧ wr = w1
set_option maxRecDepth 100000 in
set_option maxHeartbeats 8000000 in
theorem pmake_great (neg : Bool) (a : Option Addr) (n c M V s q r : Nat) (e b S hi lo x0 x1 x2 x3 R m : Int) (rest1 : Bool) (w : World) (HN : Hid (Calls Try.prog 103 #[.slice a n c] w fun e w' => ∃ v, e = .returned v ∧ Nw w' v M ∧ Below w.heap.size w w'))
    (HL : Hid (∀ (w1 : World) (a1 : Option Addr) (n1 c1 : Nat), Nw w1 (.slice a1 n1 c1) M → n1 ≤ 1000 ∧ q < n1)) (HB : Hid (∀ (w1 : World) (a1 : Option Addr) (n1 c1 : Nat), Nw w1 (.slice a1 n1 c1) M → Calls Try.prog 104 #[.slice a1 n1 c1] w1 fun e w' => e = .returned (.int .i64 b) ∧ w1 = w')) (hb : 128 < b ∧ b ≤ 32000) (hS : b - 128 = S) (hS0 : 0 < S ∧ S ≤ 32000)
    (q0 : S / 32 = (q : Int)) (r0 : S % 32 = (r : Int)) (hr : r < 32) (hq : q ≤ 1000)
    (HG : Hid (∀ k, 0 ≤ (ws M).getD k 0 ∧ (ws M).getD k 0 < 4294967296)) (HSU : Hid (∀ k, some0 (ws M) (k + 1) = (some0 (ws M) k || ((ws M).getD k 0 != 0)))) (HS0 : Hid (some0 (ws M) 0 = false))
    (hx : bits .and .u32 ((ws M).getD q 0) ((2 ^ r - 1) % 4294967296) = m) (HR : Hid ((some0 (ws M) q || (m != 0)) = rest1))
    (HSh : Hid (∀ (w1 : World) (a1 : Option Addr) (n1 c1 : Nat), Nw w1 (.slice a1 n1 c1) M → Calls Try.prog 105 #[.slice a1 n1 c1, .int .i64 (-S)] w1 fun e w' => ∃ v, e = .returned (.tuple #[v, .int .i64 0]) ∧ Nw w' v V ∧ Below w1.heap.size w1 w'))
    (HL2 : Hid (∀ (w1 : World) (a1 : Option Addr) (n1 c1 : Nat), Nw w1 (.slice a1 n1 c1) V → n1 ≤ 4))
    (HX : Hid (∀ i, i < 4 → (ws V).getD i 0 = [x0, x1, x2, x3].getD i 0)) (b0 : 0 ≤ x0 ∧ x0 < 4294967296) (b1 : 0 ≤ x1 ∧ x1 < 4294967296) (b2 : 0 ≤ x2 ∧ x2 < 4294967296) (b3 : 0 ≤ x3 ∧ x3 < 4294967296)
    (o1 : bits .or .u64 (x3 * 4294967296) x2 = hi) (o2 : bits .or .u64 (x1 * 4294967296) x0 = lo) (HP : Hid (∀ w, Calls Try.prog 69 #[.bool neg, .int .u64 hi, .int .u64 lo, .int .i64 (min (max e (-100000)) 100000 + S), .bool rest1] w fun e w' => e = .returned (.int .u64 R) ∧ Below w.heap.size w w')) :
    Calls Try.prog 57 #[.bool neg, .slice a n c, .int .i64 e] w fun x w' => x = .returned (.int .u64 R) ∧ Below w.heap.size w w' := by
  have HX0 := Lib.hid hx
  clear hx
  go_enter Try.func57, Try.ntmps57
  go_wp2_with (first
    | (go_at_call 103; (with_reducible refine (HN.out).mono ?_); rintro e1 w1 ⟨v1, rfl, hv1, hb1⟩; obtain ⟨a1, n1, c1, rfl⟩ := Nw.slice hv1; obtain ⟨hl, hql⟩ := HL.out _ _ _ _ hv1; have hqc : q ≤ c1 := Nat.le_trans (Nat.le_of_lt hql) (Rd.parts hv1).2.1)
    | (go_at_call 104; (with_reducible refine (HB.out _ _ _ _ hv1).mono ?_); rintro e3 w3 ⟨rfl, rfl⟩))
  have HQ0 := Lib.hid q0
  have HR0 := Lib.hid r0
  have HSS := Lib.hid hS
  obtain ⟨g, off, rfl, hcl⟩ := Rd.addr hv1 (by omega)
  have HC := Lib.hid hcl
  clear q0 r0 hS hcl
  go_loopw [7, 9, 29] (fun v7 _ v29 wr => MakeRel w1 (ws M) q v7 v29 wr) (fun _ _ v29 _ => q - (intOf v29).toNat)
  case atStart => unfold MakeRel; exact ⟨0, Nat.zero_le _, by rw [HS0.out], rfl, rfl⟩
  case round =>
    obtain ⟨k, hk, rfl, rfl, rfl⟩ := hrel
    have hsu := HSU.out k
    by_cases kq : k < q
    · have ck := HC.out k (by omega)
      obtain ⟨z, hz⟩ : ∃ z, (ws M).getD k 0 = z := ⟨_, rfl⟩
      obtain ⟨t, ht⟩ : ∃ t, some0 (ws M) k = t := ⟨_, rfl⟩
      rw [hz] at ck hsu
      rw [ht] at hsu
      have HU := Lib.hid hsu
      rw [ht]
      have hkn : k < n1 := by omega
      clear hz ht hsu
      cases t
      · go_wp2
        go_roundw
        case rel => unfold MakeRel; exact ⟨k + 1, by omega, by rw [HU.out]; rfl, by go_num, rfl⟩
        case measure => simp [intOf]; omega
      · go_wp2
        go_roundw
        case rel => unfold MakeRel; exact ⟨k + 1, by omega, by rw [HU.out]; rfl, by go_num, rfl⟩
        case measure => simp [intOf]; omega
    · obtain rfl : k = q := by omega
      have q0 := HQ0.out
      have r0 := HR0.out
      have ck := HC.out k hql
      obtain ⟨z, hz⟩ : ∃ z, (ws M).getD k 0 = z := ⟨_, rfl⟩
      have gz := HG.out k
      rw [hz] at ck gz HX0
      have hx := HX0.out
      obtain ⟨t, ht⟩ : ∃ t, some0 (ws M) k = t := ⟨_, rfl⟩
      rw [ht] at HR
      rw [ht]
      clear hsu kq hz ht
      have HV := Lib.hid (fun j => hv1.below (below_drewN (Below.refl _ wr) j))
      cases t
      · have hm : (m != 0) = rest1 := HR.out
        go_wp2_with fail
        go_quiet (fail)
        have hw := HV.out nq
        go_wp2_with (first
          | (go_at_call 105; (with_reducible refine (HSh.out _ _ _ _ hw).mono ?_); rintro e5 w5 ⟨v5, rfl, hv5, hb5⟩; obtain ⟨a5, n5, c5, rfl⟩ := Nw.slice hv5; have hl5 := HL2.out _ _ _ _ hv5)
          | (go_at_call 69; (with_reducible refine (HP.out _).mono ?_); rintro e6 w6 ⟨rfl, hb6⟩)
          | (refine wp_copy4 (o := ⟨some 67, _, _, _, _, _⟩) rfl (.tmp 65) (.tmp 66) 88 rfl _ _ _ (ws V) (by rfl) (by rfl) hv5 hl5 ?_; intro w4 hc4 hb4; have k0 := hc4 0 (by decide); have k1 := hc4 1 (by decide); have k2 := hc4 2 (by decide); have k3 := hc4 3 (by decide); rw [HX.out 0 (by decide)] at k0; rw [HX.out 1 (by decide)] at k1; rw [HX.out 2 (by decide)] at k2; rw [HX.out 3 (by decide)] at k3; clear hc4))
        go_ret
        exact ⟨rfl, btn hb1 (btn (below_drewN (Below.refl _ _) nq) (btn hb5 (btn hb4 hb6)))⟩
      · have hm : rest1 = true := HR.out.symm
        subst hm
        clear hx
        go_wp2_with fail
        go_quiet (fail)
        have hw := HV.out nq
        go_wp2_with (first
          | (go_at_call 105; (with_reducible refine (HSh.out _ _ _ _ hw).mono ?_); rintro e5 w5 ⟨v5, rfl, hv5, hb5⟩; obtain ⟨a5, n5, c5, rfl⟩ := Nw.slice hv5; have hl5 := HL2.out _ _ _ _ hv5)
          | (go_at_call 69; (with_reducible refine (HP.out _).mono ?_); rintro e6 w6 ⟨rfl, hb6⟩)
          | (refine wp_copy4 (o := ⟨some 67, _, _, _, _, _⟩) rfl (.tmp 65) (.tmp 66) 88 rfl _ _ _ (ws V) (by rfl) (by rfl) hv5 hl5 ?_; intro w4 hc4 hb4; have k0 := hc4 0 (by decide); have k1 := hc4 1 (by decide); have k2 := hc4 2 (by decide); have k3 := hc4 3 (by decide); rw [HX.out 0 (by decide)] at k0; rw [HX.out 1 (by decide)] at k1; rw [HX.out 2 (by decide)] at k2; rw [HX.out 3 (by decide)] at k3; clear hc4))
        go_ret
        exact ⟨rfl, btn hb1 (btn (below_drewN (Below.refl _ _) nq) (btn hb5 (btn hb4 hb6)))⟩
end Go.Proofs.Ytecgkhijiogggaa
