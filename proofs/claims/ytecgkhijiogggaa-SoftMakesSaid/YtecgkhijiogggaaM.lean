/- SoftLaws, SoftOrder, SoftCompares. -/
import Derived.Test.YtecgkhijiogggaaL
namespace Go.Proofs.Ytecgkhijiogggaa
set_option linter.unusedVariables false
set_option linter.unusedSimpArgs false
open Go.RowKit Go.Shelf SF
theorem bt {w w1 w2 : World} (h1 : Below w.heap.size w w1) (h2 : Below w1.heap.size w1 w2) : Below w.heap.size w w2 := below_then h1 h1.size h2
theorem W_packI (n : Int) (e : Int) : W (packI n e) := by
  unfold packI; split; exact W_of (by decide); exact W_sg (by have := pat_le n.natAbs e false; omega)
theorem W_addV {a b : Nat} (ha : W a) (hb : W b) : W (addV a b) := by
  unfold addV addF
  split; exact W_of (by decide)
  split; split; exact W_of (by decide); exact ha
  split; exact hb
  split; exact W_sg (by decide)
  exact W_packI _ _
theorem W_mulV (a b : Nat) : W (mulV a b) := by
  unfold mulV mulF
  split; exact W_of (by decide)
  split; exact W_sg (by decide)
  exact W_sg (by have := pat_le (sm a * sm b) (se a + se b) false; omega)
set_option maxHeartbeats 2000000 in
theorem llaws_n1 (a b : Int) (HAB : Hid (∀ w, Calls Try.prog 23 #[.int .u64 (a), .int .u64 (b)] w fun e w' => e = .returned (.int .u64 9221120237041090560) ∧ Below w.heap.size w w')) (HBA : Hid (∀ w, Calls Try.prog 23 #[.int .u64 (b), .int .u64 (a)] w fun e w' => e = .returned (.int .u64 9221120237041090560) ∧ Below w.heap.size w w')) (MAB : Hid (∀ w, Calls Try.prog 31 #[.int .u64 (a), .int .u64 (b)] w fun e w' => e = .returned (.int .u64 9221120237041090560) ∧ Below w.heap.size w w')) (MBA : Hid (∀ w, Calls Try.prog 31 #[.int .u64 (b), .int .u64 (a)] w fun e w' => e = .returned (.int .u64 9221120237041090560) ∧ Below w.heap.size w w')) (DAB : Hid (∀ w, Calls Try.prog 18 #[.int .u64 (a), .int .u64 (b)] w fun e w' => e = .returned (.int .u64 9221120237041090560) ∧ Below w.heap.size w w')) (N1 : Hid (∀ w, Calls Try.prog 33 #[.int .u64 (a)] w fun e w' => e = .returned (.bool true) ∧ w = w')) (AW : Hid (∀ w, Calls Try.prog 20 #[] w fun e w' => e = .returned (.bool true) ∧ Below w.heap.size w w')) (w : World) : Calls Try.prog 9 #[.int .u64 a, .int .u64 b] w fun e w' => e = .returned (.bool true) ∧ Below w.heap.size w w' := by
  have H := Below.refl w.heap.size w
  go_enter Try.func9, Try.ntmps9
  go_wp2_with (first
    | (go_at_call 23; (with_reducible refine (HAB.out _).mono ?_); rintro e1 w1 ⟨rfl, hb⟩; replace H := bt H hb; clear hb)
    | (go_at_call 23; (with_reducible refine (HBA.out _).mono ?_); rintro e1 w1 ⟨rfl, hb⟩; replace H := bt H hb; clear hb)
    | (go_at_call 31; (with_reducible refine (MAB.out _).mono ?_); rintro e1 w1 ⟨rfl, hb⟩; replace H := bt H hb; clear hb)
    | (go_at_call 31; (with_reducible refine (MBA.out _).mono ?_); rintro e1 w1 ⟨rfl, hb⟩; replace H := bt H hb; clear hb)
    | (go_at_call 18; (with_reducible refine (DAB.out _).mono ?_); rintro e1 w1 ⟨rfl, hb⟩; replace H := bt H hb; clear hb)
    | (go_at_call 33; (with_reducible refine (N1.out _).mono ?_); rintro e1 w1 ⟨rfl, rfl⟩)
    | (go_at_call 20; (with_reducible refine (AW.out _).mono ?_); rintro e1 w1 ⟨rfl, hb⟩; replace H := bt H hb; clear hb))
  go_ret
  exact ⟨rfl, H⟩
set_option maxHeartbeats 2000000 in
theorem llaws_n2 (a b : Int) (HAB : Hid (∀ w, Calls Try.prog 23 #[.int .u64 (a), .int .u64 (b)] w fun e w' => e = .returned (.int .u64 9221120237041090560) ∧ Below w.heap.size w w')) (HBA : Hid (∀ w, Calls Try.prog 23 #[.int .u64 (b), .int .u64 (a)] w fun e w' => e = .returned (.int .u64 9221120237041090560) ∧ Below w.heap.size w w')) (MAB : Hid (∀ w, Calls Try.prog 31 #[.int .u64 (a), .int .u64 (b)] w fun e w' => e = .returned (.int .u64 9221120237041090560) ∧ Below w.heap.size w w')) (MBA : Hid (∀ w, Calls Try.prog 31 #[.int .u64 (b), .int .u64 (a)] w fun e w' => e = .returned (.int .u64 9221120237041090560) ∧ Below w.heap.size w w')) (DAB : Hid (∀ w, Calls Try.prog 18 #[.int .u64 (a), .int .u64 (b)] w fun e w' => e = .returned (.int .u64 9221120237041090560) ∧ Below w.heap.size w w')) (N1 : Hid (∀ w, Calls Try.prog 33 #[.int .u64 (a)] w fun e w' => e = .returned (.bool false) ∧ w = w')) (N2 : Hid (∀ w, Calls Try.prog 33 #[.int .u64 (b)] w fun e w' => e = .returned (.bool true) ∧ w = w')) (AW : Hid (∀ w, Calls Try.prog 20 #[] w fun e w' => e = .returned (.bool true) ∧ Below w.heap.size w w')) (w : World) : Calls Try.prog 9 #[.int .u64 a, .int .u64 b] w fun e w' => e = .returned (.bool true) ∧ Below w.heap.size w w' := by
  have H := Below.refl w.heap.size w
  go_enter Try.func9, Try.ntmps9
  go_wp2_with (first
    | (go_at_call 23; (with_reducible refine (HAB.out _).mono ?_); rintro e1 w1 ⟨rfl, hb⟩; replace H := bt H hb; clear hb)
    | (go_at_call 23; (with_reducible refine (HBA.out _).mono ?_); rintro e1 w1 ⟨rfl, hb⟩; replace H := bt H hb; clear hb)
    | (go_at_call 31; (with_reducible refine (MAB.out _).mono ?_); rintro e1 w1 ⟨rfl, hb⟩; replace H := bt H hb; clear hb)
    | (go_at_call 31; (with_reducible refine (MBA.out _).mono ?_); rintro e1 w1 ⟨rfl, hb⟩; replace H := bt H hb; clear hb)
    | (go_at_call 18; (with_reducible refine (DAB.out _).mono ?_); rintro e1 w1 ⟨rfl, hb⟩; replace H := bt H hb; clear hb)
    | (go_at_call 33; (with_reducible refine (N1.out _).mono ?_); rintro e1 w1 ⟨rfl, rfl⟩)
    | (go_at_call 33; (with_reducible refine (N2.out _).mono ?_); rintro e1 w1 ⟨rfl, rfl⟩)
    | (go_at_call 20; (with_reducible refine (AW.out _).mono ?_); rintro e1 w1 ⟨rfl, hb⟩; replace H := bt H hb; clear hb))
  go_ret
  exact ⟨rfl, H⟩
set_option maxHeartbeats 2000000 in
theorem llaws_f (a b s m d nb na nm m2 : Int) (HAB : Hid (∀ w, Calls Try.prog 23 #[.int .u64 (a), .int .u64 (b)] w fun e w' => e = .returned (.int .u64 s) ∧ Below w.heap.size w w')) (HBA : Hid (∀ w, Calls Try.prog 23 #[.int .u64 (b), .int .u64 (a)] w fun e w' => e = .returned (.int .u64 s) ∧ Below w.heap.size w w')) (MAB : Hid (∀ w, Calls Try.prog 31 #[.int .u64 (a), .int .u64 (b)] w fun e w' => e = .returned (.int .u64 m) ∧ Below w.heap.size w w')) (MBA : Hid (∀ w, Calls Try.prog 31 #[.int .u64 (b), .int .u64 (a)] w fun e w' => e = .returned (.int .u64 m) ∧ Below w.heap.size w w')) (N1 : Hid (∀ w, Calls Try.prog 33 #[.int .u64 (a)] w fun e w' => e = .returned (.bool false) ∧ w = w')) (N2 : Hid (∀ w, Calls Try.prog 33 #[.int .u64 (b)] w fun e w' => e = .returned (.bool false) ∧ w = w')) (SUB : Hid (∀ w, Calls Try.prog 25 #[.int .u64 (a), .int .u64 (b)] w fun e w' => e = .returned (.int .u64 d) ∧ Below w.heap.size w w')) (NB : Hid (∀ w, Calls Try.prog 34 #[.int .u64 (b)] w fun e w' => e = .returned (.int .u64 nb) ∧ w = w')) (HAN : Hid (∀ w, Calls Try.prog 23 #[.int .u64 (a), .int .u64 (nb)] w fun e w' => e = .returned (.int .u64 d) ∧ Below w.heap.size w w')) (M1 : Hid (∀ w, Calls Try.prog 31 #[.int .u64 (a), .int .u64 (4607182418800017408)] w fun e w' => e = .returned (.int .u64 a) ∧ Below w.heap.size w w')) (D1 : Hid (∀ w, Calls Try.prog 18 #[.int .u64 (a), .int .u64 (4607182418800017408)] w fun e w' => e = .returned (.int .u64 a) ∧ Below w.heap.size w w')) (SC : Hid (∀ w, Calls Try.prog 27 #[.int .u64 (a), .int .i64 (0)] w fun e w' => e = .returned (.int .u64 a) ∧ Below w.heap.size w w')) (NA : Hid (∀ w, Calls Try.prog 34 #[.int .u64 (a)] w fun e w' => e = .returned (.int .u64 na) ∧ w = w')) (NN : Hid (∀ w, Calls Try.prog 34 #[.int .u64 (na)] w fun e w' => e = .returned (.int .u64 a) ∧ w = w')) (NM : Hid (∀ w, Calls Try.prog 34 #[.int .u64 (m)] w fun e w' => e = .returned (.int .u64 nm) ∧ w = w')) (MN : Hid (∀ w, Calls Try.prog 31 #[.int .u64 (na), .int .u64 (b)] w fun e w' => e = .returned (.int .u64 m2) ∧ Below w.heap.size w w')) (LN : Hid (∀ w, Calls Try.prog 35 #[.int .u64 (m2)] w fun e w' => e = .returned (.int .u64 nm) ∧ w = w')) (AW : Hid (∀ w, Calls Try.prog 20 #[] w fun e w' => e = .returned (.bool true) ∧ Below w.heap.size w w')) (w : World) : Calls Try.prog 9 #[.int .u64 a, .int .u64 b] w fun e w' => e = .returned (.bool true) ∧ Below w.heap.size w w' := by
  have H := Below.refl w.heap.size w
  go_enter Try.func9, Try.ntmps9
  go_wp2_with (first
    | (go_at_call 23; (with_reducible refine (HAB.out _).mono ?_); rintro e1 w1 ⟨rfl, hb⟩; replace H := bt H hb; clear hb)
    | (go_at_call 23; (with_reducible refine (HBA.out _).mono ?_); rintro e1 w1 ⟨rfl, hb⟩; replace H := bt H hb; clear hb)
    | (go_at_call 31; (with_reducible refine (MAB.out _).mono ?_); rintro e1 w1 ⟨rfl, hb⟩; replace H := bt H hb; clear hb)
    | (go_at_call 31; (with_reducible refine (MBA.out _).mono ?_); rintro e1 w1 ⟨rfl, hb⟩; replace H := bt H hb; clear hb)
    | (go_at_call 33; (with_reducible refine (N1.out _).mono ?_); rintro e1 w1 ⟨rfl, rfl⟩)
    | (go_at_call 33; (with_reducible refine (N2.out _).mono ?_); rintro e1 w1 ⟨rfl, rfl⟩)
    | (go_at_call 25; (with_reducible refine (SUB.out _).mono ?_); rintro e1 w1 ⟨rfl, hb⟩; replace H := bt H hb; clear hb)
    | (go_at_call 34; (with_reducible refine (NB.out _).mono ?_); rintro e1 w1 ⟨rfl, rfl⟩)
    | (go_at_call 23; (with_reducible refine (HAN.out _).mono ?_); rintro e1 w1 ⟨rfl, hb⟩; replace H := bt H hb; clear hb)
    | (go_at_call 31; (with_reducible refine (M1.out _).mono ?_); rintro e1 w1 ⟨rfl, hb⟩; replace H := bt H hb; clear hb)
    | (go_at_call 18; (with_reducible refine (D1.out _).mono ?_); rintro e1 w1 ⟨rfl, hb⟩; replace H := bt H hb; clear hb)
    | (go_at_call 27; (with_reducible refine (SC.out _).mono ?_); rintro e1 w1 ⟨rfl, hb⟩; replace H := bt H hb; clear hb)
    | (go_at_call 34; (with_reducible refine (NA.out _).mono ?_); rintro e1 w1 ⟨rfl, rfl⟩)
    | (go_at_call 34; (with_reducible refine (NN.out _).mono ?_); rintro e1 w1 ⟨rfl, rfl⟩)
    | (go_at_call 34; (with_reducible refine (NM.out _).mono ?_); rintro e1 w1 ⟨rfl, rfl⟩)
    | (go_at_call 31; (with_reducible refine (MN.out _).mono ?_); rintro e1 w1 ⟨rfl, hb⟩; replace H := bt H hb; clear hb)
    | (go_at_call 35; (with_reducible refine (LN.out _).mono ?_); rintro e1 w1 ⟨rfl, rfl⟩)
    | (go_at_call 20; (with_reducible refine (AW.out _).mono ?_); rintro e1 w1 ⟨rfl, hb⟩; replace H := bt H hb; clear hb))
  go_ret
  exact ⟨rfl, H⟩
theorem llaws_walk (a b : Nat) (ha : W a) (hb : W b) (w : World) : Calls Try.prog 9 #[.int .u64 a, .int .u64 b] w fun e w' => e = .returned (.bool true) ∧ Below w.heap.size w w' := by
  have HAB := add_c a b ha hb
  have HBA := add_c b a hb ha
  have MAB := mul_c a b ha hb
  have MBA := mul_c b a hb ha
  rw [addV_comm b a] at HBA
  rw [mulV_comm b a] at MBA
  have DAB := div_c a b ha hb
  have N1 := lnan_c a ha
  have N2 := lnan_c b hb
  by_cases n1 : nan a = true
  · have e1 : addV a b = NaN := by simp [addV, n1]
    have e2 : mulV a b = NaN := by simp [mulV, n1]
    have e3 : divV a b = NaN := by simp [divV, n1]
    rw [e1] at HAB HBA; rw [e2] at MAB MBA; rw [e3] at DAB; rw [n1] at N1
    exact llaws_n1 a b (Lib.hid HAB) (Lib.hid HBA) (Lib.hid MAB) (Lib.hid MBA) (Lib.hid DAB) (Lib.hid N1) (Lib.hid awake_c) w
  have n1 := Bool.eq_false_iff.2 n1
  rw [n1] at N1
  by_cases n2 : nan b = true
  · have e1 : addV a b = NaN := by simp [addV, n2]
    have e2 : mulV a b = NaN := by simp [mulV, n2]
    have e3 : divV a b = NaN := by simp [divV, n2]
    rw [e1] at HAB HBA; rw [e2] at MAB MBA; rw [e3] at DAB; rw [n2] at N2
    exact llaws_n2 a b (Lib.hid HAB) (Lib.hid HBA) (Lib.hid MAB) (Lib.hid MBA) (Lib.hid DAB) (Lib.hid N1) (Lib.hid N2) (Lib.hid awake_c) w
  have n2 := Bool.eq_false_iff.2 n2
  rw [n2] at N2
  have wone : W One := W_of (by decide)
  have wna := W_negV ha
  have wnb := W_negV hb
  have M1 := mul_c a One ha wone
  rw [mulV_one ha n1] at M1
  have D1 := div_c a One ha wone
  rw [divV_one ha n1] at D1
  have SC := scale_c a 0 ha
  rw [scaleV_zero ha n1] at SC
  have NN := neg_c (negV a) wna
  rw [negV_neg ha n1] at NN
  have LN := lneg_c (mulV (negV a) b) (W_mulV _ _)
  rw [← negV_mulV n1 n2] at LN
  exact llaws_f a b _ _ _ _ _ _ _ (Lib.hid HAB) (Lib.hid HBA) (Lib.hid MAB) (Lib.hid MBA) (Lib.hid N1) (Lib.hid N2) (Lib.hid (sub_c a b ha hb)) (Lib.hid (neg_c b hb)) (Lib.hid (add_c a (negV b) ha wnb)) (Lib.hid M1) (Lib.hid D1) (Lib.hid SC) (Lib.hid (neg_c a ha)) (Lib.hid NN) (Lib.hid (neg_c (mulV a b) (W_mulV _ _))) (Lib.hid (mul_c (negV a) b wna hb)) (Lib.hid LN) (Lib.hid awake_c) w
set_option maxHeartbeats 2000000 in
theorem lorder_no (a b c k : Int) (C0 : Hid (∀ w, Calls Try.prog 42 #[.int .u64 (a), .int .u64 (b)] w fun e w' => e = .returned (.tuple #[.int .i64 (k), .bool false]) ∧ w = w')) (AW : Hid (∀ w, Calls Try.prog 20 #[] w fun e w' => e = .returned (.bool true) ∧ Below w.heap.size w w')) (w : World) : Calls Try.prog 11 #[.int .u64 a, .int .u64 b, .int .u64 c] w fun e w' => e = .returned (.bool true) ∧ Below w.heap.size w w' := by
  have H := Below.refl w.heap.size w
  go_enter Try.func11, Try.ntmps11
  go_wp2_with (first
    | (go_at_call 42; (with_reducible refine (C0.out _).mono ?_); rintro e1 w1 ⟨rfl, rfl⟩)
    | (go_at_call 20; (with_reducible refine (AW.out _).mono ?_); rintro e1 w1 ⟨rfl, hb⟩; replace H := bt H hb; clear hb))
  go_ret
  exact ⟨rfl, H⟩
set_option maxHeartbeats 2000000 in
theorem lorder_gt (a b c k : Int) (hk : 0 < k) (C0 : Hid (∀ w, Calls Try.prog 42 #[.int .u64 (a), .int .u64 (b)] w fun e w' => e = .returned (.tuple #[.int .i64 (k), .bool true]) ∧ w = w')) (AW : Hid (∀ w, Calls Try.prog 20 #[] w fun e w' => e = .returned (.bool true) ∧ Below w.heap.size w w')) (w : World) : Calls Try.prog 11 #[.int .u64 a, .int .u64 b, .int .u64 c] w fun e w' => e = .returned (.bool true) ∧ Below w.heap.size w w' := by
  have H := Below.refl w.heap.size w
  go_enter Try.func11, Try.ntmps11
  go_wp2_with (first
    | (go_at_call 42; (with_reducible refine (C0.out _).mono ?_); rintro e1 w1 ⟨rfl, rfl⟩)
    | (go_at_call 20; (with_reducible refine (AW.out _).mono ?_); rintro e1 w1 ⟨rfl, hb⟩; replace H := bt H hb; clear hb))
  go_ret
  exact ⟨rfl, H⟩
set_option maxHeartbeats 2000000 in
theorem lorder_n (a b c k : Int) (hk : k ≤ 0) (C0 : Hid (∀ w, Calls Try.prog 42 #[.int .u64 (a), .int .u64 (b)] w fun e w' => e = .returned (.tuple #[.int .i64 (k), .bool true]) ∧ w = w')) (N : Hid (∀ w, Calls Try.prog 33 #[.int .u64 (c)] w fun e w' => e = .returned (.bool true) ∧ w = w')) (AW : Hid (∀ w, Calls Try.prog 20 #[] w fun e w' => e = .returned (.bool true) ∧ Below w.heap.size w w')) (w : World) : Calls Try.prog 11 #[.int .u64 a, .int .u64 b, .int .u64 c] w fun e w' => e = .returned (.bool true) ∧ Below w.heap.size w w' := by
  have H := Below.refl w.heap.size w
  go_enter Try.func11, Try.ntmps11
  go_wp2_with (first
    | (go_at_call 42; (with_reducible refine (C0.out _).mono ?_); rintro e1 w1 ⟨rfl, rfl⟩)
    | (go_at_call 33; (with_reducible refine (N.out _).mono ?_); rintro e1 w1 ⟨rfl, rfl⟩)
    | (go_at_call 20; (with_reducible refine (AW.out _).mono ?_); rintro e1 w1 ⟨rfl, hb⟩; replace H := bt H hb; clear hb))
  go_ret
  exact ⟨rfl, H⟩
set_option maxHeartbeats 2000000 in
theorem lorder_00 (a b c k x y u d p q v : Int) (hk : k ≤ 0) (C0 : Hid (∀ w, Calls Try.prog 42 #[.int .u64 (a), .int .u64 (b)] w fun e w' => e = .returned (.tuple #[.int .i64 (k), .bool true]) ∧ w = w')) (N : Hid (∀ w, Calls Try.prog 33 #[.int .u64 (c)] w fun e w' => e = .returned (.bool false) ∧ w = w')) (AC : Hid (∀ w, Calls Try.prog 23 #[.int .u64 (a), .int .u64 (c)] w fun e w' => e = .returned (.int .u64 x) ∧ Below w.heap.size w w')) (BC : Hid (∀ w, Calls Try.prog 23 #[.int .u64 (b), .int .u64 (c)] w fun e w' => e = .returned (.int .u64 y) ∧ Below w.heap.size w w')) (C1 : Hid (∀ w, Calls Try.prog 42 #[.int .u64 (x), .int .u64 (y)] w fun e w' => e = .returned (.tuple #[.int .i64 (u), .bool false]) ∧ w = w')) (AB : Hid (∀ w, Calls Try.prog 43 #[.int .u64 (c)] w fun e w' => e = .returned (.int .u64 d) ∧ w = w')) (MA : Hid (∀ w, Calls Try.prog 31 #[.int .u64 (a), .int .u64 (d)] w fun e w' => e = .returned (.int .u64 p) ∧ Below w.heap.size w w')) (MB : Hid (∀ w, Calls Try.prog 31 #[.int .u64 (b), .int .u64 (d)] w fun e w' => e = .returned (.int .u64 q) ∧ Below w.heap.size w w')) (C2 : Hid (∀ w, Calls Try.prog 42 #[.int .u64 (p), .int .u64 (q)] w fun e w' => e = .returned (.tuple #[.int .i64 (v), .bool false]) ∧ w = w')) (AW : Hid (∀ w, Calls Try.prog 20 #[] w fun e w' => e = .returned (.bool true) ∧ Below w.heap.size w w')) (w : World) : Calls Try.prog 11 #[.int .u64 a, .int .u64 b, .int .u64 c] w fun e w' => e = .returned (.bool true) ∧ Below w.heap.size w w' := by
  have H := Below.refl w.heap.size w
  go_enter Try.func11, Try.ntmps11
  go_wp2_with (first
    | (go_at_call 42; (with_reducible refine (C0.out _).mono ?_); rintro e1 w1 ⟨rfl, rfl⟩)
    | (go_at_call 33; (with_reducible refine (N.out _).mono ?_); rintro e1 w1 ⟨rfl, rfl⟩)
    | (go_at_call 23; (with_reducible refine (AC.out _).mono ?_); rintro e1 w1 ⟨rfl, hb⟩; replace H := bt H hb; clear hb)
    | (go_at_call 23; (with_reducible refine (BC.out _).mono ?_); rintro e1 w1 ⟨rfl, hb⟩; replace H := bt H hb; clear hb)
    | (go_at_call 42; (with_reducible refine (C1.out _).mono ?_); rintro e1 w1 ⟨rfl, rfl⟩)
    | (go_at_call 43; (with_reducible refine (AB.out _).mono ?_); rintro e1 w1 ⟨rfl, rfl⟩)
    | (go_at_call 31; (with_reducible refine (MA.out _).mono ?_); rintro e1 w1 ⟨rfl, hb⟩; replace H := bt H hb; clear hb)
    | (go_at_call 31; (with_reducible refine (MB.out _).mono ?_); rintro e1 w1 ⟨rfl, hb⟩; replace H := bt H hb; clear hb)
    | (go_at_call 42; (with_reducible refine (C2.out _).mono ?_); rintro e1 w1 ⟨rfl, rfl⟩)
    | (go_at_call 20; (with_reducible refine (AW.out _).mono ?_); rintro e1 w1 ⟨rfl, hb⟩; replace H := bt H hb; clear hb))
  go_ret
  exact ⟨rfl, H⟩
set_option maxHeartbeats 2000000 in
theorem lorder_01 (a b c k x y u d p q v : Int) (hk : k ≤ 0) (C0 : Hid (∀ w, Calls Try.prog 42 #[.int .u64 (a), .int .u64 (b)] w fun e w' => e = .returned (.tuple #[.int .i64 (k), .bool true]) ∧ w = w')) (N : Hid (∀ w, Calls Try.prog 33 #[.int .u64 (c)] w fun e w' => e = .returned (.bool false) ∧ w = w')) (AC : Hid (∀ w, Calls Try.prog 23 #[.int .u64 (a), .int .u64 (c)] w fun e w' => e = .returned (.int .u64 x) ∧ Below w.heap.size w w')) (BC : Hid (∀ w, Calls Try.prog 23 #[.int .u64 (b), .int .u64 (c)] w fun e w' => e = .returned (.int .u64 y) ∧ Below w.heap.size w w')) (C1 : Hid (∀ w, Calls Try.prog 42 #[.int .u64 (x), .int .u64 (y)] w fun e w' => e = .returned (.tuple #[.int .i64 (u), .bool false]) ∧ w = w')) (AB : Hid (∀ w, Calls Try.prog 43 #[.int .u64 (c)] w fun e w' => e = .returned (.int .u64 d) ∧ w = w')) (MA : Hid (∀ w, Calls Try.prog 31 #[.int .u64 (a), .int .u64 (d)] w fun e w' => e = .returned (.int .u64 p) ∧ Below w.heap.size w w')) (MB : Hid (∀ w, Calls Try.prog 31 #[.int .u64 (b), .int .u64 (d)] w fun e w' => e = .returned (.int .u64 q) ∧ Below w.heap.size w w')) (C2 : Hid (∀ w, Calls Try.prog 42 #[.int .u64 (p), .int .u64 (q)] w fun e w' => e = .returned (.tuple #[.int .i64 (v), .bool true]) ∧ w = w')) (hv : v ≤ 0) (AW : Hid (∀ w, Calls Try.prog 20 #[] w fun e w' => e = .returned (.bool true) ∧ Below w.heap.size w w')) (w : World) : Calls Try.prog 11 #[.int .u64 a, .int .u64 b, .int .u64 c] w fun e w' => e = .returned (.bool true) ∧ Below w.heap.size w w' := by
  have H := Below.refl w.heap.size w
  go_enter Try.func11, Try.ntmps11
  go_wp2_with (first
    | (go_at_call 42; (with_reducible refine (C0.out _).mono ?_); rintro e1 w1 ⟨rfl, rfl⟩)
    | (go_at_call 33; (with_reducible refine (N.out _).mono ?_); rintro e1 w1 ⟨rfl, rfl⟩)
    | (go_at_call 23; (with_reducible refine (AC.out _).mono ?_); rintro e1 w1 ⟨rfl, hb⟩; replace H := bt H hb; clear hb)
    | (go_at_call 23; (with_reducible refine (BC.out _).mono ?_); rintro e1 w1 ⟨rfl, hb⟩; replace H := bt H hb; clear hb)
    | (go_at_call 42; (with_reducible refine (C1.out _).mono ?_); rintro e1 w1 ⟨rfl, rfl⟩)
    | (go_at_call 43; (with_reducible refine (AB.out _).mono ?_); rintro e1 w1 ⟨rfl, rfl⟩)
    | (go_at_call 31; (with_reducible refine (MA.out _).mono ?_); rintro e1 w1 ⟨rfl, hb⟩; replace H := bt H hb; clear hb)
    | (go_at_call 31; (with_reducible refine (MB.out _).mono ?_); rintro e1 w1 ⟨rfl, hb⟩; replace H := bt H hb; clear hb)
    | (go_at_call 42; (with_reducible refine (C2.out _).mono ?_); rintro e1 w1 ⟨rfl, rfl⟩)
    | (go_at_call 20; (with_reducible refine (AW.out _).mono ?_); rintro e1 w1 ⟨rfl, hb⟩; replace H := bt H hb; clear hb))
  go_ret
  exact ⟨rfl, H⟩
set_option maxHeartbeats 2000000 in
theorem lorder_10 (a b c k x y u d p q v : Int) (hk : k ≤ 0) (C0 : Hid (∀ w, Calls Try.prog 42 #[.int .u64 (a), .int .u64 (b)] w fun e w' => e = .returned (.tuple #[.int .i64 (k), .bool true]) ∧ w = w')) (N : Hid (∀ w, Calls Try.prog 33 #[.int .u64 (c)] w fun e w' => e = .returned (.bool false) ∧ w = w')) (AC : Hid (∀ w, Calls Try.prog 23 #[.int .u64 (a), .int .u64 (c)] w fun e w' => e = .returned (.int .u64 x) ∧ Below w.heap.size w w')) (BC : Hid (∀ w, Calls Try.prog 23 #[.int .u64 (b), .int .u64 (c)] w fun e w' => e = .returned (.int .u64 y) ∧ Below w.heap.size w w')) (C1 : Hid (∀ w, Calls Try.prog 42 #[.int .u64 (x), .int .u64 (y)] w fun e w' => e = .returned (.tuple #[.int .i64 (u), .bool true]) ∧ w = w')) (AB : Hid (∀ w, Calls Try.prog 43 #[.int .u64 (c)] w fun e w' => e = .returned (.int .u64 d) ∧ w = w')) (MA : Hid (∀ w, Calls Try.prog 31 #[.int .u64 (a), .int .u64 (d)] w fun e w' => e = .returned (.int .u64 p) ∧ Below w.heap.size w w')) (MB : Hid (∀ w, Calls Try.prog 31 #[.int .u64 (b), .int .u64 (d)] w fun e w' => e = .returned (.int .u64 q) ∧ Below w.heap.size w w')) (C2 : Hid (∀ w, Calls Try.prog 42 #[.int .u64 (p), .int .u64 (q)] w fun e w' => e = .returned (.tuple #[.int .i64 (v), .bool false]) ∧ w = w')) (hu : u ≤ 0) (AW : Hid (∀ w, Calls Try.prog 20 #[] w fun e w' => e = .returned (.bool true) ∧ Below w.heap.size w w')) (w : World) : Calls Try.prog 11 #[.int .u64 a, .int .u64 b, .int .u64 c] w fun e w' => e = .returned (.bool true) ∧ Below w.heap.size w w' := by
  have H := Below.refl w.heap.size w
  go_enter Try.func11, Try.ntmps11
  go_wp2_with (first
    | (go_at_call 42; (with_reducible refine (C0.out _).mono ?_); rintro e1 w1 ⟨rfl, rfl⟩)
    | (go_at_call 33; (with_reducible refine (N.out _).mono ?_); rintro e1 w1 ⟨rfl, rfl⟩)
    | (go_at_call 23; (with_reducible refine (AC.out _).mono ?_); rintro e1 w1 ⟨rfl, hb⟩; replace H := bt H hb; clear hb)
    | (go_at_call 23; (with_reducible refine (BC.out _).mono ?_); rintro e1 w1 ⟨rfl, hb⟩; replace H := bt H hb; clear hb)
    | (go_at_call 42; (with_reducible refine (C1.out _).mono ?_); rintro e1 w1 ⟨rfl, rfl⟩)
    | (go_at_call 43; (with_reducible refine (AB.out _).mono ?_); rintro e1 w1 ⟨rfl, rfl⟩)
    | (go_at_call 31; (with_reducible refine (MA.out _).mono ?_); rintro e1 w1 ⟨rfl, hb⟩; replace H := bt H hb; clear hb)
    | (go_at_call 31; (with_reducible refine (MB.out _).mono ?_); rintro e1 w1 ⟨rfl, hb⟩; replace H := bt H hb; clear hb)
    | (go_at_call 42; (with_reducible refine (C2.out _).mono ?_); rintro e1 w1 ⟨rfl, rfl⟩)
    | (go_at_call 20; (with_reducible refine (AW.out _).mono ?_); rintro e1 w1 ⟨rfl, hb⟩; replace H := bt H hb; clear hb))
  go_ret
  exact ⟨rfl, H⟩
set_option maxHeartbeats 2000000 in
theorem lorder_11 (a b c k x y u d p q v : Int) (hk : k ≤ 0) (C0 : Hid (∀ w, Calls Try.prog 42 #[.int .u64 (a), .int .u64 (b)] w fun e w' => e = .returned (.tuple #[.int .i64 (k), .bool true]) ∧ w = w')) (N : Hid (∀ w, Calls Try.prog 33 #[.int .u64 (c)] w fun e w' => e = .returned (.bool false) ∧ w = w')) (AC : Hid (∀ w, Calls Try.prog 23 #[.int .u64 (a), .int .u64 (c)] w fun e w' => e = .returned (.int .u64 x) ∧ Below w.heap.size w w')) (BC : Hid (∀ w, Calls Try.prog 23 #[.int .u64 (b), .int .u64 (c)] w fun e w' => e = .returned (.int .u64 y) ∧ Below w.heap.size w w')) (C1 : Hid (∀ w, Calls Try.prog 42 #[.int .u64 (x), .int .u64 (y)] w fun e w' => e = .returned (.tuple #[.int .i64 (u), .bool true]) ∧ w = w')) (AB : Hid (∀ w, Calls Try.prog 43 #[.int .u64 (c)] w fun e w' => e = .returned (.int .u64 d) ∧ w = w')) (MA : Hid (∀ w, Calls Try.prog 31 #[.int .u64 (a), .int .u64 (d)] w fun e w' => e = .returned (.int .u64 p) ∧ Below w.heap.size w w')) (MB : Hid (∀ w, Calls Try.prog 31 #[.int .u64 (b), .int .u64 (d)] w fun e w' => e = .returned (.int .u64 q) ∧ Below w.heap.size w w')) (C2 : Hid (∀ w, Calls Try.prog 42 #[.int .u64 (p), .int .u64 (q)] w fun e w' => e = .returned (.tuple #[.int .i64 (v), .bool true]) ∧ w = w')) (hu : u ≤ 0) (hv : v ≤ 0) (AW : Hid (∀ w, Calls Try.prog 20 #[] w fun e w' => e = .returned (.bool true) ∧ Below w.heap.size w w')) (w : World) : Calls Try.prog 11 #[.int .u64 a, .int .u64 b, .int .u64 c] w fun e w' => e = .returned (.bool true) ∧ Below w.heap.size w w' := by
  have H := Below.refl w.heap.size w
  go_enter Try.func11, Try.ntmps11
  go_wp2_with (first
    | (go_at_call 42; (with_reducible refine (C0.out _).mono ?_); rintro e1 w1 ⟨rfl, rfl⟩)
    | (go_at_call 33; (with_reducible refine (N.out _).mono ?_); rintro e1 w1 ⟨rfl, rfl⟩)
    | (go_at_call 23; (with_reducible refine (AC.out _).mono ?_); rintro e1 w1 ⟨rfl, hb⟩; replace H := bt H hb; clear hb)
    | (go_at_call 23; (with_reducible refine (BC.out _).mono ?_); rintro e1 w1 ⟨rfl, hb⟩; replace H := bt H hb; clear hb)
    | (go_at_call 42; (with_reducible refine (C1.out _).mono ?_); rintro e1 w1 ⟨rfl, rfl⟩)
    | (go_at_call 43; (with_reducible refine (AB.out _).mono ?_); rintro e1 w1 ⟨rfl, rfl⟩)
    | (go_at_call 31; (with_reducible refine (MA.out _).mono ?_); rintro e1 w1 ⟨rfl, hb⟩; replace H := bt H hb; clear hb)
    | (go_at_call 31; (with_reducible refine (MB.out _).mono ?_); rintro e1 w1 ⟨rfl, hb⟩; replace H := bt H hb; clear hb)
    | (go_at_call 42; (with_reducible refine (C2.out _).mono ?_); rintro e1 w1 ⟨rfl, rfl⟩)
    | (go_at_call 20; (with_reducible refine (AW.out _).mono ?_); rintro e1 w1 ⟨rfl, hb⟩; replace H := bt H hb; clear hb))
  go_ret
  exact ⟨rfl, H⟩
theorem cmpI_le {x y : Int} : cmpI x y ≤ 0 ↔ x ≤ y := by unfold cmpI; split; simp; omega; split <;> simp <;> omega
theorem cmp_le {a b : Nat} (h : okV a b = true) : cmpV a b ≤ 0 ↔ ordV a ≤ ordV b := by
  have := ok_not h
  have hc : cmpV a b = cmpI (ordV a) (ordV b) := by simp only [cmpV]; rw [this]; rfl
  rw [hc]; exact cmpI_le
theorem ok_two {a b : Nat} (h : okV a b = true) : nan a = false ∧ nan b = false := by
  have := ok_not h
  exact Bool.or_eq_false_iff.1 this
theorem absV_facts {c : Nat} (h : nan c = false) : nan (absV c) = false ∧ ng (absV c) = false := by
  have e : absV c = mag c := by simp [absV, h]
  have ml := mag_lt c
  rw [e]
  constructor
  · rw [← h]; unfold nan; rw [show mag (mag c) = mag c by unfold mag; omega]
  · unfold ng; rw [decide_eq_false]; omega
theorem lorder_walk (a b c : Nat) (ha : W a) (hb : W b) (hc : W c) (w : World) : Calls Try.prog 11 #[.int .u64 a, .int .u64 b, .int .u64 c] w fun e w' => e = .returned (.bool true) ∧ Below w.heap.size w w' := by
  have C0 := cmp_c a b ha hb
  have A := Lib.hid awake_c
  obtain ⟨k, hk⟩ : ∃ k, okV a b = k := ⟨_, rfl⟩
  cases k
  · rw [hk] at C0; exact lorder_no a b c _ (Lib.hid C0) A w
  rw [hk] at C0
  obtain ⟨n1, n2⟩ := ok_two hk
  by_cases g : 0 < cmpV a b
  · exact lorder_gt a b c _ g (Lib.hid C0) A w
  have g : cmpV a b ≤ 0 := by omega
  have N := lnan_c c hc
  by_cases n3 : nan c = true
  · rw [n3] at N; exact lorder_n a b c _ g (Lib.hid C0) (Lib.hid N) A w
  have n3 := Bool.eq_false_iff.2 n3
  rw [n3] at N
  have o := (cmp_le hk).1 g
  obtain ⟨d1, d2⟩ := absV_facts n3
  have wd := W_absV hc
  have C1 := cmp_c (addV a c) (addV b c) (W_addV ha hc) (W_addV hb hc)
  have C2 := cmp_c (mulV a (absV c)) (mulV b (absV c)) (W_mulV _ _) (W_mulV _ _)
  obtain ⟨k1, h1⟩ : ∃ k, okV (addV a c) (addV b c) = k := ⟨_, rfl⟩
  obtain ⟨k2, h2⟩ : ∃ k, okV (mulV a (absV c)) (mulV b (absV c)) = k := ⟨_, rfl⟩
  rw [h1] at C1; rw [h2] at C2
  have o1 : k1 = true → cmpV (addV a c) (addV b c) ≤ 0 := fun h => by
    subst h
    obtain ⟨p, q⟩ := ok_two h1
    exact (cmp_le h1).2 (addV_order ha hb hc n1 n2 n3 o p q)
  have o2 : k2 = true → cmpV (mulV a (absV c)) (mulV b (absV c)) ≤ 0 := fun h => by
    subst h
    obtain ⟨p, q⟩ := ok_two h2
    exact (cmp_le h2).2 (mulV_order n1 n2 d1 d2 o p q)
  have AC := Lib.hid (add_c a c ha hc)
  have BC := Lib.hid (add_c b c hb hc)
  have AB := Lib.hid (abs_c c hc)
  have MA := Lib.hid (mul_c a (absV c) ha wd)
  have MB := Lib.hid (mul_c b (absV c) hb wd)
  have C0 := Lib.hid C0
  have N := Lib.hid N
  have C1 := Lib.hid C1
  have C2 := Lib.hid C2
  cases k1 <;> cases k2
  · exact lorder_00 a b c _ _ _ _ _ _ _ _ g C0 N AC BC C1 AB MA MB C2 A w
  · exact lorder_01 a b c _ _ _ _ _ _ _ _ g C0 N AC BC C1 AB MA MB C2 (o2 rfl) A w
  · exact lorder_10 a b c _ _ _ _ _ _ _ _ g C0 N AC BC C1 AB MA MB C2 (o1 rfl) A w
  · exact lorder_11 a b c _ _ _ _ _ _ _ _ g C0 N AC BC C1 AB MA MB C2 (o1 rfl) (o2 rfl) A w
set_option maxHeartbeats 2000000 in
theorem lcompares_f (a b c mx mn na aa : Int) (ok : Bool) (C : Hid (∀ w, Calls Try.prog 42 #[.int .u64 (a), .int .u64 (b)] w fun e w' => e = .returned (.tuple #[.int .i64 c, .bool ok]) ∧ w = w')) (Max : Hid (∀ w, Calls Try.prog 49 #[.int .u64 (a), .int .u64 (b)] w fun e w' => e = .returned (.int .u64 mx) ∧ w = w')) (Min : Hid (∀ w, Calls Try.prog 51 #[.int .u64 (a), .int .u64 (b)] w fun e w' => e = .returned (.int .u64 mn) ∧ w = w')) (Neg : Hid (∀ w, Calls Try.prog 34 #[.int .u64 (a)] w fun e w' => e = .returned (.int .u64 na) ∧ w = w')) (Abs : Hid (∀ w, Calls Try.prog 43 #[.int .u64 (a)] w fun e w' => e = .returned (.int .u64 aa) ∧ w = w')) (CR : Hid (∀ w, Calls Try.prog 48 #[.int .u64 (a), .int .u64 (b)] w fun e w' => e = .returned (.tuple #[.int .i64 c, .bool ok]) ∧ w = w')) (MaxR : Hid (∀ w, Calls Try.prog 50 #[.int .u64 (a), .int .u64 (b)] w fun e w' => e = .returned (.int .u64 mx) ∧ w = w')) (MinR : Hid (∀ w, Calls Try.prog 52 #[.int .u64 (a), .int .u64 (b)] w fun e w' => e = .returned (.int .u64 mn) ∧ w = w')) (NegR : Hid (∀ w, Calls Try.prog 53 #[.int .u64 (a)] w fun e w' => e = .returned (.int .u64 na) ∧ w = w')) (AbsR : Hid (∀ w, Calls Try.prog 54 #[.int .u64 (a)] w fun e w' => e = .returned (.int .u64 aa) ∧ w = w')) (AW : Hid (∀ w, Calls Try.prog 20 #[] w fun e w' => e = .returned (.bool true) ∧ Below w.heap.size w w')) (w : World) : Calls Try.prog 13 #[.int .u64 a, .int .u64 b] w fun e w' => e = .returned (.bool true) ∧ Below w.heap.size w w' := by
  have H := Below.refl w.heap.size w
  go_enter Try.func13, Try.ntmps13
  go_wp2_with (first
    | (go_at_call 42; (with_reducible refine (C.out _).mono ?_); rintro e1 w1 ⟨rfl, rfl⟩)
    | (go_at_call 49; (with_reducible refine (Max.out _).mono ?_); rintro e1 w1 ⟨rfl, rfl⟩)
    | (go_at_call 51; (with_reducible refine (Min.out _).mono ?_); rintro e1 w1 ⟨rfl, rfl⟩)
    | (go_at_call 34; (with_reducible refine (Neg.out _).mono ?_); rintro e1 w1 ⟨rfl, rfl⟩)
    | (go_at_call 43; (with_reducible refine (Abs.out _).mono ?_); rintro e1 w1 ⟨rfl, rfl⟩)
    | (go_at_call 48; (with_reducible refine (CR.out _).mono ?_); rintro e1 w1 ⟨rfl, rfl⟩)
    | (go_at_call 50; (with_reducible refine (MaxR.out _).mono ?_); rintro e1 w1 ⟨rfl, rfl⟩)
    | (go_at_call 52; (with_reducible refine (MinR.out _).mono ?_); rintro e1 w1 ⟨rfl, rfl⟩)
    | (go_at_call 53; (with_reducible refine (NegR.out _).mono ?_); rintro e1 w1 ⟨rfl, rfl⟩)
    | (go_at_call 54; (with_reducible refine (AbsR.out _).mono ?_); rintro e1 w1 ⟨rfl, rfl⟩)
    | (go_at_call 20; (with_reducible refine (AW.out _).mono ?_); rintro e1 w1 ⟨rfl, hb⟩; replace H := bt H hb; clear hb))
  go_ret
  exact ⟨rfl, H⟩
theorem lcompares_walk (a b : Nat) (ha : W a) (hb : W b) (w : World) : Calls Try.prog 13 #[.int .u64 a, .int .u64 b] w fun e w' => e = .returned (.bool true) ∧ Below w.heap.size w w' :=
  lcompares_f a b _ _ _ _ _ _ (Lib.hid (cmp_c a b ha hb)) (Lib.hid (max_c a b ha hb)) (Lib.hid (min_c a b ha hb)) (Lib.hid (neg_c a ha)) (Lib.hid (abs_c a ha)) (Lib.hid (rcmp_c a b ha hb)) (Lib.hid (rmax_c a b ha hb)) (Lib.hid (rmin_c a b ha hb)) (Lib.hid (rneg_c a ha)) (Lib.hid (rabs_c a ha)) (Lib.hid awake_c) w
/-- A word, as the row hands it in. -/
theorem word_of {x : Int} (h : (Lit.int .u64 x).wf = true) : ∃ a : Nat, x = (a : Int) ∧ W a := by
  have : 0 ≤ x ∧ x < 18446744073709551616 := by
    have e1 : IntKind.u64.min = 0 := by decide
    have e2 : IntKind.u64.max = 18446744073709551615 := by decide
    simp [Lit.wf, e1, e2] at h; omega
  exact ⟨x.toNat, by omega, by unfold W; omega⟩
end Go.Proofs.Ytecgkhijiogggaa
