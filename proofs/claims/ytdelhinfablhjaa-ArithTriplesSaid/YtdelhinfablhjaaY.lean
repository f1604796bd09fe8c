/- Triples: a double times a word, by a word. -/
import Derived.Test.YtdelhinfablhjaaV
import Derived.LoopN
import Derived.Laws.ResultCell
namespace Go.Proofs.Ytdelhinfablhjaa
set_option linter.unusedVariables false
set_option linter.unusedSimpArgs false
open Go.RowKit Go.Shelf

theorem beq_of' {a b : Int} (h : a = b) : (a == b) = true := by simpa using h
theorem agg3 {a b c x y z : Int} (h1 : a = x) (h2 : b = y) (h3 : c = z) : Ending.returned (.agg #[.int .u64 a, .int .u64 b, .int .u64 c]) = .returned (.agg #[.int .u64 x, .int .u64 y, .int .u64 z]) := by rw [h1, h2, h3]
theorem times_digits (l h n : Int) (hl : Word l) (hh : Word h) (hn : Word n) :
    l * n % 18446744073709551616 = (h * 18446744073709551616 + l) * n % 18446744073709551616 ∧
    (h * n + l * n / 18446744073709551616) % 18446744073709551616 = (h * 18446744073709551616 + l) * n / 18446744073709551616 % 18446744073709551616 ∧
    IntKind.u64.wrap (h * n / 18446744073709551616 + (h * n % 18446744073709551616 + l * n / 18446744073709551616) / 18446744073709551616) = (h * 18446744073709551616 + l) * n / 18446744073709551616 / 18446744073709551616 := by
  have m1 := mul_lt hl hn
  have m2 := mul_lt hh hn
  have e : (h * 18446744073709551616 + l) * n = (h * n) * 18446744073709551616 + l * n := by
    rw [Int.add_mul, Int.mul_assoc, Int.mul_comm 18446744073709551616 n, ← Int.mul_assoc]
  rw [e, IntKind.wrap_u64]
  exact ⟨by omega, by omega, by omega⟩
theorem times_c (l h n : Int) (hl : Word l) (hh : Word h) (hn : Word n) (w : World) : Calls Try.prog 49 #[.int .u64 l, .int .u64 h, .int .u64 n] w fun e w' =>
    e = .returned (.agg #[.int .u64 ((h * 18446744073709551616 + l) * n % 18446744073709551616), .int .u64 ((h * 18446744073709551616 + l) * n / 18446744073709551616 % 18446744073709551616), .int .u64 ((h * 18446744073709551616 + l) * n / 18446744073709551616 / 18446744073709551616)]) ∧ Below w.heap.size w w' := by
  have p := hi_word hl hn
  have q := mod_word (h * n)
  have F := Lib.hid (times_digits l h n hl hh hn)
  go_enter Try.func49, Try.ntmps49
  go_wp2_with (first
    | (go_at_call 45; with_reducible refine (mul64 _ _ hl hn _).mono ?_; rintro e w' ⟨rfl, rfl⟩)
    | (go_at_call 45; with_reducible refine (mul64 _ _ hh hn _).mono ?_; rintro e w' ⟨rfl, rfl⟩)
    | simp only [add64_0 _ _ q.1 p.1])
  refine bodyPost_ret (v := .agg #[.int .u64 (l * n % 18446744073709551616), .int .u64 ((h * n + l * n / 18446744073709551616) % 18446744073709551616), .int .u64 (IntKind.u64.wrap (h * n / 18446744073709551616 + (h * n % 18446744073709551616 + l * n / 18446744073709551616) / 18446744073709551616))]) (by simp [results, Try.results49, go_sem]) rfl ⟨agg3 F.out.1 F.out.2.1 F.out.2.2, ?_⟩
  exact ((Below.refl _ _).alloc (Nat.le_refl _) _).alloc (by simp) _

theorem pw_drewN {B : Nat} {w W : World} (h : Below B w W) (n : Nat) : Below B w (W.drewN n) := ⟨h.os, h.tape, h.output, h.size, h.block⟩
/-- A number of three digits by a word, digit by digit. -/
theorem long_div (a b c u : Int) (ha : Word a) (hb : Word b) (hc : Word c) (hu : 0 < u) (hu1 : u < 18446744073709551616) :
    (((c % u * 18446744073709551616 + b) % u) * 18446744073709551616 + a) / u = ((c * 18446744073709551616 + b) * 18446744073709551616 + a) / u % 18446744073709551616 ∧
    (c % u * 18446744073709551616 + b) / u = ((c * 18446744073709551616 + b) * 18446744073709551616 + a) / u / 18446744073709551616 % 18446744073709551616 ∧
    c / u = ((c * 18446744073709551616 + b) * 18446744073709551616 + a) / u / 18446744073709551616 / 18446744073709551616 ∧
    (((c % u * 18446744073709551616 + b) % u) * 18446744073709551616 + a) % u = ((c * 18446744073709551616 + b) * 18446744073709551616 + a) % u := by
  obtain ⟨a0, a1⟩ := ha
  obtain ⟨b0, b1⟩ := hb
  obtain ⟨c0, c1⟩ := hc
  have d2 := Int.mul_ediv_add_emod c u
  have r2 := Int.emod_nonneg c (show u ≠ 0 by omega)
  have s2 := Int.emod_lt_of_pos c hu
  have q2 := Int.ediv_nonneg c0 (Int.le_of_lt hu)
  generalize c / u = Q2 at *
  generalize c % u = R2 at *
  have d1 := Int.mul_ediv_add_emod (R2 * 18446744073709551616 + b) u
  have r1 := Int.emod_nonneg (R2 * 18446744073709551616 + b) (show u ≠ 0 by omega)
  have s1 := Int.emod_lt_of_pos (R2 * 18446744073709551616 + b) hu
  have q1 : 0 ≤ (R2 * 18446744073709551616 + b) / u := Int.ediv_nonneg (by omega) (Int.le_of_lt hu)
  have t1 : (R2 * 18446744073709551616 + b) / u < 18446744073709551616 := Int.ediv_lt_of_lt_mul hu (by omega)
  generalize (R2 * 18446744073709551616 + b) / u = Q1 at *
  generalize (R2 * 18446744073709551616 + b) % u = R1 at *
  have d0 := Int.mul_ediv_add_emod (R1 * 18446744073709551616 + a) u
  have r0 := Int.emod_nonneg (R1 * 18446744073709551616 + a) (show u ≠ 0 by omega)
  have s0 := Int.emod_lt_of_pos (R1 * 18446744073709551616 + a) hu
  have q0 : 0 ≤ (R1 * 18446744073709551616 + a) / u := Int.ediv_nonneg (by omega) (Int.le_of_lt hu)
  have t0 : (R1 * 18446744073709551616 + a) / u < 18446744073709551616 := Int.ediv_lt_of_lt_mul hu (by omega)
  generalize (R1 * 18446744073709551616 + a) / u = Q0 at *
  generalize (R1 * 18446744073709551616 + a) % u = R0 at *
  have e : ((Q2 * 18446744073709551616 + Q1) * 18446744073709551616 + Q0) * u + R0 = (c * 18446744073709551616 + b) * 18446744073709551616 + a := by
    have : ((Q2 * 18446744073709551616 + Q1) * 18446744073709551616 + Q0) * u = ((u * Q2) * 18446744073709551616 + u * Q1) * 18446744073709551616 + u * Q0 := by
      rw [Int.add_mul, Int.mul_assoc, Int.mul_comm 18446744073709551616 u, ← Int.mul_assoc, Int.add_mul, Int.mul_assoc Q2, Int.mul_comm 18446744073709551616 u, ← Int.mul_assoc Q2, Int.mul_comm Q2 u, Int.mul_comm Q1 u, Int.mul_comm Q0 u]
    omega
  obtain ⟨f1, f2⟩ := ediv_of hu e r0 s0
  rw [f1, f2]
  exact ⟨by omega, by omega, by omega, rfl⟩
theorem by_c (a b c u : Int) (ha : Word a) (hb : Word b) (hc : Word c) (hu : Word u) (hu0 : 0 < u) (w : World) : Calls Try.prog 50 #[.agg #[.int .u64 a, .int .u64 b, .int .u64 c], .int .u64 u] w fun e w' =>
    e = .returned (.tuple #[.agg #[.int .u64 (((c * 18446744073709551616 + b) * 18446744073709551616 + a) / u % 18446744073709551616), .int .u64 (((c * 18446744073709551616 + b) * 18446744073709551616 + a) / u / 18446744073709551616 % 18446744073709551616), .int .u64 (((c * 18446744073709551616 + b) * 18446744073709551616 + a) / u / 18446744073709551616 / 18446744073709551616)], .int .u64 (((c * 18446744073709551616 + b) * 18446744073709551616 + a) % u)]) ∧ Below w.heap.size w w' := by
  have F := Lib.hid (long_div a b c u ha hb hc hu0 hu.2)
  have r2 := Int.emod_nonneg c (show u ≠ 0 by omega)
  have s2 := Int.emod_lt_of_pos c hu0
  have r1 := Int.emod_nonneg (c % u * 18446744073709551616 + b) (show u ≠ 0 by omega)
  have s1 := Int.emod_lt_of_pos (c % u * 18446744073709551616 + b) hu0
  have D2 : ∀ W : World, Calls Try.prog 37 #[.int .u64 0, .int .u64 c, .int .u64 u] W fun e w' => e = .returned (.tuple #[.int .u64 (c / u), .int .u64 (c % u)]) ∧ ∃ n, w' = W.drewN n := by
    intro W
    have := div64 0 c u W (Int.le_refl 0) hu0 hc hu
    rwa [Int.zero_mul, Int.zero_add] at this
  have H2 := Lib.hid D2
  have H1 := Lib.hid (fun W => div64 (c % u) b u W r2 s2 hb hu)
  have H0 := Lib.hid (fun W => div64 ((c % u * 18446744073709551616 + b) % u) a u W r1 s1 ha hu)
  clear D2 r2 s2 r1 s1
  go_enter Try.func50, Try.ntmps50
  go_wp2_with fail
  refine wp_loop_rounds 4 ?_
  rw [rounds_succ]
  go_wp2_with (go_at_call 37; refine (H2.out _).mono ?_; rintro e w' ⟨rfl, n2, rfl⟩)
  rw [rounds_succ]
  go_wp2_with (go_at_call 37; refine (H1.out _).mono ?_; rintro e w' ⟨rfl, n1, rfl⟩)
  rw [rounds_succ]
  go_wp2_with (go_at_call 37; refine (H0.out _).mono ?_; rintro e w' ⟨rfl, n0, rfl⟩)
  rw [rounds_succ]
  go_wp2_with fail
  refine bodyPost_ret (v := .tuple #[.agg #[.int .u64 (((c % u * 18446744073709551616 + b) % u * 18446744073709551616 + a) / u), .int .u64 ((c % u * 18446744073709551616 + b) / u), .int .u64 (c / u)], .int .u64 (((c % u * 18446744073709551616 + b) % u * 18446744073709551616 + a) % u)]) (by simp [results, Try.results50, go_sem]) rfl ⟨by rw [F.out.1, F.out.2.1, F.out.2.2.1, F.out.2.2.2], ?_⟩
  refine Below.setCell (Below.setCell (Below.setCell (Below.setCell (pw_drewN (Below.setCell (pw_drewN (Below.setCell (pw_drewN (((Below.refl _ _).alloc (Nat.le_refl _) _).alloc (by simp) _) _) ?_ _) _) ?_ _) _) ?_ _) ?_ _) ?_ _) ?_ _ <;> simp

/-- What ScaleDouble's quotient is, its sign aside; does it go up? -/
def sdT (lo hi n : Int) : Int := aD lo hi * aC n
def sdB (hi n : Int) : Bool := !(decide (hi < 0) == decide (n < 0))
def sdQ (lo hi n u : Int) : Int := if sdB hi n && decide (0 < sdT lo hi n % u) then sdT lo hi n / u + 1 else sdT lo hi n / u
def sdOk (b : Bool) (q : Int) : Bool := if b then decide (q ≤ 170141183460469231731687303715884105728) else decide (q < 170141183460469231731687303715884105728)
def sdV (lo hi n u : Int) : Value :=
  if u < 1 then trip 0 0 (-24) else if sdOk (sdB hi n) (sdQ lo hi n u) then trip (dlo (sg (sdB hi n) (sdQ lo hi n u))) (dhi (sg (sdB hi n) (sdQ lo hi n u))) 0 else trip 0 0 (-11)
theorem sdT_bounds (lo : Int) {hi n : Int} (hh : Cell hi) (hn : Cell n) : 0 ≤ sdT lo hi n ∧ sdT lo hi n ≤ 1569275433846670190958947355801916604025588861116008628224 := by
  have a := aD_bounds lo hh
  have b : 0 ≤ aC n ∧ aC n ≤ 9223372036854775808 := by obtain ⟨h1, h2⟩ := hn; unfold aC; split <;> omega
  exact ⟨Int.mul_nonneg a.1 b.1, Int.mul_le_mul a.2 b.2 b.1 (by decide)⟩
structure Dig (q x0 x1 x2 : Int) : Prop where
  eq : q = (x2 * 18446744073709551616 + x1) * 18446744073709551616 + x0
  a0 : Word x0
  a1 : Word x1
  a2 : Word x2
theorem dig_of (q : Int) (h0 : 0 ≤ q) (h1 : q ≤ 1569275433846670190958947355801916604025588861116008628224) : Dig q (q % 18446744073709551616) (q / 18446744073709551616 % 18446744073709551616) (q / 18446744073709551616 / 18446744073709551616) :=
  ⟨by omega, mod_word _, mod_word _, ⟨by omega, by omega⟩⟩
theorem dig_up (q : Int) (h0 : 0 ≤ q) (h1 : q ≤ 1569275433846670190958947355801916604025588861116008628224) :
    Dig (q + 1) ((q + 1) % 18446744073709551616) ((q / 18446744073709551616 + (q % 18446744073709551616 + 1) / 18446744073709551616) % 18446744073709551616) ((q / 18446744073709551616 / 18446744073709551616 + (q / 18446744073709551616 % 18446744073709551616 + (q % 18446744073709551616 + 1) / 18446744073709551616) / 18446744073709551616) % 18446744073709551616) :=
  ⟨by omega, mod_word _, mod_word _, mod_word _⟩
theorem add64_c (x c : Int) (hx : 0 ≤ x) (hc0 : 0 ≤ c) (hc : c ≤ 1) (w : World) : (callFunc 43 #[.int .u64 x, .int .u64 0, .int .u64 c]).run Try.prog w =
    .ok (.value (.tuple #[.int .u64 ((x + c) % 18446744073709551616), .int .u64 ((x + c) / 18446744073709551616)])) w := by
  simpa using add64 x 0 c hx (Int.le_refl 0) hc0 hc w
set_option maxRecDepth 100000 in
set_option maxHeartbeats 1000000 in
theorem sd_c (lo hi n u : Int) (hh : Cell hi) (hn : Cell n) (hu : Cell u) (w : World) : Calls Try.prog 35 #[.int .i64 lo, .int .i64 hi, .int .i64 n, .int .i64 u] w fun e w' =>
    e = .returned (.tuple #[.int .i64 (n1 (sdV lo hi n u)), .int .i64 (n2 (sdV lo hi n u)), .int .i64 (n3 (sdV lo hi n u))]) ∧ Below w.heap.size w w' := by
  by_cases hu0 : u < 1
  · unfold sdV
    rw [if_pos hu0]
    go_enter Try.func35, Try.ntmps35
    go_wp2
    go_ret3
    exact ⟨rfl, Below.refl _ _⟩
  · have u1 : 1 ≤ u := by omega
    have u2 := hu.2
    have bD := aD_bounds lo hh
    have bT := sdT_bounds lo hh hn
    obtain ⟨T, hT⟩ : ∃ T, T = sdT lo hi n := ⟨_, rfl⟩
    obtain ⟨Q, hQ⟩ : ∃ Q, Q = T / u := ⟨_, rfl⟩
    obtain ⟨R, hR⟩ : ∃ R, R = T % u := ⟨_, rfl⟩
    have q0 : 0 ≤ Q := by rw [hQ]; exact Int.ediv_nonneg (by omega) (by omega)
    have q1 : Q ≤ 1569275433846670190958947355801916604025588861116008628224 := by have := Int.ediv_le_self u (a := T) (by omega); omega
    have r0 : 0 ≤ R := by rw [hR]; exact Int.emod_nonneg _ (by omega)
    have r1 : R < u := by rw [hR]; exact Int.emod_lt_of_pos _ (by omega)
    have C49 : ∀ W : World, Calls Try.prog 49 #[.int .u64 (aD lo hi % 18446744073709551616), .int .u64 (aD lo hi / 18446744073709551616), .int .u64 (aC n)] W fun e w' =>
        e = .returned (.agg #[.int .u64 (T % 18446744073709551616), .int .u64 (T / 18446744073709551616 % 18446744073709551616), .int .u64 (T / 18446744073709551616 / 18446744073709551616)]) ∧ Below W.heap.size W w' := by
      intro W
      have := times_c (aD lo hi % 18446744073709551616) (aD lo hi / 18446744073709551616) (aC n) (mod_word _) ⟨by omega, by omega⟩ (aC_word hn) W
      rw [Int.ediv_mul_add_emod] at this
      rw [hT]
      exact this
    have C50 : ∀ W : World, Calls Try.prog 50 #[.agg #[.int .u64 (T % 18446744073709551616), .int .u64 (T / 18446744073709551616 % 18446744073709551616), .int .u64 (T / 18446744073709551616 / 18446744073709551616)], .int .u64 u] W fun e w' =>
        e = .returned (.tuple #[.agg #[.int .u64 (Q % 18446744073709551616), .int .u64 (Q / 18446744073709551616 % 18446744073709551616), .int .u64 (Q / 18446744073709551616 / 18446744073709551616)], .int .u64 R]) ∧ Below W.heap.size W w' := by
      intro W
      have := by_c (T % 18446744073709551616) (T / 18446744073709551616 % 18446744073709551616) (T / 18446744073709551616 / 18446744073709551616) u (mod_word _) (mod_word _) ⟨by omega, by omega⟩ ⟨by omega, by omega⟩ (by omega) W
      rw [Int.ediv_mul_add_emod, Int.ediv_mul_add_emod] at this
      rw [hQ, hR]
      exact this
    have H49 := Lib.hid C49
    have H50 := Lib.hid C50
    have HT := Lib.hid hT
    have HQ := Lib.hid hQ
    have HR := Lib.hid hR
    clear C49 C50 hT hQ hR
    obtain ⟨b, hb⟩ : ∃ b, sdB hi n = b := ⟨_, rfl⟩
    have HB := Lib.hid hb
    unfold sdB at hb
    go_enter Try.func35, Try.ntmps35
    go_upto_region 6 with (first
      | (go_at_call 48; refine (size_c _ _ hh _).mono ?_; rintro e w' ⟨rfl, rfl⟩)
      | (go_at_call 46; refine (abs_c _ hn _).mono ?_; rintro e w' ⟨rfl, rfl⟩)
      | (go_at_call 49; refine (H49.out _).mono ?_; rintro e w1 ⟨rfl, hb1⟩)
      | (go_at_call 50; refine (H50.out _).mono ?_; rintro e w2 ⟨rfl, hb2⟩))
    have hB : Below w.heap.size w w2 := hb1.trans (hb2.mono hb1.size)
    clear hb1 hb2 H49 H50
    clear hb
    obtain ⟨g, hg⟩ : ∃ g : Bool, g = (b && decide (0 < R)) := ⟨_, rfl⟩
    have HG := Lib.hid hg
    clear hg
    go_cut [47] (fun v47 wc => v47 = .bool g ∧ wc = w2.alloc (.cells #[.int .u64 (Q % 18446744073709551616), .int .u64 (Q / 18446744073709551616 % 18446744073709551616), .int .u64 (Q / 18446744073709551616 / 18446744073709551616)] 48))
    case first =>
      cases b
      · go_wp2
        go_meet
        case rel => exact ⟨by rw [HG.out]; rfl, rfl⟩
      · go_wp2
        go_meet
        case rel => exact ⟨by rw [HG.out]; simp, rfl⟩
    case rest =>
    obtain ⟨rfl, rfl⟩ := hcut
    go_upto_if 47 with (fail)
    go_cut [16] (fun v16 wc => ∃ x0 x1 x2 : Int, wc = w2.alloc (.cells #[.int .u64 x0, .int .u64 x1, .int .u64 x2] 48) ∧ Hid (Dig (if g then Q + 1 else Q) x0 x1 x2))
    case first =>
      cases g
      · go_wp2
        go_meet
        case rel => exact ⟨_, _, _, rfl, dig_of Q q0 q1⟩
      · have k := Lib.hid (dig_up Q q0 q1)
        obtain ⟨k0, hk0⟩ : ∃ k0, (Q % 18446744073709551616 + 1) / 18446744073709551616 = k0 := ⟨_, rfl⟩
        have k00 : 0 ≤ k0 := by omega
        have k01 : k0 ≤ 1 := by omega
        obtain ⟨k1, hk1⟩ : ∃ k1, (Q / 18446744073709551616 % 18446744073709551616 + k0) / 18446744073709551616 = k1 := ⟨_, rfl⟩
        have k10 : 0 ≤ k1 := by omega
        have k11 : k1 ≤ 1 := by omega
        have m0 := (mod_word Q).1
        have m1 := (mod_word (Q / 18446744073709551616)).1
        have m2 : 0 ≤ Q / 18446744073709551616 / 18446744073709551616 := by omega
        go_wp2_with fail
        refine wp_loop_rounds 4 ?_
        rw [rounds_succ]
        go_wp2_with (simp only [add64_c _ _ m0 (show (0 : Int) ≤ 1 by decide) (Int.le_refl 1)])
        rw [rounds_succ]
        go_wp2_with (simp only [add64_c _ _ m1 k00 k01])
        rw [rounds_succ]
        go_wp2_with (simp only [add64_c _ _ m2 k10 k11])
        rw [rounds_succ]
        go_wp2_with fail
        go_meet
        case rel => exact ⟨_, _, _, rfl, by have := k.out; rw [hk0, hk1] at this; exact this⟩
    case rest =>
      obtain ⟨x0, x1, x2, rfl, hx⟩ := hcut
      have V : sdV lo hi n u = if sdOk b (if g then Q + 1 else Q) then trip (dlo (sg b (if g then Q + 1 else Q))) (dhi (sg b (if g then Q + 1 else Q))) 0 else trip 0 0 (-11) := by
        unfold sdV
        rw [if_neg (show ¬ u < 1 by omega)]
        have e : sdQ lo hi n u = if g then Q + 1 else Q := by
          unfold sdQ
          rw [← HT.out, ← HQ.out, ← HR.out, HB.out, ← HG.out]
        rw [e, HB.out]
      generalize hq' : (if g then Q + 1 else Q) = Q' at *
      have a0 := hx.out.a0.1
      have a1 := hx.out.a0.2
      have b0 := hx.out.a1.1
      have b1 := hx.out.a1.2
      have c0 := hx.out.a2.1
      have c1 := hx.out.a2.2
      have HV := Lib.hid V
      have HE := Lib.hid hx.out.eq
      have hB' := hB.alloc hB.size (.cells #[.int .u64 x0, .int .u64 x1, .int .u64 x2] 48)
      clear V hq' hx
      by_cases e1 : x1 = 9223372036854775808
      · have e1' : (x1 == 9223372036854775808) = true := beq_of' e1
        have e1a : 9223372036854775808 ≤ x1 := by omega
        have e1b : x1 ≤ 9223372036854775808 := by omega
        clear e1
        by_cases e0 : x0 = 0
        · have e0' : (x0 == 0) = true := beq_of' e0
          have e0a : x0 ≤ 0 := by omega
          clear e0
          cases b
          · have no : sdOk false Q' = false := by have := HE.out; unfold sdOk; simp; omega
            go_wp2
            all_goals (go_ret3; exact ⟨by rw [HV.out, no]; rfl, hB'⟩)
          · by_cases e2 : 0 < x2
            · have no : sdOk true Q' = false := by have := HE.out; unfold sdOk; simp; omega
              go_wp2
              go_ret3
              exact ⟨by rw [HV.out, no]; rfl, hB'⟩
            · have ok : sdOk true Q' = true := by have := HE.out; unfold sdOk; simp; omega
              have eq : Q' = x1 * 18446744073709551616 + x0 := by have := HE.out; omega
              have EQ := Lib.hid eq
              clear eq
              go_wp2_with (go_at_call 47; refine (signed_c _ _ _ ⟨a0, a1⟩ ⟨b0, b1⟩ _).mono ?_; rintro e w' ⟨rfl, rfl⟩)
              go_ret3
              exact ⟨by rw [HV.out, ok, EQ.out]; rfl, hB'⟩
        · have e0' : (x0 == 0) = false := by simpa using e0
          have no : ∀ b, sdOk b Q' = false := by intro b; have := HE.out; unfold sdOk; cases b <;> simp <;> omega
          have NO := Lib.hid no
          clear e0 no
          by_cases e2 : 0 < x2
          · go_wp2
            all_goals (go_ret3; exact ⟨by rw [HV.out, NO.out]; rfl, hB'⟩)
          · go_wp2
            all_goals (go_ret3; exact ⟨by rw [HV.out, NO.out]; rfl, hB'⟩)
      · have e1' : (x1 == 9223372036854775808) = false := by simpa using e1
        by_cases e2 : 0 < x2
        · have no : sdOk b Q' = false := by have := HE.out; unfold sdOk; cases b <;> simp <;> omega
          clear e1
          go_wp2
          all_goals (go_ret3; exact ⟨by rw [HV.out, no]; rfl, hB'⟩)
        · by_cases e3 : 9223372036854775808 < x1
          · have no : sdOk b Q' = false := by have := HE.out; unfold sdOk; cases b <;> simp <;> omega
            clear e1
            go_wp2
            all_goals (go_ret3; exact ⟨by rw [HV.out, no]; rfl, hB'⟩)
          · have e4 : x1 < 9223372036854775808 := by omega
            have ok : sdOk b Q' = true := by have := HE.out; unfold sdOk; cases b <;> simp <;> omega
            have eq : Q' = x1 * 18446744073709551616 + x0 := by have := HE.out; omega
            have EQ := Lib.hid eq
            clear eq e1 e3
            go_wp2_with (go_at_call 47; refine (signed_c _ _ _ ⟨a0, a1⟩ ⟨b0, b1⟩ _).mono ?_; rintro e w' ⟨rfl, rfl⟩)
            go_ret3
            exact ⟨by rw [HV.out, ok, EQ.out]; rfl, hB'⟩
end Go.Proofs.Ytdelhinfablhjaa
