/- The reference's Split; Make of a number. -/
import Derived.Test.YtecgkhijiogggaaY2
namespace Go.Proofs.Ytecgkhijiogggaa
set_option linter.unusedVariables false
set_option linter.unusedSimpArgs false
open Go.RowKit Go.Shelf SF

theorem rmake_n (neg : Bool) {w : World} {a : Option Addr} {n c M : Nat} (h : Nw w (.slice a n c) M) (hM : bl M ≤ 32000) (e : Int) (he : -4611686018427387904 ≤ e ∧ e ≤ 4611686018427387904) :
    Calls Try.prog 58 #[.bool neg, .slice a n c, .int .i64 e] w fun x w' => x = .returned (.int .u64 ((makeV neg M e : Nat) : Int)) ∧ Below w.heap.size w w' := by
  have := rmakeG_c neg a n c (ws M) e w h (words_ws M) (by have := h.sz (k := 1000) hM; omega) (by omega)
  rw [wv_ws, makeR_ok neg e hM] at this
  exact this
theorem nan_or {a : Nat} : nan a = true ∨ inf a = true ∨ (nan a = false ∧ inf a = false) := by
  cases nan a <;> cases inf a <;> simp
theorem rsplit_bad (a : Nat) (ha : W a) (h : nan a = true ∨ inf a = true) (w : World) : Calls Try.prog 60 #[.int .u64 a] w fun e w' => e = .returned (.tuple #[.bool false, .slice none 0 0, .int .i64 0, .bool false]) ∧ w = w' := by
  have HN := fun w => risnan_c a ha w
  have HI := fun w => risinf_c a ha w
  by_cases h1 : nan a = true
  · rw [h1] at HN
    have HN := Lib.hid HN
    clear h h1 HI
    go_enter Try.func60, Try.ntmps60
    go_wp2_with (go_at_call 71; (with_reducible refine (HN.out _).mono ?_); rintro e1 w1 ⟨rfl, rfl⟩)
    exact bodyPost_ret (v := .tuple #[.bool false, .slice none 0 0, .int .i64 0, .bool false]) (by simp [results, Try.results60, go_sem]) rfl ⟨rfl, rfl⟩
  · have h2 : inf a = true := by rcases h with h | h; exact absurd h h1; exact h
    rw [Bool.eq_false_iff.2 h1] at HN
    rw [h2] at HI
    have HN := Lib.hid HN
    have HI := Lib.hid HI
    clear h h1 h2
    go_enter Try.func60, Try.ntmps60
    go_wp2_with (first
      | (go_at_call 71; (with_reducible refine (HN.out _).mono ?_); rintro e1 w1 ⟨rfl, rfl⟩)
      | (go_at_call 72; (with_reducible refine (HI.out _).mono ?_); rintro e1 w1 ⟨rfl, rfl⟩))
    exact bodyPost_ret (v := .tuple #[.bool false, .slice none 0 0, .int .i64 0, .bool false]) (by simp [results, Try.results60, go_sem]) rfl ⟨rfl, rfl⟩
/-- What Split gives of a finite one. -/
def Sp (w : World) (g : Bool) (M : Nat) (x : Int) (e : Ending) (w' : World) : Prop := ∃ a n c, e = .returned (.tuple #[.bool g, .slice a n c, .int .i64 x, .bool true]) ∧ Nw w' (.slice a n c) M ∧ Below w.heap.size w w'
theorem rsplit_c (a : Nat) (ha : W a) (h1 : nan a = false) (h2 : inf a = false) (w : World) : Calls Try.prog 60 #[.int .u64 a] w (Sp w (ng a) (sm a) (se a)) := by
  suffices h : Calls Try.prog 60 #[.int .u64 a] w fun e w' => ∃ b n c, e = .returned (.tuple #[.bool (ng a), .slice b n c, .int .i64 (se a), .bool true]) ∧ Nw w' (.slice b n c) (sm a) ∧ Below w.heap.size w w' from h
  have HN := fun w => risnan_c a ha w
  have HI := fun w => risinf_c a ha w
  have HG := fun w => rminus_c a ha w
  rw [h1] at HN
  rw [h2] at HI
  have b1 := ex_bits ha
  have b2 := band_frac ha
  have xl := ex_lt a
  have fl : fr a < 4503599627370496 := by unfold fr; omega
  have b3 := bor_hidden fl
  have em : sm a = if ex a = 0 then fr a else fr a + 4503599627370496 := rfl
  have ee : se a = if ex a = 0 then -1074 else (ex a : Int) - 1075 := rfl
  obtain ⟨X, hX⟩ : ∃ X, ex a = X := ⟨_, rfl⟩
  obtain ⟨F, hF⟩ : ∃ F, fr a = F := ⟨_, rfl⟩
  obtain ⟨b, hb⟩ : ∃ b, ng a = b := ⟨_, rfl⟩
  obtain ⟨M, hM⟩ : ∃ M, F + 4503599627370496 = M := ⟨_, rfl⟩
  have HO1 := fun w => rof_n F w (W_of (by omega))
  have HO2 := fun w => rof_n M w (W_of (by omega))
  rw [hX] at b1 xl em ee
  rw [hF] at b2 b3 fl em
  rw [hM] at b3 em
  rw [hb] at HG ⊢
  have HG := Lib.hid HG
  have HN := Lib.hid HN
  have HI := Lib.hid HI
  have HO1 := Lib.hid HO1
  have HO2 := Lib.hid HO2
  have EM := Lib.hid em
  have EE := Lib.hid ee
  clear hX hF hb hM em ee h1 h2
  by_cases hx : X = 0
  · subst hx
    have e1 : sm a = F := EM.out
    have e2 : se a = -1074 := EE.out
    rw [e1, e2]
    clear e1 e2 EM EE
    go_enter Try.func60, Try.ntmps60
    go_wp2_with (first
      | (go_at_call 71; (with_reducible refine (HN.out _).mono ?_); rintro e1 w1 ⟨rfl, rfl⟩)
      | (go_at_call 72; (with_reducible refine (HI.out _).mono ?_); rintro e1 w1 ⟨rfl, rfl⟩)
      | (go_at_call 70; (with_reducible refine (HG.out _).mono ?_); rintro e1 w1 ⟨rfl, rfl⟩)
      | (go_at_call 83; (with_reducible refine (HO1.out _).mono ?_); rintro e1 w2 ⟨a1, n1, c1, rfl, hv1, hb1⟩))
    exact bodyPost_ret (v := .tuple #[.bool b, .slice a1 n1 c1, .int .i64 (-1074), .bool true]) (by simp [results, Try.results60, go_sem]) rfl ⟨_, _, _, rfl, hv1, hb1⟩
  · have e1 : sm a = M := by have := EM.out; rwa [if_neg hx] at this
    have e2 : se a = (X : Int) - 1075 := by have := EE.out; rwa [if_neg hx] at this
    rw [e1, e2]
    have hp : (0 : Int) < X := by omega
    clear e1 e2 EM EE
    go_enter Try.func60, Try.ntmps60
    go_wp2_with (first
      | (go_at_call 71; (with_reducible refine (HN.out _).mono ?_); rintro e1 w1 ⟨rfl, rfl⟩)
      | (go_at_call 72; (with_reducible refine (HI.out _).mono ?_); rintro e1 w1 ⟨rfl, rfl⟩)
      | (go_at_call 70; (with_reducible refine (HG.out _).mono ?_); rintro e1 w1 ⟨rfl, rfl⟩)
      | (go_at_call 83; (with_reducible refine (HO2.out _).mono ?_); rintro e1 w2 ⟨a1, n1, c1, rfl, hv1, hb1⟩))
    exact bodyPost_ret (v := .tuple #[.bool b, .slice a1 n1 c1, .int .i64 ((X : Int) - 1075), .bool true]) (by simp [results, Try.results60, go_sem]) rfl ⟨_, _, _, rfl, hv1, hb1⟩
end Go.Proofs.Ytecgkhijiogggaa
