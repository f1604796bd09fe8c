/- The program's Split. -/
import Derived.Test.YtecgkhijiogggaaW0
import Derived.Test.YtecgkhijiogggaaY3
import Derived.Deep.RegionHeld3
namespace Go.Proofs.Ytecgkhijiogggaa
set_option linter.unusedVariables false
set_option linter.unusedSimpArgs false
open Go.RowKit Go.Shelf Go.ChangeShapes Go.WideShapes SF

theorem psplit_bad (a : Nat) (ha : W a) (h : nan a = true ∨ inf a = true) (w : World) : Calls Try.prog 59 #[.int .u64 a] w fun e w' => e = .returned (.tuple #[.bool false, .slice none 0 0, .int .i64 0, .bool false]) ∧ w = w' := by
  have HN := fun w => isnan_c a ha w
  have HI := fun w => isinf_c a ha w
  by_cases h1 : nan a = true
  · rw [h1] at HN
    have HN := Lib.hid HN
    clear h h1 HI
    go_enter Try.func59, Try.ntmps59
    go_wp2_with (go_at_call 62; (with_reducible refine (HN.out _).mono ?_); rintro e1 w1 ⟨rfl, rfl⟩)
    exact bodyPost_ret (v := .tuple #[.bool false, .slice none 0 0, .int .i64 0, .bool false]) (by simp [results, Try.results59, go_sem]) rfl ⟨rfl, rfl⟩
  · have h2 : inf a = true := by rcases h with h | h; exact absurd h h1; exact h
    rw [Bool.eq_false_iff.2 h1] at HN
    rw [h2] at HI
    have HN := Lib.hid HN
    have HI := Lib.hid HI
    clear h h1 h2
    go_enter Try.func59, Try.ntmps59
    go_wp2_with (first
      | (go_at_call 62; (with_reducible refine (HN.out _).mono ?_); rintro e1 w1 ⟨rfl, rfl⟩)
      | (go_at_call 63; (with_reducible refine (HI.out _).mono ?_); rintro e1 w1 ⟨rfl, rfl⟩))
    exact bodyPost_ret (v := .tuple #[.bool false, .slice none 0 0, .int .i64 0, .bool false]) (by simp [results, Try.results59, go_sem]) rfl ⟨rfl, rfl⟩
theorem psplit_c (a : Nat) (ha : W a) (h1 : nan a = false) (h2 : inf a = false) (w : World) : Calls Try.prog 59 #[.int .u64 a] w fun e w' => ∃ b n c, e = .returned (.tuple #[.bool (ng a), .slice b n c, .int .i64 (se a), .bool true]) ∧ Nw w' (.slice b n c) (sm a) ∧ Below w.heap.size w w' := by
  have HN := fun w => isnan_c a ha w
  have HI := fun w => isinf_c a ha w
  rw [h1] at HN
  rw [h2] at HI
  have HS := fun w => split_c a ha w
  have lm := sm_lt a
  unfold num at HS
  have HW : Hid (wv [IntKind.u32.wrap (sm a : Int), IntKind.u32.wrap ((sm a : Int) / 4294967296)] = sm a ∧ Words [IntKind.u32.wrap (sm a : Int), IntKind.u32.wrap ((sm a : Int) / 4294967296)]) := by
    have e1 : IntKind.u32.wrap (sm a : Int) = (sm a : Int) % 4294967296 := IntKind.wrap_u32 _
    have e2 : IntKind.u32.wrap ((sm a : Int) / 4294967296) = (sm a : Int) / 4294967296 % 4294967296 := IntKind.wrap_u32 _
    rw [e1, e2]
    refine ⟨?_, words_cons.2 ⟨by omega, words_cons.2 ⟨by omega, words_nil⟩⟩⟩
    simp only [wv]; omega
  have m0 : (0 : Int) ≤ (sm a : Int) := Int.natCast_nonneg _
  have m1 : (sm a : Int) < 9007199254740992 := by omega
  obtain ⟨p, hp⟩ : ∃ p, ng a = p := ⟨_, rfl⟩
  obtain ⟨e, he⟩ : ∃ e, se a = e := ⟨_, rfl⟩
  obtain ⟨M, hM⟩ : ∃ M, sm a = M := ⟨_, rfl⟩
  rw [hp, he, hM] at HS
  rw [hM] at HW m0 m1
  rw [hp, he, hM]
  obtain ⟨m, hm⟩ : ∃ m : Int, (M : Int) = m := ⟨_, rfl⟩
  rw [hm] at HS HW m0 m1
  have HN := Lib.hid HN
  have HI := Lib.hid HI
  have HS := Lib.hid HS
  clear hp he hM hm h1 h2 lm
  go_enter Try.func59, Try.ntmps59
  go_wp2_with (first
    | (go_at_call 62; (with_reducible refine (HN.out _).mono ?_); rintro e1 w1 ⟨rfl, rfl⟩)
    | (go_at_call 63; (with_reducible refine (HI.out _).mono ?_); rintro e1 w1 ⟨rfl, rfl⟩)
    | (go_at_call 67; (with_reducible refine (HS.out _).mono ?_); rintro e1 w1 ⟨rfl, hb1⟩))
  obtain ⟨w2, hw2⟩ : ∃ x, w1.alloc (.cells #[.bool p, .int .u64 m, .int .i64 e] 49) = x := ⟨_, rfl⟩
  obtain ⟨B, hB⟩ : ∃ x, w1.heap.size = x := ⟨_, rfl⟩
  have k0 : w2.cell? ⟨B, 0, none⟩ = some (.bool p) := by rw [← hw2, ← hB]; simp [go_sem]
  have k1 : w2.cell? ⟨B, 1, none⟩ = some (.int .u64 m) := by rw [← hw2, ← hB]; simp [go_sem]
  have k2 : w2.cell? ⟨B, 2, none⟩ = some (.int .i64 e) := by rw [← hw2, ← hB]; simp [go_sem]
  have hb2 : Below w1.heap.size w1 w2 := by rw [← hw2]; exact (Below.refl _ _).alloc (Nat.le_refl _) _
  have hb3 := btn hb1 hb2
  have hf := Below.refl w2.heap.size w2
  rw [hw2, hB]
  clear hw2 hB hb1 hb2
  go_region_held3 (fun w' => w'.cell? ⟨B, 0, none⟩ = some (.bool p) ∧ w'.cell? ⟨B, 1, none⟩ = some (.int .u64 m) ∧ w'.cell? ⟨B, 2, none⟩ = some (.int .i64 e) ∧ Below w2.heap.size w2 w')
    (first
      | exact ⟨k0, k1, k2, (Below.refl _ _).drew⟩
      | (go_split_ands; exact ⟨by assumption, by assumption, by assumption, by assumption⟩)
      | (go_split_ands; exact ⟨cell_below hb5 (cell_below ((Below.refl _ _).alloc (Nat.le_refl _) _) (by assumption)), cell_below hb5 (cell_below ((Below.refl _ _).alloc (Nat.le_refl _) _) (by assumption)), cell_below hb5 (cell_below ((Below.refl _ _).alloc (Nat.le_refl _) _) (by assumption)), btn (btn (by assumption) ((Below.refl _ _).alloc (Nat.le_refl _) _)) hb5⟩)
      | (go_split_ands; exact ⟨cell_below hb5 (by assumption), cell_below hb5 (by assumption), cell_below hb5 (by assumption), btn (by assumption) hb5⟩)
      | (go_split_ands; exact ⟨cell_below ((Below.refl _ _).alloc (Nat.le_refl _) _) (by assumption), cell_below ((Below.refl _ _).alloc (Nat.le_refl _) _) (by assumption), cell_below ((Below.refl _ _).alloc (Nat.le_refl _) _) (by assumption), btn (by assumption) ((Below.refl _ _).alloc (Nat.le_refl _) _)⟩))
    (first
      | (go_at_call 103; refine (pnorm_c _ 2 2 _ _ ((rd_two w2 _ _ _).below (Below.refl _ _).drew) HW.out.2 (by decide)).mono ?_; rintro e1 w5 ⟨v, rfl, hv, hb5⟩))
  rw [HW.out.1] at hv
  obtain ⟨b5, n5, c5, rfl⟩ := Nw.slice hv
  go_wp2
  exact bodyPost_ret (v := .tuple #[.bool p, .slice b5 n5 c5, .int .i64 e, .bool true]) (by simp [results, Try.results59, go_sem]) rfl ⟨b5, n5, c5, rfl, hv, btn hb3 (drew_alloc_then hb5)⟩
end Go.Proofs.Ytecgkhijiogggaa
