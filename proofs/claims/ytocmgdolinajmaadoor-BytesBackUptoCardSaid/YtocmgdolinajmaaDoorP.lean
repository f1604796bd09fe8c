/- Escapes: what they say, plain; the small functions. -/
import Derived.Test.YtocmgdolinajmaaDoorK
import Derived.Defers
import Derived.Recover
import Derived.BigQuiet
import Derived.WalkLawsBesides
namespace Go.Proofs.YtocmgdolinajmaaDoor
set_option linter.unusedVariables false
set_option linter.unusedSimpArgs false
open Go.RowKit

def lowV (c : Int) : Int := if 65 ≤ c ∧ c ≤ 90 then c + 32 else c
def hexV (c : Int) : Int := if 48 ≤ c ∧ c ≤ 57 then c - 48 else if 97 ≤ c ∧ c ≤ 102 then c - 87 else if 65 ≤ c ∧ c ≤ 70 then c - 55 else -1
def BadIface : Value := .iface 52 (.agg #[])
def Bad : List PanicEntry := [{ v := BadIface, recovered := false }]
theorem lower_c (c : Int) (h0 : 0 ≤ c) (h1 : c < 256) (w : World) : Calls Tryd.prog 26 #[.int .u8 c] w fun e w' => e = .returned (.int .u8 (lowV c)) ∧ w = w' := by
  by_cases a : 65 ≤ c
  · by_cases b : c ≤ 90
    · have e := Lib.hid (show lowV c = c + 32 from if_pos ⟨a, b⟩)
      go_enter Tryd.func26, Tryd.ntmps26
      go_wp2
      go_ret
      exact ⟨ret1 (by rw [e.out]; omega), rfl⟩
    · have e := Lib.hid (show lowV c = c from if_neg (fun h => b h.2))
      go_enter Tryd.func26, Tryd.ntmps26
      go_wp2
      go_ret
      exact ⟨ret1 (by rw [e.out]), rfl⟩
  · have e := Lib.hid (show lowV c = c from if_neg (fun h => a h.1))
    go_enter Tryd.func26, Tryd.ntmps26
    go_wp2
    go_ret
    exact ⟨ret1 (by rw [e.out]), rfl⟩
theorem hex_yes (c : Int) (h0 : 0 ≤ c) (h1 : c < 256) (h : 0 ≤ hexV c) (w : World) : Calls Tryd.prog 44 #[.int .u8 c] w fun e w' => e = .returned (.int .u8 (hexV c)) ∧ w = w' := by
  have L := Lib.hid (fun w => lower_c c h0 h1 w)
  obtain ⟨d, hd⟩ : ∃ d, lowV c = d := ⟨_, rfl⟩
  rw [hd] at L
  have key : (48 ≤ d ∧ d ≤ 57 ∧ hexV c = d - 48) ∨ (97 ≤ d ∧ d ≤ 102 ∧ hexV c = d - 87) := by
    unfold hexV at h ⊢; unfold lowV at hd
    split at h
    · left; rename_i g; rw [if_neg (by omega)] at hd; rw [if_pos g]; omega
    · split at h
      · right; rename_i g1 g; rw [if_neg (by omega)] at hd; rw [if_neg g1, if_pos g]; omega
      · split at h
        · right; rename_i g1 g2 g; rw [if_pos (by omega)] at hd; rw [if_neg g1, if_neg g2, if_pos g]; omega
        · omega
  clear hd
  rcases key with ⟨a, b, e⟩ | ⟨a, b, e⟩
  · rw [e]; clear e h
    go_enter Tryd.func44, Tryd.ntmps44
    go_wp2_with (go_at_call 26; refine (L.out _).mono ?_; rintro e w' ⟨rfl, rfl⟩)
    go_ret
    exact ⟨rfl, rfl⟩
  · rw [e]; clear e h
    have i1 : IntKind.u8.wrap (d - 97) = d - 97 := by simp only [IntKind.wrap_u8]; omega
    go_enter Tryd.func44, Tryd.ntmps44
    go_wp2_with (go_at_call 26; refine (L.out _).mono ?_; rintro e w' ⟨rfl, rfl⟩)
    go_ret
    exact ⟨ret1 (by omega), rfl⟩
theorem hex_no (c : Int) (h0 : 0 ≤ c) (h1 : c < 256) (h : hexV c < 0) (w : World) : Calls Tryd.prog 44 #[.int .u8 c] w fun e w' => e = .panicked Bad ∧ w = w' := by
  have L := Lib.hid (fun w => lower_c c h0 h1 w)
  obtain ⟨d, hd⟩ : ∃ d, lowV c = d := ⟨_, rfl⟩
  rw [hd] at L
  have key : ¬ (48 ≤ d ∧ d ≤ 57) ∧ ¬ (97 ≤ d ∧ d ≤ 102) := by
    unfold hexV at h; unfold lowV at hd
    split at h
    · omega
    · split at h
      · omega
      · split at h
        · omega
        · split at hd <;> omega
  clear hd h
  obtain ⟨a, b⟩ := key
  have fin : ∀ (w : World), True := fun _ => trivial
  by_cases c1 : 48 ≤ d
  · have c3 : ¬ d ≤ 57 := by omega
    by_cases c2 : 97 ≤ d
    · have c4 : ¬ d ≤ 102 := by omega
      clear a b
      go_enter Tryd.func44, Tryd.ntmps44
      go_wp2_with (go_at_call 26; refine (L.out _).mono ?_; rintro e w' ⟨rfl, rfl⟩)
      exact ⟨rfl, rfl, rfl⟩
    · clear a b
      go_enter Tryd.func44, Tryd.ntmps44
      go_wp2_with (go_at_call 26; refine (L.out _).mono ?_; rintro e w' ⟨rfl, rfl⟩)
      exact ⟨rfl, rfl, rfl⟩
  · have c2 : ¬ 97 ≤ d := by omega
    clear a b
    go_enter Tryd.func44, Tryd.ntmps44
    go_wp2_with (go_at_call 26; refine (L.out _).mono ?_; rintro e w' ⟨rfl, rfl⟩)
    exact ⟨rfl, rfl, rfl⟩

/-- What stands behind a backslash says, and how many bytes it has; 0: nothing right. -/
def oneV : List Int → List Int × Nat
  | [] => ([], 0)
  | c :: t =>
    if c = 97 then ([7], 1) else if c = 98 then ([8], 1) else if c = 101 then ([27], 1) else if c = 102 then ([12], 1)
    else if c = 108 then ([10], 1) else if c = 110 then ([10], 1) else if c = 109 then ([13, 10], 1) else if c = 113 then ([34], 1) else if c = 34 then ([34], 1)
    else if c = 114 then ([13], 1) else if c = 116 then ([9], 1) else if c = 118 then ([11], 1) else if c = 122 then ([0], 1) else if c = 92 then ([92], 1)
    else if c = 120 then (if 3 ≤ (c :: t).length ∧ 0 ≤ hexV (t.getD 0 0) ∧ 0 ≤ hexV (t.getD 1 0) then ([16 * hexV (t.getD 0 0) + hexV (t.getD 1 0)], 3) else ([], 0))
    else ([], 0)
theorem hexV_range (c : Int) : -1 ≤ hexV c ∧ hexV c ≤ 15 := by unfold hexV; split <;> (try split) <;> (try split) <;> omega
theorem Rd.made1 (w : World) (T : TypeId) (x : Int) : Rd (w.alloc (.cells #[.int .u8 x] T)) .u8 (.slice (some ⟨w.heap.size, 0, none⟩) 1 1) [x] :=
  Rd.mk _ 0 rfl (Nat.le_refl _) (fun i hi => by
    have : i = 0 := by simpa using hi
    subst this; exact cell_new w _ _ _ _ rfl)
/-- Which letter it is. -/
theorem one_letter (c : Int) : c = 97 ∨ c = 98 ∨ c = 101 ∨ c = 102 ∨ c = 108 ∨ c = 110 ∨ c = 109 ∨ c = 113 ∨ c = 34 ∨ c = 114 ∨ c = 116 ∨ c = 118 ∨ c = 122 ∨ c = 92 ∨ c = 120 ∨
    ((c == 97) = false ∧ (c == 98) = false ∧ (c == 101) = false ∧ (c == 102) = false ∧ (c == 108) = false ∧ (c == 110) = false ∧ (c == 109) = false ∧ (c == 113) = false ∧ (c == 34) = false ∧ (c == 114) = false ∧ (c == 116) = false ∧ (c == 118) = false ∧ (c == 122) = false ∧ (c == 92) = false ∧ (c == 120) = false) := by
  simp only [beq_eq_false_iff_ne]; omega
theorem one_nil (l : List Int) (h : l = []) : oneV l = ([], 0) := by subst h; rfl
theorem one_none {c : Int} {t : List Int} (h : (c == 97) = false ∧ (c == 98) = false ∧ (c == 101) = false ∧ (c == 102) = false ∧ (c == 108) = false ∧ (c == 110) = false ∧ (c == 109) = false ∧ (c == 113) = false ∧ (c == 34) = false ∧ (c == 114) = false ∧ (c == 116) = false ∧ (c == 118) = false ∧ (c == 122) = false ∧ (c == 92) = false ∧ (c == 120) = false) : oneV (c :: t) = ([], 0) := by
  simp only [beq_eq_false_iff_ne] at h
  unfold oneV
  simp [h]
/-- An escape is read: what it says, or nothing right. -/
def EscOk (s : List Int) (w : World) (e : Ending) (w' : World) : Prop :=
  Below w.heap.size w w' ∧ ((∃ v, e = .returned (.tuple #[v, .int .i64 ((oneV s).2 : Nat)]) ∧ Rd w' .u8 v (oneV s).1 ∧ (oneV s).2 ≠ 0) ∨ (e = .panicked Bad ∧ (oneV s).2 = 0))
theorem Rd.made2 (w : World) (T : TypeId) (x y : Int) : Rd (w.alloc (.cells #[.int .u8 x, .int .u8 y] T)) .u8 (.slice (some ⟨w.heap.size, 0, none⟩) 2 2) [x, y] :=
  Rd.mk _ 0 rfl (Nat.le_refl _) (fun i hi => by
    have : i = 0 ∨ i = 1 := by have : i < 2 := hi; omega
    rcases this with rfl | rfl <;> (rw [World.cell?_alloc_mark]; rfl))
theorem esc_two (x y : Int) (s : List Int) (w : World) (h : oneV s = ([x, y], 1)) : EscOk s w (.returned (.tuple #[.slice (some ⟨w.heap.size, 0, none⟩) 2 2, .int .i64 1])) (w.alloc (.cells #[.int .u8 x, .int .u8 y] 5)) := by
  unfold EscOk
  rw [h]
  exact ⟨(Below.refl _ _).alloc (Nat.le_refl _) _, .inl ⟨_, rfl, Rd.made2 _ _ _ _, Nat.one_ne_zero⟩⟩
theorem esc_letter (x : Int) (s : List Int) (w : World) (h : oneV s = ([x], 1)) : EscOk s w (.returned (.tuple #[.slice (some ⟨w.heap.size, 0, none⟩) 1 1, .int .i64 1])) (w.alloc (.cells #[.int .u8 x] 5)) := by
  unfold EscOk
  rw [h]
  exact ⟨(Below.refl _ _).alloc (Nat.le_refl _) _, .inl ⟨_, rfl, Rd.made1 _ _ _, Nat.one_ne_zero⟩⟩
set_option maxHeartbeats 2000000 in
theorem escape_c (v : Value) (s : List Int) (w : World) (hr : Rd w .u8 v s) (hb : Byt s) (hs : s.length ≤ 1000000) (hx : s.getD 0 0 ≠ 120) : Calls Tryd.prog 32 #[v] w fun e w' => EscOk s w e w' := by
  cases s with
  | nil =>
    obtain ⟨a, c, rfl⟩ := hr.len
    clear hr hb hs hx
    go_enter Tryd.func32, Tryd.ntmps32
    go_wp2
    exact ⟨rfl, Below.refl _ _, .inr ⟨rfl, rfl⟩⟩
  | cons x t =>
    obtain ⟨a, c, rfl⟩ := hr.len
    obtain ⟨hn, hc, g, off, rfl, hcell, _⟩ := hr.cons
    have hx : x ≠ 120 := hx
    rw [List.length_cons] at hs ⊢
    have hl : ¬ ((t.length + 1 : Nat) : Int) = 0 := by omega
    clear hr hb hn hc
    rcases one_letter x with rfl | rfl | rfl | rfl | rfl | rfl | rfl | rfl | rfl | rfl | rfl | rfl | rfl | rfl | rfl | h
    all_goals try (exact absurd rfl hx)
    all_goals clear hx
    all_goals first
      | (go_enter Tryd.func32, Tryd.ntmps32
         go_wp2
         go_ret2
         first
           | exact esc_letter _ _ _ rfl
           | exact esc_two _ _ _ _ rfl)
      | (have H := Lib.hid (one_none (t := t) h)
         obtain ⟨h1, h2, h3, h4, h5, h6, h7, h8, h9, h10, h11, h12, h13, h14, h15⟩ := h
         go_enter Tryd.func32, Tryd.ntmps32
         go_wp2
         exact ⟨rfl, Below.refl _ _, .inr ⟨rfl, by rw [H.out]⟩⟩)
end Go.Proofs.YtocmgdolinajmaaDoor
