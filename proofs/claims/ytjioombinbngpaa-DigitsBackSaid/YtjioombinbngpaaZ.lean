/- The law DigitsBack. -/
import Derived.Test.YtjioombinbngpaaY
import Derived.Laws.IdiomStrings
namespace Go.Proofs.Ytjioombinbngpaa
set_option linter.unusedVariables false
set_option linter.unusedSimpArgs false
open Go.RowKit Go.Shelf

theorem strOfNums_snoc (l : List Int) : strOfNums l ++ ⟨#[46]⟩ = strOfNums (l ++ [46]) := by
  apply ByteArray.ext
  apply Array.toList_inj.1
  rw [strOfNums_data]
  simp [strOfNums]
/-- '[]byte(s)', read. -/
theorem rd_row (w : World) (l : List Int) (hb : Byt l) (cap : Nat) (T : TypeId) (m : Nat × Nat) (hc : l.length ≤ cap) :
    Rd (w.alloc (.cells (bytesRow (strOfNums l) cap) T m)) .u8 (.slice (some ⟨w.heap.size, 0, none⟩) (strOfNums l).size cap) l := by
  refine Rd.mk _ 0 (strOfNums_size l) (by rw [strOfNums_size]; exact hc) (fun i hi => ?_)
  rw [Nat.zero_add, World.cell?_alloc_mark]
  have hs : i < (strOfNums l).data.size := by show i < (strOfNums l).size; rw [strOfNums_size]; exact hi
  rw [bytesRow_at _ _ _ hs]
  have e : (strOfNums l).data[i] = UInt8.ofNat (l[i]).toNat := by simp [strOfNums]
  have bx := hb l[i] (List.getElem_mem hi)
  rw [e]
  simp only [UInt8.toNat_ofNat', List.getD_eq_getElem?_getD, List.getElem?_eq_getElem hi, Option.getD_some]
  have : ((l[i].toNat % 2 ^ 8 : Nat) : Int) = l[i] := by omega
  rw [this]
theorem drew_alloc_below {w w' : World} {o : Obj} (h : (w.alloc o).drew = w') : Below w.heap.size w w' := by
  subst h; exact ((Below.refl _ w).alloc (Nat.le_refl _) o).drew
theorem drew_alloc_then {w w' : World} {o : Obj} (h : Below (w.alloc o).drew.heap.size (w.alloc o).drew w') : Below w.heap.size w w' :=
  below_then (drew_alloc_below (o := o) rfl) (by show w.heap.size ≤ (w.alloc o).heap.size; simp) h
set_option maxHeartbeats 1000000 in
theorem lback_walk (lo hi b : Int) (hl : Cell lo) (hh : Cell hi) (w : World) : Calls Try.prog 7 #[.int .i64 lo, .int .i64 hi, .int .i64 b] w fun e w' => e = .returned (.bool true) ∧ Below w.heap.size w w' := by
  have T := fun w => text_c lo hi b hl hh w
  by_cases hb : b < 2 ∨ 36 < b
  · have e : strOfNums (txtS b (UD lo hi)) = ⟨#[]⟩ := by unfold txtS; rw [if_pos hb]; rfl
    rw [e] at T
    have HT := Lib.hid T
    clear T e
    go_enter Try.func7, Try.ntmps7
    rcases hb with h | h
    · go_wp2_with (first
        | (go_at_call 16; refine (HT.out _).mono ?_; rintro e w1 ⟨rfl, hb1⟩)
        | (go_at_call 11; refine (awake_c _).mono ?_; rintro e w3 ⟨rfl, hb3⟩))
      go_ret
      exact ⟨rfl, below_then hb1 hb1.size hb3⟩
    · have h2 : ¬ b < 2 := by omega
      go_wp2_with (first
        | (go_at_call 16; refine (HT.out _).mono ?_; rintro e w1 ⟨rfl, hb1⟩)
        | (go_at_call 11; refine (awake_c _).mono ?_; rintro e w3 ⟨rfl, hb3⟩))
      go_ret
      exact ⟨rfl, below_then hb1 hb1.size hb3⟩
  · have b2 : 2 ≤ b := by omega
    have b36 : b ≤ 36 := by omega
    have u0 := UD_bounds lo hi
    have ud := dlo_UD lo hi hl hh
    obtain ⟨t1, t2, t3, t4, t5⟩ := txt_all b (UD lo hi) b2 b36 u0.1 u0.2
    have e : txtS b (UD lo hi) = txt b (UD lo hi) := by unfold txtS; rw [if_neg hb]
    obtain ⟨p1, p2⟩ := pnum_txt b (UD lo hi) _ t1 t3 t4 t5
    rw [ud.1] at p1 p2
    rw [ud.2] at p2
    have by1 : Byt (txt b (UD lo hi)) := fun x hx => by have := t5 x hx; omega
    have by2 : Byt (txt b (UD lo hi) ++ [46]) := fun x hx => by
      rw [List.mem_append] at hx
      rcases hx with h | h
      · exact by1 x h
      · simp at h; omega
    have C := fun (v : Value) (w : World) (h : Rd w .u8 v (txt b (UD lo hi))) => more0_c b v _ _ _ _ t4 rfl t3 w h by1 (by omega)
    rw [ud.1, ud.2] at C
    have P1 := fun (v : Value) (w : World) (h : Rd w .u8 v (txt b (UD lo hi))) => parse_c b v _ w h by1 (by omega)
    have P2 := fun (v : Value) (w : World) (h : Rd w .u8 v (txt b (UD lo hi) ++ [46])) => parse_c b v _ w h by2 (by simp; omega)
    rw [p1] at P1
    rw [p2] at P2
    rw [e] at T
    have S1 := strOfNums_size (txt b (UD lo hi))
    have S2 := strOfNums_snoc (txt b (UD lo hi))
    have R1 := fun (w : World) cap Ty m => rd_row w (txt b (UD lo hi)) by1 cap Ty m
    have R2 := fun (w : World) cap Ty m => rd_row w (txt b (UD lo hi) ++ [46]) by2 cap Ty m
    obtain ⟨l, hl'⟩ : ∃ l, txt b (UD lo hi) = l := ⟨_, rfl⟩
    rw [hl'] at T C P1 P2 S1 S2 R1 R2 t1 t2
    obtain ⟨s, hs⟩ : ∃ s, strOfNums l = s := ⟨_, rfl⟩
    obtain ⟨s2, hs2⟩ : ∃ s, strOfNums (l ++ [46]) = s := ⟨_, rfl⟩
    rw [hs] at T S1 S2 R1
    rw [hs2] at S2 R2
    rw [← S1] at C
    have HT := Lib.hid T
    have HC := Lib.hid C
    have H1 := Lib.hid P1
    have H2 := Lib.hid P2
    have HR1 := Lib.hid R1
    have HR2 := Lib.hid R2
    have HS1 := Lib.hid S1
    have HS2 : Hid (s2.size = (l ++ [46]).length) := Lib.hid (by rw [← hs2, strOfNums_size])
    have q1 : 1 ≤ s.size := by omega
    have q2 : s.size ≤ 128 := by omega
    clear T C P1 P2 R1 R2 hs hs2 hl' by1 by2 p1 p2 e t1 t2 t3 t4 t5 ud u0 hb S1
    go_enter Try.func7, Try.ntmps7
    go_wp2_with (first
      | (go_at_call 16; refine (HT.out _).mono ?_; rintro e w1 ⟨rfl, hb1⟩)
      | (go_at_call 12; refine (HC.out _ _ ((HR1.out _ _ _ _ (HS1.out ▸ grownCap_ge _ _ _ _)).below ((Below.refl _ _).drew))).mono ?_; rintro e w2 ⟨rfl, hw2⟩; have hb2 := drew_alloc_below hw2; clear hw2)
      | (go_at_call 9; with_reducible refine (H2.out _ _ ((HR2.out _ _ _ _ (HS2.out ▸ grownCap_ge _ _ _ _)).below ((Below.refl _ _).drew))).mono ?_; rintro e w3 ⟨rfl, hw3⟩; have hb3 := drew_alloc_then hw3; clear hw3)
      | (go_at_call 9; with_reducible refine (H1.out _ _ ((HR1.out _ _ _ _ (HS1.out ▸ grownCap_ge _ _ _ _)).below ((Below.refl _ _).drew))).mono ?_; rintro e w4 ⟨rfl, hw4⟩; have hb4 := drew_alloc_then hw4; clear hw4)
      | (go_at_call 11; refine (awake_c _).mono ?_; rintro e w5 ⟨rfl, hb5⟩)
      | rw [run_bytes_of_string _ _ _ 5 _ Try.underlying9 Try.underlying22 Try.underlying5])
    go_ret
    exact ⟨rfl, below_then hb1 hb1.size (hb2.trans ((hb3.trans ((hb4.trans (hb5.mono hb4.size)).mono hb3.size)).mono hb2.size))⟩
end Go.Proofs.Ytjioombinbngpaa
