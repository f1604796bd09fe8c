/- Contracts of xchar's and bobbinref6's encoders, and of Width. -/
import Derived.Test.YtpkfkipnagajkaaDoorK
import Derived.Test.YtpkfkipnagajkaaDoorShelf
namespace Go.Proofs.YtpkfkipnagajkaaDoor
set_option linter.unusedVariables false
set_option linter.unusedSimpArgs false
open Go.RowKit Go.Shelf

theorem ofInt_i64 (a : Nat) (ha : a < 9223372036854775808) : (BitVec.ofInt 64 (a : Int)).toNat = a := by
  rw [BitVec.ofInt_natCast, BitVec.toNat_ofNat]; exact Nat.mod_eq_of_lt (by omega)
theorem i64_and_nat (a b : Nat) (ha : a < 9223372036854775808) (hb : b < 9223372036854775808) : bits .and .i64 (a : Int) (b : Int) = ((a &&& b : Nat) : Int) := by
  have hx : a &&& b < 2 ^ 63 := Nat.and_lt_two_pow _ (by omega)
  show IntKind.i64.wrap ((BitVec.ofInt 64 (a : Int) &&& BitVec.ofInt 64 (b : Int)).toNat : Int) = _
  rw [BitVec.toNat_and, ofInt_i64 a ha, ofInt_i64 b hb, IntKind.wrap_i64]
  omega
theorem i64_or_nat (a b : Nat) (ha : a < 9223372036854775808) (hb : b < 9223372036854775808) : bits .or .i64 (a : Int) (b : Int) = ((a ||| b : Nat) : Int) := by
  have hx : a ||| b < 2 ^ 63 := Nat.or_lt_two_pow (by omega) (by omega)
  show IntKind.i64.wrap ((BitVec.ofInt 64 (a : Int) ||| BitVec.ofInt 64 (b : Int)).toNat : Int) = _
  rw [BitVec.toNat_or, ofInt_i64 a ha, ofInt_i64 b hb, IntKind.wrap_i64]
  omega
theorem and63 (x : Int) (h0 : 0 ≤ x) (h1 : x < 9223372036854775808) : bits .and .i64 x 63 = x % 64 := by
  obtain ⟨n, rfl⟩ := Int.eq_ofNat_of_zero_le h0
  have := i64_and_nat n 63 (by omega) (by decide)
  rw [nat_mask6] at this
  rw [show ((63 : Int)) = ((63 : Nat) : Int) from rfl, this]
  omega
theorem or_at (s c : Nat) (x : Int) (h0 : 0 ≤ x) (h1 : x < 2 ^ s) (hc : c % 2 ^ s = 0) (hc1 : c < 9223372036854775808) (h2 : x < 9223372036854775808) : bits .or .i64 (c : Int) x = c + x := by
  obtain ⟨n, rfl⟩ := Int.eq_ofNat_of_zero_le h0
  have hn : n < 2 ^ s := by
    have : (n : Int) < ((2 ^ s : Nat) : Int) := by rw [Int.natCast_pow]; exact h1
    exact_mod_cast this
  rw [i64_or_nat c n hc1 (by omega), nat_join s c n hc hn]
  omega
theorem or192 (x : Int) (h0 : 0 ≤ x) (h1 : x < 64) : bits .or .i64 192 x = 192 + x := or_at 6 192 x h0 h1 (by decide) (by decide) (by omega)
theorem or224 (x : Int) (h0 : 0 ≤ x) (h1 : x < 32) : bits .or .i64 224 x = 224 + x := or_at 5 224 x h0 h1 (by decide) (by decide) (by omega)
theorem or240 (x : Int) (h0 : 0 ≤ x) (h1 : x < 16) : bits .or .i64 240 x = 240 + x := or_at 4 240 x h0 h1 (by decide) (by decide) (by omega)
theorem or128 (x : Int) (h0 : 0 ≤ x) (h1 : x < 64) : bits .or .i64 128 x = 128 + x := or_at 7 128 x h0 (by show x < (128 : Int); omega) (by decide) (by decide) (by omega)
theorem wrap_u8' (n : Int) (h0 : 0 ≤ n) (h1 : n < 256) : n % 256 = n := by omega

/-- Is a number a character? Its width; its bytes; the throw. -/
def isC (u : Int) : Bool := decide (0 ≤ u ∧ u ≤ 1114111 ∧ ¬ (55296 ≤ u ∧ u ≤ 57343))
def wd (u : Int) : Int := if isC u then (if u < 128 then 1 else if u < 2048 then 2 else if u < 65536 then 3 else 4) else 0
def enc (u : Int) : List Int := if isC u then Lib.encodeRuneZ u else []
def thr (u : Int) : Int := if isC u then 0 else -77
theorem isC_yes {u : Int} (h0 : 0 ≤ u) (h1 : u ≤ 1114111) (h2 : ¬ (55296 ≤ u ∧ u ≤ 57343)) : isC u = true := decide_eq_true ⟨h0, h1, h2⟩
theorem isC_no {u : Int} (h : u < 0 ∨ 1114111 < u ∨ (55296 ≤ u ∧ u ≤ 57343)) : isC u = false := decide_eq_false (by omega)
theorem isC_iff {u : Int} (h : isC u = true) : 0 ≤ u ∧ u ≤ 1114111 ∧ ¬ (55296 ≤ u ∧ u ≤ 57343) := of_decide_eq_true h
theorem enc_byt (u : Int) : Byt (enc u) := by
  unfold enc
  split
  · exact Lib.encodeRuneZ_byte u
  · intro x hx; simp at hx

theorem retv {v : Value} {a b : Int} (h : a = b) : Ending.returned (.tuple #[v, .int .i64 a]) = .returned (.tuple #[v, .int .i64 b]) := by rw [h]
theorem isChar_c (u : Int) (w : World) : Calls Tryd.prog 24 #[.int .i64 u] w fun e w' => e = .returned (.bool (isC u)) ∧ w = w' := by
  by_cases h0 : 0 ≤ u
  · by_cases h1 : u ≤ 1114111
    · have hv : Lib.validRune u = isC u := by
        unfold isC Lib.validRune
        rw [Bool.eq_iff_iff]
        simp
        omega
      go_enter Tryd.func24, Tryd.ntmps24
      go_wp2_with (go_at_call 29; refine (Tryd.utf8_ValidRune _ _).mono ?_; rintro e w' ⟨rfl, rfl⟩)
      go_ret
      exact ⟨rfl, rfl⟩
    · have hv := Lib.hid (isC_no (.inr (.inl (show 1114111 < u by omega))))
      go_enter Tryd.func24, Tryd.ntmps24
      go_wp2
      go_ret
      exact ⟨by rw [hv.out]; rfl, rfl⟩
  · have hv := Lib.hid (isC_no (.inl (show u < 0 by omega)))
    go_enter Tryd.func24, Tryd.ntmps24
    go_wp2
    go_ret
    exact ⟨by rw [hv.out]; rfl, rfl⟩
theorem width_c (u : Int) (w : World) : Calls Tryd.prog 17 #[.int .i64 u] w fun e w' => e = .returned (.int .i64 (wd u)) ∧ w = w' := by
  cases hc : isC u
  · have hv : Hid (wd u = 0) := Lib.hid (by unfold wd; rw [hc]; rfl)
    go_enter Tryd.func17, Tryd.ntmps17
    go_wp2_with (go_at_call 24; refine (isChar_c _ _).mono ?_; rintro e w' ⟨rfl, rfl⟩)
    go_ret
    exact ⟨by rw [hv.out]; rfl, rfl⟩
  · have b := isC_iff hc
    have b0 := b.1
    have b1 := b.2.1
    have hv : Lib.runeLen u = wd u := by
      unfold wd Lib.runeLen
      rw [hc]
      have b2 := b.2.2
      (repeat' split) <;> simp_all <;> omega
    have HV := Lib.hid hv
    clear b hv
    go_enter Tryd.func17, Tryd.ntmps17
    go_wp2_with (first
      | (go_at_call 24; refine (isChar_c _ _).mono ?_; rintro e w' ⟨rfl, rfl⟩)
      | (go_at_call 26; refine (Tryd.utf8_RuneLen _ _).mono ?_; rintro e w' ⟨rfl, rfl⟩))
    go_ret
    exact ⟨ret1 HV.out, rfl⟩
theorem encode_c (u : Int) (w : World) : Calls Tryd.prog 16 #[.int .i64 u] w fun e w' => ∃ v, e = .returned (.tuple #[v, .int .i64 (thr u)]) ∧ Rd w' .u8 v (enc u) ∧ Below w.heap.size w w' := by
  cases hc : isC u
  · have h1 : Hid (thr u = -77) := Lib.hid (by unfold thr; rw [hc]; rfl)
    have h2 : Hid (enc u = []) := Lib.hid (by unfold enc; rw [hc]; rfl)
    go_enter Tryd.func16, Tryd.ntmps16
    go_wp2_with (go_at_call 24; refine (isChar_c _ _).mono ?_; rintro e w' ⟨rfl, rfl⟩)
    go_ret2
    exact ⟨_, retv h1.out.symm, by rw [h2.out]; exact Rd.nil _ _ _, Below.refl _ _⟩
  · have b := isC_iff hc
    have b0 := b.1
    have b1 := b.2.1
    have h1 : Hid (thr u = 0) := Lib.hid (by unfold thr; rw [hc]; rfl)
    have h2 : Hid (enc u = Lib.encodeRuneZ u) := Lib.hid (by unfold enc; rw [hc]; rfl)
    clear b
    go_enter Tryd.func16, Tryd.ntmps16
    go_wp2_with (first
      | (go_at_call 24; refine (isChar_c _ _).mono ?_; rintro e w' ⟨rfl, rfl⟩)
      | (go_at_call 25; refine (Tryd.utf8_AppendRune_plain w.heap.size (.slice none 0 0) 0 [] u (by omega) (by omega) w ⟨rfl, .inl ⟨rfl, rfl⟩⟩ (by decide) (Nat.le_refl _)).mono ?_; rintro e w' ⟨v, rfl, ho, o, hg⟩))
    go_ret2
    exact ⟨_, retv h1.out.symm, by rw [h2.out]; exact Rd.of_own ho, ((Below.refl _ _).alloc (Nat.le_refl _) o).grown hg (by simp) (by simp [Value.ownBlock])⟩
theorem rwidth_c (u : Int) (w : World) : Calls Tryd.prog 22 #[.int .i64 u] w fun e w' => e = .returned (.int .i64 (wd u)) ∧ w = w' := by
  unfold wd isC
  go_enter Tryd.func22, Tryd.ntmps22
  go_wp2
  all_goals (go_ret; exact ⟨ret1 (by first | ((repeat' split) <;> simp_all <;> omega) | (simp_all <;> omega)), rfl⟩)
theorem Rd.of_alloc (w : World) (k : IntKind) (cs : List Int) (T : TypeId) : Rd (w.alloc (.cells (cs.map (Value.int k)).toArray T)) k (.slice (some ⟨w.heap.size, 0, none⟩) cs.length cs.length) cs := by
  refine ⟨_, _, rfl, Nat.le_refl _, .inr ⟨_, _, rfl, fun i hi => ?_⟩⟩
  simp [List.getElem?_eq_getElem hi, List.getD_eq_getElem?_getD, go_sem, hi]
theorem same_c (v0 v1 : Value) (l0 l1 : List Int) (w : World) (h0 : Rd w .u8 v0 l0) (h1 : Rd w .u8 v1 l1) (b0 : Byt l0) (b1 : Byt l1) : Calls Tryd.prog 19 #[v0, v1] w fun e w' => e = .returned (.bool (l0 == l1)) ∧ w = w' := by
  have c0 := h0.to_string (P := Tryd.prog) Tryd.underlying22 Tryd.underlying5 Tryd.underlying9
  have c1 := h1.to_string (P := Tryd.prog) Tryd.underlying22 Tryd.underlying5 Tryd.underlying9
  have hs := Lib.hid (str_eq b0 b1)
  obtain ⟨a, c, rfl, _, _⟩ := h0
  obtain ⟨a', c', rfl, _, _⟩ := h1
  go_enter Tryd.func19, Tryd.ntmps19
  go_wp2
  go_ret
  exact ⟨retb hs.out, rfl⟩
end Go.Proofs.YtpkfkipnagajkaaDoor
