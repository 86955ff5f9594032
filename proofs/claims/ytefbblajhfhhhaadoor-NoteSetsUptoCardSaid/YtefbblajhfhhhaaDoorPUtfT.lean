/- UTF-8: what the printed functions compute. -/
import Derived.Test.YtefbblajhfhhhaaDoorAbUtf
import Derived.Test.YtefbblajhfhhhaaDoorGenS
set_option linter.unusedVariables false
set_option linter.unusedSimpArgs false
set_option linter.unnecessarySimpa false
namespace Go.Ab
open Go
theorem wadd {i k : Nat} (h : i + k ≤ 9223372036854775807) : IntKind.wrap .i64 ((i : Int) + (k : Int)) = ((i + k : Nat) : Int) := by rw [← Int.natCast_add]; exact wrap64_nat h
theorem wadd1 {i : Nat} (h : i + 1 ≤ 9223372036854775807) : IntKind.wrap .i64 ((i : Int) + (1 : Int)) = ((i + 1 : Nat) : Int) := wadd (k := 1) h
theorem gb {α : Type} (b c : Bool) (k : Bool → Option α) : ((bif b then some c else some false).bind k) = k (b && c) := by cases b <;> rfl
theorem cond_same {α : Type} (b : Bool) (x : α) : (bif b then x else x) = x := by cases b <;> rfl
theorem declt (a b : Nat) : decide ((a : Int) < (b : Int)) = decide (a < b) := by simp
theorem hasPrefix3 (s : List UInt8) : F56 0 s ([239, 191, 189] : List UInt8) = some (decide ((s.length : Int) ≥ 3) && (s.take 3 == ([239, 191, 189] : List UInt8))) := by
  unfold F56 F68
  have e : ((([239, 191, 189] : List UInt8).length : Nat) : Int) = (3 : Int) := rfl
  simp only [e]
  by_cases h : (3 : Int) ≤ (s.length : Int)
  · have h2 : decide ((0 : Int) ≤ 0 ∧ (0 : Int) ≤ 3 ∧ (3 : Int) ≤ (s.length : Int)) = true := by simp; omega
    simp only [h2, imp, ge_iff_le, h, decide_true, cond_true, Option.bind_some, Bool.true_and]
    rfl
  · simp only [imp, ge_iff_le, h, decide_false, cond_false, Bool.not_false, cond_same, cond_true, Option.bind_some, Bool.false_and]
theorem wrong_eq (s : List UInt8) (i : Nat) (hi : i < s.length) : F58 0 s (i : Int) ((decodeAt s i).1 : Int) = some (decide (sizeAt s i = 0)) := by
  unfold F58
  have h2 : decide ((0 : Int) ≤ (i : Int) ∧ (i : Int) ≤ (s.length : Int) ∧ (s.length : Int) ≤ (s.length : Int)) = true := by simp; omega
  have h3 := hasFFFD s i (by omega)
  have h4 := sizeAt_decode s i hi
  have hp := (decodeN_pos (s.length - i) (byteAt s i) (byteAt s (i + 1)) (byteAt s (i + 2)) (byteAt s (i + 3))).1
  by_cases hc : (decodeAt s i).1 = 65533
  · have hcb : (((decodeAt s i).1 : Int) == (65533 : Int)) = true := by simp; omega
    simp only [hcb, h2, imp, cond_true, Int.toNat_natCast, hasPrefix3, h3, Option.bind_some]
    rw [h4]
    by_cases hf : 2 < s.length - i ∧ byteAt s i = 239 ∧ byteAt s (i + 1) = 191 ∧ byteAt s (i + 2) = 189
    · simp only [hf, and_self, decide_true, Bool.not_true, not_true_eq_false, and_false, if_false]
      have : (decodeAt s i).2 ≠ 0 := by grind [decodeAt]
      simp [this]
    grind
  · have hcb : (((decodeAt s i).1 : Int) == (65533 : Int)) = false := by simp; omega
    simp only [hcb, imp, cond_true, cond_false, Bool.not_false, Option.bind_some]
    rw [h4, if_neg (by simp [hc])]
    have : (decodeAt s i).2 ≠ 0 := by grind [decodeAt]
    simp [this]
theorem bad_loop (s : List UInt8) : ∀ (m i : Nat), s.length - i ≤ m → i ≤ s.length → ∃ y, loopW (S53_3step 0) (s, (), s, (i : Int)) = some y ∧ (badFrom s i = -1 → ∃ z, y = .inr z) ∧ (badFrom s i ≠ -1 → ∃ z, y = .inl (badFrom s i, z)) := by
  intro m
  induction m with
  | zero =>
    intro i hm hi
    have hlt : ¬ i < s.length := by omega
    rw [badFrom_eq, if_neg hlt]
    refine ⟨_, loopW_end (y := .inr (s, (i : Int))) ?_, fun _ => ⟨_, rfl⟩, fun h => absurd rfl h⟩
    simp only [S53_3step, S53_3, Int.toNat_natCast, hlt, decide_false, cond_false]
  | succ m ih =>
    intro i hm hi
    by_cases hlt : i < s.length
    · rw [badFrom_eq, if_pos hlt]
      have hw := wrong_eq s i hlt
      have hd := decode_eq s i
      have h4 := sizeAt_decode s i hlt
      have hle := (sizeN_le (s.length - i) (byteAt s i) (byteAt s (i + 1)) (byteAt s (i + 2)) (byteAt s (i + 3)) (by omega)).1
      by_cases h0 : sizeAt s i = 0
      · rw [if_pos h0]
        refine ⟨.inl ((i : Int), s, ((i + (decodeAt s i).2 : Nat) : Int)), loopW_end ?_, fun h => by omega, fun _ => ⟨_, rfl⟩⟩
        simp only [S53_3step, S53_3, Int.toNat_natCast, hlt, decide_true, cond_true, hd, hw, h0, Option.bind_some]
      · rw [if_neg h0]
        have h5 : sizeAt s i = (decodeAt s i).2 := by
          grind
        rw [loopW_go (x1 := (s, (), s, ((i + sizeAt s i : Nat) : Int)))]
        · have : sizeAt s i ≤ s.length - i := hle
          exact ih _ (by omega) (by omega)
        · have hz : decide (sizeAt s i = 0) = false := decide_eq_false h0
          rw [hz] at hw
          simp only [S53_3step, S53_3, Int.toNat_natCast, hlt, decide_true, cond_true, hd, hw, cond_false, Option.bind_some, h5]
    grind
theorem bad_eq (s : List UInt8) : F53 0 s = some (bad s) := by
  obtain ⟨y, h, h1, h2⟩ := bad_loop s s.length 0 (by omega) (by omega)
  unfold F53
  rw [loopQ0, h]
  unfold bad
  by_cases hb : badFrom s 0 = -1
  · obtain ⟨z, rfl⟩ := h1 hb
    rw [hb]; rfl
  · obtain ⟨z, rfl⟩ := h2 hb
    rfl
theorem valid_eq (s : List UInt8) : F42 0 s = some (valid s) := by
  unfold F42
  rw [bad_eq s]; rfl
end Go.Ab
