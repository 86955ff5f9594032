/- Annotations: when two lists are the same. -/
import Derived.Test.YthkagpefbelhoaaGreatDoorPNoteZD
set_option linter.unusedVariables false
set_option linter.unusedSimpArgs false
set_option linter.unnecessarySimpa false
namespace Go.Ab
open Go

/- Same. -/
def same1 (x y : PV) : Bool := nName x == nName y && ((vKind (nVal x) == vKind (nVal y)) && ((vBits (nVal x) == vBits (nVal y)) && (vText (nVal x) == vText (nVal y))))
def sameL : List PV → List PV → Bool
  | x :: r, y :: q => same1 x y && sameL r q
  | _, _ => true
def sameN (a b : List PV) : Bool := decide (a.length = b.length) && sameL a b
theorem same1_refl (x : PV) : same1 x x = true := by simp [same1]
theorem sameL_refl (l : List PV) : sameL l l = true := by
  induction l with
  | nil => rfl
  | cons x r ih => rw [sameL, same1_refl, ih]; rfl
theorem sameN_refl (l : List PV) : sameN l l = true := by rw [sameN, sameL_refl]; simp
theorem lenNe (a b : List PV) : ((a.length : Int) != (b.length : Int)) = !decide (a.length = b.length) := by
  by_cases h : a.length = b.length
  · simp [h]
  · have : ¬ ((a.length : Int) = (b.length : Int)) := by omega
    simp [h, bne, this]
theorem refSame_loop (a b : List PV) (hl : a.length ≤ 1048576) (hab : a.length = b.length) : ∀ (m i : Nat), a.length - i ≤ m → i ≤ a.length →
    loopW (S8_5step 0) (a, b, (i : Int)) = some (bif sameL (a.drop i) (b.drop i) then .inr () else .inl false) := by
  intro m
  induction m with
  | zero =>
    intro i hm hi
    have hlt : ¬ i < a.length := by omega
    rw [List.drop_eq_nil_of_le (by omega)]
    exact loopW_end (by simp only [S8_5step, S8_5, declt, hlt, decide_false, cond_false]; rfl)
  | succ m ih =>
    intro i hm hi
    by_cases hlt : i < a.length
    · have hlb : i < b.length := by omega
      rw [drop_cons hlt .bad, drop_cons hlb .bad, sameL]
      have step : S8_5step 0 (a, b, (i : Int)) = some (bif same1 (a.getD i .bad) (b.getD i .bad) then .inl (a, b, ((i + 1 : Nat) : Int)) else .inr (.inl false)) := by
        simp only [S8_5step, S8_5, declt, inRange_nat, hlt, hlb, decide_true, cond_true, Int.toNat_natCast, imp, cond_same, wadd1 (i := i) (by omega), same1, nName, nVal, vKind, vBits, vText, bne]
        generalize (((a.getD i .bad).fld 0).asStr == ((b.getD i .bad).fld 0).asStr) = q0
        generalize ((((a.getD i .bad).fld 1).fld 0).asInt == (((b.getD i .bad).fld 1).fld 0).asInt) = q1
        generalize ((((a.getD i .bad).fld 1).fld 1).asInt == (((b.getD i .bad).fld 1).fld 1).asInt) = q2
        generalize ((((a.getD i .bad).fld 1).fld 2).asStr == (((b.getD i .bad).fld 1).fld 2).asStr) = q3
        cases q0 <;> cases q1 <;> cases q2 <;> cases q3 <;> rfl
      cases hp : same1 (a.getD i .bad) (b.getD i .bad) with
      | false => rw [hp] at step; exact loopW_end step
      | true =>
        rw [hp] at step
        rw [loopW_go step, ih (i + 1) (by omega) (by omega)]
        rfl
    · rw [List.drop_eq_nil_of_le (by omega)]
      exact loopW_end (by simp only [S8_5step, S8_5, declt, hlt, decide_false, cond_false]; rfl)
theorem refSame_eq (a b : List PV) (hl : a.length ≤ 1048576) : F8 0 a b = some (sameN a b) := by
  unfold F8 sameN
  rw [lenNe]
  by_cases h : a.length = b.length
  · have hh := refSame_loop a b hl h a.length 0 (by omega) (by omega)
    rw [decide_eq_true h, Bool.not_true, cond_false, loopQ0, show (0 : Int) = ((0 : Nat) : Int) from rfl, hh, List.drop_zero, List.drop_zero]
    cases sameL a b <;> rfl
  · rw [decide_eq_false h]; rfl

end Go.Ab
