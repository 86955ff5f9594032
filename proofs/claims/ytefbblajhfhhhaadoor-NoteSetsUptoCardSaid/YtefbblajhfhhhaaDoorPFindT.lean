/- Annotations: what Find, Flag and Same compute, in the program and in the specification. -/
import Derived.Test.YtefbblajhfhhhaaDoorPNoteT
set_option linter.unusedVariables false
set_option linter.unusedSimpArgs false
set_option linter.unnecessarySimpa false
namespace Go.Ab
open Go
/-- The place of the first item of a list, or -1. -/
def idxFrom (p : PV → Bool) : List PV → Nat → Int
  | [], _ => -1
  | x :: r, i => if p x then (i : Int) else idxFrom p r (i + 1)
theorem idxFrom_spec (p : PV → Bool) : ∀ (r : List PV) (i : Nat), (idxFrom p r i = -1 ∧ ∀ x, x ∈ r → p x = false) ∨ ∃ j : Nat, idxFrom p r i = ((i + j : Nat) : Int) ∧ j < r.length ∧ p (r.getD j .bad) = true := by
  intro r
  induction r with
  | nil => intro i; exact .inl ⟨rfl, fun x hx => by cases hx⟩
  | cons x r ih =>
    intro i
    unfold idxFrom
    by_cases hp : p x = true
    · rw [if_pos hp]
      exact .inr ⟨0, rfl, by simp, hp⟩
    · rw [if_neg hp]
      rcases ih (i + 1) with ⟨h1, h2⟩ | ⟨j, h1, h2, h3⟩
      · refine .inl ⟨h1, fun y hy => ?_⟩
        rcases List.mem_cons.1 hy with rfl | hy
        · simpa using hp
        · exact h2 y hy
      · exact .inr ⟨j + 1, by rw [h1]; congr 1; omega, by simp; omega, by simpa using h3⟩
def hasName (name : List UInt8) (n : PV) : Bool := nName n == name
def idxN (l : List PV) (name : List UInt8) : Int := idxFrom (hasName name) l 0
theorem idxFrom_lt {p : PV → Bool} {l : List PV} : idxFrom p l 0 < 0 ∨ ∃ j : Nat, idxFrom p l 0 = (j : Int) ∧ j < l.length ∧ p (l.getD j .bad) = true := by
  rcases idxFrom_spec p l 0 with ⟨h, _⟩ | ⟨j, h1, h2, h3⟩
  · exact .inl (by rw [h]; decide)
  · exact .inr ⟨j, by simpa using h1, h2, h3⟩
theorem index_loop (l : List PV) (name : List UInt8) (hl : l.length ≤ 1048576) : ∀ (m i : Nat), l.length - i ≤ m → i ≤ l.length →
    loopW (S17_3step 0) (l, (), (l.length : Int), (i : Int), name) = some (bif decide (idxFrom (hasName name) (l.drop i) i = -1) then .inr name else .inl (idxFrom (hasName name) (l.drop i) i, name)) := by
  intro m
  induction m with
  | zero =>
    intro i hm hi
    have hlt : ¬ i < l.length := by omega
    rw [List.drop_eq_nil_of_le (by omega)]
    exact loopW_end (by simp only [S17_3step, S17_3, declt, hlt, decide_false, cond_false]; rfl)
  | succ m ih =>
    intro i hm hi
    by_cases hlt : i < l.length
    · rw [drop_cons hlt .bad, idxFrom]
      have e : F25 0 (l.getD i .bad) () name = some (hasName name (l.getD i .bad), name) := rfl
      by_cases hp : hasName name (l.getD i .bad) = true
      · rw [if_pos hp, decide_eq_false (by omega)]
        refine loopW_end ?_
        simp only [S17_3step, S17_3, declt, inRange_nat, hlt, decide_true, cond_true, Int.toNat_natCast, e, Option.bind_some, hp]
        rfl
      · rw [if_neg hp, loopW_go (x1 := (l, (), (l.length : Int), ((i + 1 : Nat) : Int), name)), ih (i + 1) (by omega) (by omega)]
        rw [Bool.not_eq_true] at hp
        simp only [S17_3step, S17_3, declt, inRange_nat, hlt, decide_true, cond_true, Int.toNat_natCast, e, Option.bind_some, hp, cond_false, wadd1 (i := i) (by omega)]
    · rw [List.drop_eq_nil_of_le (by omega)]
      exact loopW_end (by simp only [S17_3step, S17_3, declt, hlt, decide_false, cond_false]; rfl)
theorem index_eq (l : List PV) (name : List UInt8) (hl : l.length ≤ 1048576) : F16 0 l name = some (idxN l name) := by
  have h := index_loop l name hl l.length 0 (by omega) (by omega)
  unfold F16 F17
  rw [loopQ0, show (0 : Int) = ((0 : Nat) : Int) from rfl, h, List.drop_zero]
  unfold idxN
  by_cases h0 : idxFrom (hasName name) l 0 = -1
  · rw [decide_eq_true h0, h0]; rfl
  · rw [decide_eq_false h0]; rfl
theorem refIndex_loop (l : List PV) (name : List UInt8) (hl : l.length ≤ 1048576) : ∀ (m i : Nat), l.length - i ≤ m → i ≤ l.length →
    loopW (S20_3step 0) (l, name, (i : Int)) = some (bif decide (idxFrom (hasName name) (l.drop i) i = -1) then .inr () else .inl (idxFrom (hasName name) (l.drop i) i)) := by
  intro m
  induction m with
  | zero =>
    intro i hm hi
    have hlt : ¬ i < l.length := by omega
    rw [List.drop_eq_nil_of_le (by omega)]
    exact loopW_end (by simp only [S20_3step, S20_3, declt, hlt, decide_false, cond_false]; rfl)
  | succ m ih =>
    intro i hm hi
    by_cases hlt : i < l.length
    · rw [drop_cons hlt .bad, idxFrom]
      have e : (((l.getD i .bad).fld 0).asStr == name) = hasName name (l.getD i .bad) := rfl
      by_cases hp : hasName name (l.getD i .bad) = true
      · rw [if_pos hp, decide_eq_false (by omega)]
        refine loopW_end ?_
        simp only [S20_3step, S20_3, declt, inRange_nat, hlt, decide_true, cond_true, Int.toNat_natCast, e, hp]
        rfl
      · rw [if_neg hp, loopW_go (x1 := (l, name, ((i + 1 : Nat) : Int))), ih (i + 1) (by omega) (by omega)]
        rw [Bool.not_eq_true] at hp
        simp only [S20_3step, S20_3, declt, inRange_nat, hlt, decide_true, cond_true, Int.toNat_natCast, e, hp, cond_false, wadd1 (i := i) (by omega)]
    · rw [List.drop_eq_nil_of_le (by omega)]
      exact loopW_end (by simp only [S20_3step, S20_3, declt, hlt, decide_false, cond_false]; rfl)
theorem refIndex_eq (l : List PV) (name : List UInt8) (hl : l.length ≤ 1048576) : F20 0 l name = some (idxN l name) := by
  have h := refIndex_loop l name hl l.length 0 (by omega) (by omega)
  unfold F20
  rw [loopQ0, show (0 : Int) = ((0 : Nat) : Int) from rfl, h, List.drop_zero]
  unfold idxN
  by_cases h0 : idxFrom (hasName name) l 0 = -1
  · rw [decide_eq_true h0, h0]; rfl
  · rw [decide_eq_false h0]; rfl
def zeroVal : PV := PV.agg [(PV.int (0 : Int)), (PV.int (0 : Int)), (PV.str ([] : List UInt8)), (PV.slice []), (PV.slice []), (PV.slice []), (PV.slice [])]
def findN (l : List PV) (name : List UInt8) : PV × Bool := bif decide (idxN l name < 0) then (zeroVal, false) else (nVal (l.getD (idxN l name).toNat .bad), true)
theorem idxN_in (l : List PV) (name : List UInt8) : decide (idxN l name < 0) = false → inRange (idxN l name) l.length = true := by
  intro h
  rcases idxFrom_lt (p := hasName name) (l := l) with h1 | ⟨j, h1, h2, _⟩
  · rw [show idxN l name = idxFrom (hasName name) l 0 from rfl, decide_eq_true h1] at h; cases h
  · rw [show idxN l name = (j : Int) from h1, inRange_nat, decide_eq_true h2]
theorem find_eq (l : List PV) (name : List UInt8) (hl : l.length ≤ 1048576) : F8 0 l name = some (findN l name) := by
  unfold F8 findN
  rw [index_eq l name hl, Option.bind_some]
  cases h : decide (idxN l name < 0) with
  | true => rfl
  | false => rw [idxN_in l name h]; rfl
theorem same_refl (v : PV) : F11 0 v v = some true := by
  unfold F11
  simp
/- Same. -/
def same1 (x y : PV) : Bool := nName x == nName y && ((vKind (nVal x) == vKind (nVal y)) && ((vBits (nVal x) == vBits (nVal y)) && (vText (nVal x) == vText (nVal y))))
def sameL : List PV → List PV → Bool
  | x :: r, y :: q => same1 x y && sameL r q
  | _, _ => true
def sameN (a b : List PV) : Bool := decide (a.length = b.length) && sameL a b
theorem same1_refl (x : PV) : same1 x x = true := by simp [same1]
theorem sameL_refl (l : List PV) : sameL l l = true := by
  induction l with
  | nil => rfl
  | cons x r ih => rw [sameL, same1_refl, ih]; rfl
theorem sameN_refl (l : List PV) : sameN l l = true := by rw [sameN, sameL_refl]; simp
theorem lenNe (a b : List PV) : ((a.length : Int) != (b.length : Int)) = !decide (a.length = b.length) := by
  by_cases h : a.length = b.length
  · simp [h]
  · have : ¬ ((a.length : Int) = (b.length : Int)) := by omega
    simp [h, bne, this]
theorem refSame_loop (a b : List PV) (hl : a.length ≤ 1048576) (hab : a.length = b.length) : ∀ (m i : Nat), a.length - i ≤ m → i ≤ a.length →
    loopW (S9_5step 0) (a, b, (i : Int)) = some (bif sameL (a.drop i) (b.drop i) then .inr () else .inl false) := by
  intro m
  induction m with
  | zero =>
    intro i hm hi
    have hlt : ¬ i < a.length := by omega
    rw [List.drop_eq_nil_of_le (by omega)]
    exact loopW_end (by simp only [S9_5step, S9_5, declt, hlt, decide_false, cond_false]; rfl)
  | succ m ih =>
    intro i hm hi
    by_cases hlt : i < a.length
    · have hlb : i < b.length := by omega
      rw [drop_cons hlt .bad, drop_cons hlb .bad, sameL]
      have step : S9_5step 0 (a, b, (i : Int)) = some (bif same1 (a.getD i .bad) (b.getD i .bad) then .inl (a, b, ((i + 1 : Nat) : Int)) else .inr (.inl false)) := by
        simp only [S9_5step, S9_5, declt, inRange_nat, hlt, hlb, decide_true, cond_true, Int.toNat_natCast, imp, cond_same, wadd1 (i := i) (by omega), same1, nName, nVal, vKind, vBits, vText, bne]
        generalize (((a.getD i .bad).fld 0).asStr == ((b.getD i .bad).fld 0).asStr) = q0
        generalize ((((a.getD i .bad).fld 1).fld 0).asInt == (((b.getD i .bad).fld 1).fld 0).asInt) = q1
        generalize ((((a.getD i .bad).fld 1).fld 1).asInt == (((b.getD i .bad).fld 1).fld 1).asInt) = q2
        generalize ((((a.getD i .bad).fld 1).fld 2).asStr == (((b.getD i .bad).fld 1).fld 2).asStr) = q3
        cases q0 <;> cases q1 <;> cases q2 <;> cases q3 <;> rfl
      cases hp : same1 (a.getD i .bad) (b.getD i .bad) with
      | false => rw [hp] at step; exact loopW_end step
      | true =>
        rw [hp] at step
        rw [loopW_go step, ih (i + 1) (by omega) (by omega)]
        rfl
    · rw [List.drop_eq_nil_of_le (by omega)]
      exact loopW_end (by simp only [S9_5step, S9_5, declt, hlt, decide_false, cond_false]; rfl)
theorem refSame_eq (a b : List PV) (hl : a.length ≤ 1048576) : F9 0 a b = some (sameN a b) := by
  unfold F9 sameN
  rw [lenNe]
  by_cases h : a.length = b.length
  · have hh := refSame_loop a b hl h a.length 0 (by omega) (by omega)
    rw [decide_eq_true h, Bool.not_true, cond_false, loopQ0, show (0 : Int) = ((0 : Nat) : Int) from rfl, hh, List.drop_zero, List.drop_zero]
    cases sameL a b <;> rfl
  · rw [decide_eq_false h]; rfl
end Go.Ab
