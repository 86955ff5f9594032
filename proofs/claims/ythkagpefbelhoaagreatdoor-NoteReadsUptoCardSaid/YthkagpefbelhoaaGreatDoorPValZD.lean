/- Scalars of the kinds int64 and uint32, read from a sign and a numeral. -/
import Derived.Test.YthkagpefbelhoaaGreatDoorPNumZD
set_option linter.unusedVariables false
set_option linter.unusedSimpArgs false
set_option linter.unnecessarySimpa false
namespace Go.Ab
open Go
set_option maxRecDepth 100000

def zeroV : PV := PV.agg [(PV.int (0 : Int)), (PV.int (0 : Int)), (PV.str ([] : List UInt8)), (PV.slice []), (PV.slice []), (PV.slice []), (PV.slice [])]
def mkV (k b : Int) : PV := PV.agg [(PV.int k), (PV.int b), (PV.str ([] : List UInt8)), (PV.slice []), (PV.slice []), (PV.slice []), (PV.slice [])]
/-- What a sign and a number give, for a kind of integers. -/
def numV (k : Int) (neg : Bool) (u : Nat) : PV × Int :=
  if neg = true ∧ u = 0 then (zeroV, 2)
  else if k = 4 then (if neg = true ∨ 4294967296 ≤ u then (zeroV, 6) else (mkV k u, 0))
  else if neg = true then (if 9223372036854775808 < u then (zeroV, 6) else (mkV k (IntKind.wrap .u64 (0 - (u : Int))), 0))
  else if 9223372036854775808 ≤ u then (zeroV, 6) else (mkV k u, 0)
def signed (neg : Bool) (l : List UInt8) : List UInt8 := if neg = true then 45 :: l else l
theorem mkV_small (k : Int) {b : Int} (h0 : 0 ≤ b) (h1 : b < 18446744073709551616) : smallV (mkV k b) := ⟨Nat.zero_le _, Nat.zero_le _, h0, h1⟩
theorem fits3 (b : Int) : fitsV 3 (mkV 3 b) = true := by
  unfold fitsV
  rfl
theorem fits4 (b : Int) : fitsV 4 (mkV 4 b) = decide (b < 4294967296) := by
  have : fitsV 4 (mkV 4 b) = rangeOk 4 b := rfl
  rw [this]
  rfl
theorem refNumber_eq (neg : Bool) (u : Nat) (hu : u < 18446744073709551616) : F132 0 (signed neg (Lib.decDigits u)) = some (if neg = true ∧ u = 0 then (0, false, 2) else ((u : Int), neg, 0)) := by
  cases neg with
  | false => simp only [signed, Bool.false_eq_true, if_false, false_and]; exact num_dec u hu
  | true => simp only [signed, if_true, true_and]; exact num_neg u hu
theorem refWhole_eq (k : Int) (hk : k = 3 ∨ k = 4) (neg : Bool) (u : Nat) (hu : u < 18446744073709551616) : F96 0 k (signed neg (Lib.decDigits u)) = some (numV k neg u) := by
  unfold F96 numV
  rw [refNumber_eq neg u hu, Option.bind_some]
  by_cases h0 : neg = true ∧ u = 0
  · rw [if_pos h0, if_pos h0]; rfl
  · rw [if_neg h0, if_neg h0]
    have hf : ∀ b : Int, 0 ≤ b → b < 18446744073709551616 → F32 0 k (PV.agg [(PV.int k), (PV.int b), (PV.str ([] : List UInt8)), (PV.slice []), (PV.slice []), (PV.slice []), (PV.slice [])]) = some (fitsV k (mkV k b)) := fun b h0 h1 => refFitsV_eq k (mkV k b) (mkV_small k h0 h1)
    have hw : IntKind.wrap .u64 (0 - (u : Int)) = (0 - (u : Int)) % 18446744073709551616 := by rw [IntKind.wrap_u64]
    have hf1 := hf (u : Int) (by omega) (by omega)
    have hf2 := hf (IntKind.wrap .u64 (0 - (u : Int))) (by rw [hw]; omega) (by rw [hw]; omega)
    rcases hk with rfl | rfl
    · rw [fits3] at hf1 hf2
      cases neg with
      | false =>
        by_cases hg : 9223372036854775808 ≤ u
        · have d : decide ((u : Int) ≥ (9223372036854775808 : Int)) = true := decide_eq_true (by omega)
          simp [F133, d, hg, zeroV]
        · have d : decide ((u : Int) ≥ (9223372036854775808 : Int)) = false := decide_eq_false (by omega)
          simp [F133, d, hg, hf1, mkV]
      | true =>
        by_cases hg : 9223372036854775808 < u
        · have d : decide ((u : Int) > (9223372036854775808 : Int)) = true := decide_eq_true (by omega)
          simp [F133, d, hg, zeroV]
        · have d : decide ((u : Int) > (9223372036854775808 : Int)) = false := decide_eq_false (by omega)
          rw [show (0 - (u : Int)) = -(u : Int) by omega] at hf2
          simp [F133, d, hg, hf2, mkV]
    · rw [fits4] at hf1
      cases neg with
      | true => simp [F133, zeroV]
      | false =>
        by_cases hg : 4294967296 ≤ u
        · have d : decide ((u : Int) < (4294967296 : Int)) = false := decide_eq_false (by omega)
          rw [d] at hf1
          simp [F133, hg, hf1, zeroV]
        · have d : decide ((u : Int) < (4294967296 : Int)) = true := decide_eq_true (by omega)
          rw [d] at hf1
          simp [F133, hg, hf1, mkV]
end Go.Ab
