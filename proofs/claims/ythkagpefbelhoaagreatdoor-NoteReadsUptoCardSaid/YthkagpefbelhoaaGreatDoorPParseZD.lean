/- Numbers read from digits: the program's and the specification's are the same. -/
import Derived.Test.YthkagpefbelhoaaGreatDoorPTextZD
set_option linter.unusedVariables false
set_option linter.unusedSimpArgs false
set_option linter.unnecessarySimpa false
namespace Go.Ab
open Go
set_option maxRecDepth 100000

def allD : List UInt8 := [48, 49, 50, 51, 52, 53, 54, 55, 56, 57]
theorem allD_at : ∀ d : Nat, d < 10 → (allD.take (d + 1)).drop d = [UInt8.ofNat (48 + d)] := by decide
theorem digits_loop : ∀ (k u : Nat) (acc : List UInt8), u < 10 ^ (k + 1) → u < 18446744073709551616 → acc.length + k ≤ 1000 → loopW (S60_4step 0) ((u : Int), allD, acc) = some (preD u ++ acc) := by
  intro k
  induction k with
  | zero =>
    intro u acc hu _ _
    have hd : decide ((u : Int) > (9 : Int)) = false := decide_eq_false (by omega)
    rw [preD, if_pos (by omega)]
    exact loopW_end (by simp only [S60_4step, S60_4, hd, cond_false]; rfl)
  | succ k ih =>
    intro u acc hu h64 hb
    by_cases h : u < 10
    · have hd : decide ((u : Int) > (9 : Int)) = false := decide_eq_false (by omega)
      rw [preD, if_pos h]
      exact loopW_end (by simp only [S60_4step, S60_4, hd, cond_false]; rfl)
    · have hd : decide ((u : Int) > (9 : Int)) = true := decide_eq_true (by omega)
      have hw : IntKind.wrap .u64 ((u : Int).tdiv (10 : Int)) = ((u / 10 : Nat) : Int) := by
        rw [show (u : Int).tdiv (10 : Int) = ((u / 10 : Nat) : Int) from rfl, IntKind.wrap_u64]; omega
      have hm : ((u / 10 : Nat) : Int).tmod (10 : Int) = ((u / 10 % 10 : Nat) : Int) := rfl
      have hm1 : IntKind.wrap .u64 (((u / 10 % 10 : Nat) : Int) + (1 : Int)) = ((u / 10 % 10 + 1 : Nat) : Int) := by rw [IntKind.wrap_u64]; omega
      have hp : preD u ++ acc = preD (u / 10) ++ (UInt8.ofNat (48 + u / 10 % 10) :: acc) := by
        have := preD_eq (u / 10)
        rw [show preD u = Lib.decDigits (u / 10) by rw [preD, if_neg h], ← this, List.append_assoc]; rfl
      rw [hp, ← ih (u / 10) (UInt8.ofNat (48 + u / 10 % 10) :: acc) (by rw [Nat.pow_succ] at hu; omega) (by omega) (by simp; omega)]
      refine loopW_go ?_
      have hl : decide ([UInt8.ofNat (48 + u / 10 % 10)].length + acc.length ≤ strMax) = true := leStr (by simp; omega)
      have hr : decide ((0 : Int) ≤ ((u / 10 % 10 : Nat) : Int) ∧ ((u / 10 % 10 : Nat) : Int) ≤ ((u / 10 % 10 + 1 : Nat) : Int) ∧ ((u / 10 % 10 + 1 : Nat) : Int) ≤ (allD.length : Int)) = true := decide_eq_true (by have : allD.length = 10 := rfl; omega)
      simp only [S60_4step, S60_4, hd, hw, hm, hm1, hr, Int.toNat_natCast, allD_at _ (Nat.mod_lt _ (by decide : 0 < 10)), hl, cond_true]
      rfl
theorem digits_eq (u : Nat) (hu : u < 18446744073709551616) : F60 0 (u : Int) = some (decB u) := by
  unfold F60
  have hm : ((u : Nat) : Int).tmod (10 : Int) = ((u % 10 : Nat) : Int) := rfl
  have hm1 : IntKind.wrap .u64 (((u % 10 : Nat) : Int) + (1 : Int)) = ((u % 10 + 1 : Nat) : Int) := by rw [IntKind.wrap_u64]; omega
  have hr : decide ((0 : Int) ≤ ((u % 10 : Nat) : Int) ∧ ((u % 10 : Nat) : Int) ≤ ((u % 10 + 1 : Nat) : Int) ∧ ((u % 10 + 1 : Nat) : Int) ≤ (allD.length : Int)) = true := decide_eq_true (by have : allD.length = 10 := rfl; omega)
  have e : ([48, 49, 50, 51, 52, 53, 54, 55, 56, 57] : List UInt8) = allD := rfl
  simp only [e, hm, hm1, hr, cond_true, Int.toNat_natCast, allD_at _ (Nat.mod_lt _ (by decide : 0 < 10)), loopQ0]
  rw [digits_loop 19 u _ (by omega) hu (by simp), preD_eq, decB_eq (by omega)]
  rfl
end Go.Ab
