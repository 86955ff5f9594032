/- The program's reading of a sign and a numeral is the specification's. -/
import Derived.Test.YthkagpefbelhoaaGreatDoorPValZD
set_option linter.unusedVariables false
set_option linter.unusedSimpArgs false
set_option linter.unnecessarySimpa false
namespace Go.Ab
open Go
set_option maxRecDepth 100000

theorem trim_neg (l : List UInt8) : F86 0 (45 :: l) [45] = some l := by
  unfold F86 F120 F112
  have h1 : decide (((45 :: l : List UInt8).length : Int) ≥ (([45] : List UInt8).length : Int)) = true := decide_eq_true (by simp; omega)
  have h2 : decide ((0 : Int) ≤ 0 ∧ (0 : Int) ≤ (([45] : List UInt8).length : Int) ∧ (([45] : List UInt8).length : Int) ≤ ((45 :: l : List UInt8).length : Int)) = true := decide_eq_true (by simp; omega)
  have h3 : decide ((0 : Int) ≤ (([45] : List UInt8).length : Int) ∧ (([45] : List UInt8).length : Int) ≤ ((45 :: l : List UInt8).length : Int) ∧ ((45 :: l : List UInt8).length : Int) ≤ ((45 :: l : List UInt8).length : Int)) = true := decide_eq_true (by simp; omega)
  have h4 : (((45 :: l : List UInt8).take ((([45] : List UInt8).length : Int)).toNat).drop (0 : Int).toNat == ([45] : List UInt8)) = true := by
    simp
  have h5 : ((45 :: l : List UInt8).take ((45 :: l : List UInt8).length : Int).toNat).drop ((([45] : List UInt8).length : Int)).toNat = l := by
    rw [show (((45 :: l : List UInt8).length : Int)).toNat = (45 :: l : List UInt8).length from Int.toNat_natCast _, List.take_length]; rfl
  simp only [h1, h2, h3, h4, h5, imp, cond_true, Option.bind_some]
theorem trim_pos (c : UInt8) (l : List UInt8) (hc : c ≠ 45) : F86 0 (c :: l) [45] = some (c :: l) := by
  unfold F86 F120 F112
  have h1 : decide (((c :: l : List UInt8).length : Int) ≥ (([45] : List UInt8).length : Int)) = true := decide_eq_true (by simp; omega)
  have h2 : decide ((0 : Int) ≤ 0 ∧ (0 : Int) ≤ (([45] : List UInt8).length : Int) ∧ (([45] : List UInt8).length : Int) ≤ ((c :: l : List UInt8).length : Int)) = true := decide_eq_true (by simp; omega)
  have h4 : (((c :: l : List UInt8).take ((([45] : List UInt8).length : Int)).toNat).drop (0 : Int).toNat == ([45] : List UInt8)) = false := by
    simp [hc]
  simp only [h1, h2, h4, imp, cond_true, cond_false, Option.bind_some]

theorem dec_loop (s : List UInt8) (hd : ∀ c, c ∈ s → isDig c) (hl : s.length ≤ 1048576) : ∀ (m i : Nat), s.length - i ≤ m → i ≤ s.length →
    loopW (S128_6step 0) (s, (s.length : Int), (i : Int)) = some (.inr ()) := by
  intro m
  induction m with
  | zero =>
    intro i hm hi
    have hlt : ¬ i < s.length := by omega
    exact loopW_end (by simp only [S128_6step, S128_6, declt, hlt, decide_false, cond_false])
  | succ m ih =>
    intro i hm hi
    by_cases hlt : i < s.length
    · have hc : isDig (s.getD i 0) := hd _ (by rw [getD_of_lt hlt]; exact List.getElem_mem _)
      generalize hx : s.getD i 0 = c at hc
      unfold isDig at hc
      have d1 : decide ((c.toNat : Int) < (48 : Int)) = false := decide_eq_false (by omega)
      have d2 : decide ((c.toNat : Int) > (57 : Int)) = false := decide_eq_false (by omega)
      rw [loopW_go (x1 := (s, (s.length : Int), ((i + 1 : Nat) : Int))), ih (i + 1) (by omega) (by omega)]
      simp only [S128_6step, S128_6, declt, inRange_nat, hlt, decide_true, cond_true, Int.toNat_natCast, hx, d1, d2, imp, Bool.not_false, cond_false, wadd1 (i := i) (by omega)]
    · exact loopW_end (by simp only [S128_6step, S128_6, declt, hlt, decide_false, cond_false])
theorem decimal_ok (neg : Bool) (u : Nat) (hu : u < 18446744073709551616) : F128 0 (signed neg (Lib.decDigits u)) = some (!(neg && decide (u = 0))) := by
  obtain ⟨h1, h2, h3, h4⟩ := dec_facts u
  have hlen := dec_len u hu
  have hloop := dec_loop (Lib.decDigits u) h1 (by omega) (Lib.decDigits u).length 0 (by omega) (by omega)
  have hz : u = 0 → Lib.decDigits u = [48] := fun h => by subst h; rw [Lib.decDigits]; rfl
  generalize Lib.decDigits u = s at *
  match s, h3 with
  | c :: r, _ =>
    have hc := h1 c (by simp)
    unfold isDig at hc
    have hne : c ≠ 45 := fun h => by subst h; simp at hc
    have hi : inRange (0 : Int) (c :: r).length = true := by rw [show (0 : Int) = ((0 : Nat) : Int) from rfl, inRange_nat]; exact decide_eq_true (by simp)
    have hg : ((c :: r).getD (0 : Int).toNat 0) = c := rfl
    have hn : ((c :: r) == ([] : List UInt8)) = false := rfl
    rw [show ((0 : Nat) : Int) = (0 : Int) from rfl] at hloop
    have ht : F86 0 (signed neg (c :: r)) [45] = some (c :: r) := by
      cases neg with
      | true => exact trim_neg _
      | false => exact trim_pos c r hne
    unfold F128
    rw [ht]
    by_cases h0 : u = 0
    · have hz := hz h0
      simp at hz
      obtain ⟨rfl, rfl⟩ := hz
      cases neg with
      | true => simp only [signed, if_true, Option.bind_some]; rw [h0]; rfl
      | false =>
        have e48 : ((([48] : List UInt8)) == [48]) = true := rfl
        simp only [signed, Bool.false_eq_true, if_false, Option.bind_some, hn, hi, imp, Bool.not_false, cond_true, cond_false, hg, e48, Bool.not_true, cond_same, loopQ0, hloop, sumE_inr, Bool.false_and]
    · have := h4 h0 c rfl
      have hk : ((c.toNat : Int) == (48 : Int)) = false := by simp; omega
      simp only [Option.bind_some, hn, hi, imp, Bool.not_false, cond_true, cond_false, hg, hk, loopQ0, hloop, sumE_inr, h0, decide_false, Bool.and_false]

theorem within3 (b : Int) : F67 0 3 b = some true := rfl
theorem within4 (b : Int) : F67 0 4 b = some (decide (b ≤ 4294967295)) := rfl
theorem signed_len (neg : Bool) (u : Nat) (hu : u < 18446744073709551616) : (signed neg (Lib.decDigits u)).length ≤ 21 := by
  have := dec_len u hu
  unfold signed
  split
  · simp; omega
  · omega
theorem lparseInt_ok (s : List UInt8) (hs : s.length ≤ 1048576) : LparseInt 0 s 10 64 = some (intRes s (Lib.parseIntB 64 s)) := by
  unfold LparseInt
  have : Nat.ble s.length 281474976710656 = true := Nat.ble_eq_true_of_le (by omega)
  simp [this]
theorem lparseUint_ok (s : List UInt8) (hs : s.length ≤ 1048576) : LparseUint 0 s 10 64 = some (uintRes (Lib.parseUintB 64 s)) := by
  unfold LparseUint
  have : Nat.ble s.length 281474976710656 = true := Nat.ble_eq_true_of_le (by omega)
  simp [this]
theorem number_ok (k : Int) (hk : k = 3 ∨ k = 4) (neg : Bool) (u : Nat) (hu : u < 18446744073709551616) : F93 0 k (signed neg (Lib.decDigits u)) = some (numV k neg u) := by
  have hl := signed_len neg u hu
  unfold F93 numV
  rw [decimal_ok neg u hu, lparseInt_ok _ (by omega), lparseUint_ok _ (by omega)]
  by_cases h0 : neg = true ∧ u = 0
  · obtain ⟨rfl, rfl⟩ := h0
    rfl
  · have hx : (neg && decide (u = 0)) = false := by
      cases neg with
      | false => rfl
      | true => simp at h0; simp [h0]
    rw [if_neg h0, hx]
    have hwu : IntKind.wrap .u64 (u : Int) = (u : Int) := by rw [IntKind.wrap_u64]; omega
    rcases hk with rfl | rfl
    · cases neg with
      | false =>
        have e : signed false (Lib.decDigits u) = Lib.decDigits u := rfl
        rw [e, parseInt_dec hu]
        by_cases hg : 9223372036854775808 ≤ u
        · simp [hg, intRes, zeroV]
        · simp [hg, intRes, within3, hwu, mkV]
      | true =>
        have e : signed true (Lib.decDigits u) = 45 :: Lib.decDigits u := rfl
        rw [e, parseInt_neg hu]
        by_cases hg : 9223372036854775808 < u
        · simp [hg, intRes, zeroV]
        · simp [hg, intRes, within3, mkV]
    · cases neg with
      | true =>
        have e : signed true (Lib.decDigits u) = 45 :: Lib.decDigits u := rfl
        rw [e, parseUint_neg]
        simp [uintRes, zeroV]
      | false =>
        have e : signed false (Lib.decDigits u) = Lib.decDigits u := rfl
        rw [e, parseUint_dec hu]
        by_cases hg : 4294967296 ≤ u
        · have d : decide ((u : Int) ≤ (4294967295 : Int)) = false := decide_eq_false (by omega)
          simp [hg, uintRes, within4, d, zeroV]
        · have d : decide ((u : Int) ≤ (4294967295 : Int)) = true := decide_eq_true (by omega)
          simp [hg, uintRes, within4, d, mkV]
theorem parse_ok (k : Int) (hk : k = 3 ∨ k = 4) (neg : Bool) (u : Nat) (hu : u < 18446744073709551616) : F57 0 k (signed neg (Lib.decDigits u)) = some (numV k neg u) := by
  have h := number_ok k hk neg u hu
  unfold F57
  rcases hk with rfl | rfl
  · have e1 : F65 0 3 = some true := rfl
    have e2 : F91 0 3 = some false := rfl
    have a1 : ((3 : Int) == 1) = false := rfl
    have a6 : ((3 : Int) == 6) = false := rfl
    simp only [e1, e2, a1, a6, h, Option.bind_some, Bool.not_true, cond_false]
  · have e1 : F65 0 4 = some true := rfl
    have e2 : F91 0 4 = some false := rfl
    have a1 : ((4 : Int) == 1) = false := rfl
    have a6 : ((4 : Int) == 6) = false := rfl
    simp only [e1, e2, a1, a6, h, Option.bind_some, Bool.not_true, cond_false]
theorem refParse_ok (k : Int) (hk : k = 3 ∨ k = 4) (neg : Bool) (u : Nat) (hu : u < 18446744073709551616) : F59 0 k (signed neg (Lib.decDigits u)) = some (numV k neg u) := by
  have h := refWhole_eq k hk neg u hu
  unfold F59
  rcases hk with rfl | rfl
  · have e1 : F61 0 3 = some true := rfl
    have a1 : ((3 : Int) == 1) = false := rfl
    have a6 : ((3 : Int) == 6) = false := rfl
    have a7 : ((3 : Int) == 7) = false := rfl
    have a8 : ((3 : Int) == 8) = false := rfl
    simp only [e1, a1, a6, a7, a8, h, Option.bind_some, Bool.not_true, cond_false]
  · have e1 : F61 0 4 = some true := rfl
    have a1 : ((4 : Int) == 1) = false := rfl
    have a6 : ((4 : Int) == 6) = false := rfl
    have a7 : ((4 : Int) == 7) = false := rfl
    have a8 : ((4 : Int) == 8) = false := rfl
    simp only [e1, a1, a6, a7, a8, h, Option.bind_some, Bool.not_true, cond_false]
end Go.Ab
