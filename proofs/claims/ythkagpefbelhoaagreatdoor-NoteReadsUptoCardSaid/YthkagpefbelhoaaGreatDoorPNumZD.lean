/- Numbers of the specification, read from numerals. -/
import Derived.Test.YthkagpefbelhoaaGreatDoorPParseZD
import Derived.Test.YthkagpefbelhoaaGreatDoorAbNum
set_option linter.unusedVariables false
set_option linter.unusedSimpArgs false
set_option linter.unnecessarySimpa false
namespace Go.Ab
open Go
set_option maxRecDepth 100000

theorem num_loop (s : List UInt8) (neg : Bool) (V : Nat) (hV : V < 18446744073709551616) (hd : ∀ c, c ∈ s → isDig c) (hl : s.length ≤ 1048576) : ∀ (m i acc : Nat), s.length - i ≤ m → i ≤ s.length → valD acc (s.drop i) = V →
    loopW (S132_9step 0) (s, neg, (acc : Int), false, (i : Int)) = some (.inr (neg, (V : Int), false)) := by
  intro m
  induction m with
  | zero =>
    intro i acc hm hi hv
    have hlt : ¬ i < s.length := by omega
    rw [List.drop_eq_nil_of_le (by omega)] at hv
    have e : acc = V := hv
    subst e
    exact loopW_end (by simp only [S132_9step, S132_9, declt, hlt, decide_false, cond_false])
  | succ m ih =>
    intro i acc hm hi hv
    by_cases hlt : i < s.length
    · rw [drop_cons hlt 0] at hv
      have hc : isDig (s.getD i 0) := hd _ (by rw [getD_of_lt hlt]; exact List.getElem_mem _)
      generalize hx : s.getD i 0 = c at hv hc
      have hv' : valD (acc * 10 + (c.toNat - 48)) (s.drop (i + 1)) = V := hv
      have hs : acc * 10 + (c.toNat - 48) ≤ V := by rw [← hv']; exact valD_ge _ _
      unfold isDig at hc
      obtain ⟨d, hdd⟩ : ∃ d : Nat, c.toNat = 48 + d := ⟨c.toNat - 48, by omega⟩
      rw [← ih (i + 1) (acc * 10 + (c.toNat - 48)) (by omega) (by omega) hv']
      rw [hdd] at hs hc ⊢
      have d1 : decide (((48 + d : Nat) : Int) < (48 : Int)) = false := decide_eq_false (by omega)
      have d2 : decide (((48 + d : Nat) : Int) > (57 : Int)) = false := decide_eq_false (by omega)
      have w1 : IntKind.wrap .u64 (IntKind.wrap .u8 (((48 + d : Nat) : Int) - (48 : Int))) = (d : Int) := by rw [IntKind.wrap_u8, IntKind.wrap_u64]; omega
      have w2 : IntKind.wrap .u64 ((18446744073709551615 : Int) - (d : Int)) = ((18446744073709551615 - d : Nat) : Int) := by rw [IntKind.wrap_u64]; omega
      have w3 : IntKind.wrap .u64 (((18446744073709551615 - d : Nat) : Int).tdiv (10 : Int)) = (((18446744073709551615 - d) / 10 : Nat) : Int) := by
        rw [show ((18446744073709551615 - d : Nat) : Int).tdiv (10 : Int) = (((18446744073709551615 - d) / 10 : Nat) : Int) from rfl, IntKind.wrap_u64]; omega
      have d3 : decide ((acc : Int) > (((18446744073709551615 - d) / 10 : Nat) : Int)) = false := decide_eq_false (by omega)
      have w4 : IntKind.wrap .u64 ((10 : Int) * (acc : Int)) = ((10 * acc : Nat) : Int) := by rw [IntKind.wrap_u64]; omega
      have w5 : IntKind.wrap .u64 (((10 * acc : Nat) : Int) + (d : Int)) = ((acc * 10 + (48 + d - 48) : Nat) : Int) := by rw [IntKind.wrap_u64]; omega
      refine loopW_go ?_
      simp only [S132_9step, S132_9, declt, inRange_nat, hlt, decide_true, cond_true, Int.toNat_natCast, hx, hdd, d1, d2, d3, w1, w2, w3, w4, w5, imp, Bool.not_false, cond_false, wadd1 (i := i) (by omega)]
    · have e : acc = V := by rw [List.drop_eq_nil_of_le (by omega)] at hv; exact hv
      subst e
      exact loopW_end (by simp only [S132_9step, S132_9, declt, hlt, decide_false, cond_false])
theorem dec_len (u : Nat) (hu : u < 18446744073709551616) : (Lib.decDigits u).length ≤ 20 := by
  rw [← decB_eq (by omega)]; exact decB_len u
theorem num_dec (u : Nat) (hu : u < 18446744073709551616) : F132 0 (Lib.decDigits u) = some ((u : Int), false, 0) := by
  obtain ⟨h1, h2, h3, h4⟩ := dec_facts u
  have hlen := dec_len u hu
  have hloop := num_loop (Lib.decDigits u) false u hu h1 (by omega) (Lib.decDigits u).length 0 0 (by omega) (by omega) (by rw [List.drop_zero]; exact h2)
  have hz : u = 0 → Lib.decDigits u = [48] := fun h => by subst h; rw [Lib.decDigits]; rfl
  generalize Lib.decDigits u = s at *
  match s, h3 with
  | c :: r, _ =>
    have hc := h1 c (by simp)
    unfold isDig at hc
    have k45 : ((c.toNat : Int) == (45 : Int)) = false := by simp; omega
    have hp : decide (((c :: r).length : Int) > (0 : Int)) = true := decide_eq_true (by simp)
    have hi : inRange (0 : Int) (c :: r).length = true := by rw [show (0 : Int) = ((0 : Nat) : Int) from rfl, inRange_nat]; exact decide_eq_true (by simp)
    have hg : ((c :: r).getD (0 : Int).toNat 0) = c := rfl
    have hn : ((c :: r) == ([] : List UInt8)) = false := rfl
    have ht : (bif ((c.toNat : Int) == (48 : Int)) then (!((c :: r) == ([48] : List UInt8))) else false) = false := by
      by_cases h0 : u = 0
      · rw [hz h0]; simp
      · have := h4 h0 c rfl
        have : ((c.toNat : Int) == (48 : Int)) = false := by simp; omega
        rw [this]; rfl
    rw [show ((0 : Nat) : Int) = (0 : Int) from rfl] at hloop
    unfold F132
    simp only [hp, imp, hi, cond_true, hg, k45, cond_false, hn, Bool.not_false, ht, loopQ0, hloop, Option.bind_some, sumE_inr]
theorem num_neg (u : Nat) (hu : u < 18446744073709551616) : F132 0 (45 :: Lib.decDigits u) = some (if u = 0 then (0, false, 2) else ((u : Int), true, 0)) := by
  obtain ⟨h1, h2, h3, h4⟩ := dec_facts u
  have hlen := dec_len u hu
  have hloop := num_loop (Lib.decDigits u) true u hu h1 (by omega) (Lib.decDigits u).length 0 0 (by omega) (by omega) (by rw [List.drop_zero]; exact h2)
  have hz : u = 0 → Lib.decDigits u = [48] := fun h => by subst h; rw [Lib.decDigits]; rfl
  generalize Lib.decDigits u = s at *
  match s, h3 with
  | c :: r, _ =>
    have hc := h1 c (by simp)
    unfold isDig at hc
    have k45 : (((45 : UInt8).toNat : Int) == (45 : Int)) = true := rfl
    have hp : decide (((45 :: c :: r).length : Int) > (0 : Int)) = true := decide_eq_true (by simp; omega)
    have hi : inRange (0 : Int) (45 :: c :: r).length = true := by rw [show (0 : Int) = ((0 : Nat) : Int) from rfl, inRange_nat]; exact decide_eq_true (by simp)
    have hi2 : inRange (0 : Int) (c :: r).length = true := by rw [show (0 : Int) = ((0 : Nat) : Int) from rfl, inRange_nat]; exact decide_eq_true (by simp)
    have hg : ((45 :: c :: r).getD (0 : Int).toNat 0) = 45 := rfl
    have hg2 : ((c :: r).getD (0 : Int).toNat 0) = c := rfl
    have hsl : decide ((0 : Int) ≤ (1 : Int) ∧ (1 : Int) ≤ ((45 :: c :: r).length : Int) ∧ ((45 :: c :: r).length : Int) ≤ ((45 :: c :: r).length : Int)) = true := decide_eq_true (by simp; omega)
    have htk : ((45 :: c :: r).take ((45 :: c :: r).length : Int).toNat).drop (1 : Int).toNat = c :: r := by rw [Int.toNat_natCast, List.take_length]; rfl
    have hn : ((c :: r) == ([] : List UInt8)) = false := rfl
    have hne : ((45 :: c :: r) == ([48] : List UInt8)) = false := rfl
    rw [show ((0 : Nat) : Int) = (0 : Int) from rfl] at hloop
    by_cases h0 : u = 0
    · have hcc : c = 48 := by have := hz h0; simp at this; exact this.1
      have ht : ((c.toNat : Int) == (48 : Int)) = true := by rw [hcc]; rfl
      unfold F132
      simp only [hp, imp, hi, hi2, cond_true, hg, hg2, k45, hsl, htk, hn, Bool.not_false, cond_false, ht, hne, h0, if_true]
    · have := h4 h0 c rfl
      have ht : ((c.toNat : Int) == (48 : Int)) = false := by simp; omega
      unfold F132
      simp only [hp, imp, hi, hi2, cond_true, hg, hg2, k45, hsl, htk, hn, Bool.not_false, cond_false, ht, loopQ0, hloop, Option.bind_some, sumE_inr, h0, if_false]
end Go.Ab
