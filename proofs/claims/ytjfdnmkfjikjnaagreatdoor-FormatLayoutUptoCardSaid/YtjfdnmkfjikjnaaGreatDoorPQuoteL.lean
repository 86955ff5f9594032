/- Quoting: the program's and the specification's are the same. -/
import Derived.Test.YtjfdnmkfjikjnaaGreatDoorPUtfL
import Derived.Test.YtjfdnmkfjikjnaaGreatDoorAbUtf
set_option linter.unusedVariables false
set_option linter.unusedSimpArgs false
set_option linter.unnecessarySimpa false
namespace Go.Ab
open Go
set_option maxRecDepth 100000
theorem nbeq (a b : Nat) : ((a : Int) == (b : Int)) = decide (a = b) := by
  by_cases h : a = b
  · simp [h]
  · simp [h]; omega
theorem leStr {n : Nat} (h : n ≤ 4611686018427387904) : decide (n ≤ strMax) = true := decide_eq_true h
theorem escape_all : ((List.range 256).all fun b => F224 0 (b : Int) == some (92 :: 120 :: hex2 b)) = true := by kernel_rfl
theorem escape_eq {b : Nat} (h : b < 256) : F224 0 (b : Int) = some (92 :: 120 :: hex2 b) := by
  have := List.all_eq_true.1 escape_all b (List.mem_range.2 h)
  simpa using this
/-- A part's form, in the program. -/
theorem form_eq (s : List UInt8) (i : Nat) (hi : i < s.length) : F134 0 s (i : Int) ((decodeAt s i).1 : Int) = some (partAt s i) := by
  unfold F134 partAt
  have hw := wrong_eq s i hi
  have hb : ((s.getD ((i : Int)).toNat 0).toNat : Int) = (byteAt s i : Int) := rfl
  have he := escape_eq (byteAt_lt s i)
  have hr : inRange (i : Int) s.length = true := by rw [inRange_nat, decide_eq_true hi]
  have k34 : (((decodeAt s i).1 : Int) == (34 : Int)) = decide ((decodeAt s i).1 = 34) := nbeq _ 34
  have k92 : (((decodeAt s i).1 : Int) == (92 : Int)) = decide ((decodeAt s i).1 = 92) := nbeq _ 92
  have k10 : (((decodeAt s i).1 : Int) == (10 : Int)) = decide ((decodeAt s i).1 = 10) := nbeq _ 10
  have k9 : (((decodeAt s i).1 : Int) == (9 : Int)) = decide ((decodeAt s i).1 = 9) := nbeq _ 9
  have k13 : (((decodeAt s i).1 : Int) == (13 : Int)) = decide ((decodeAt s i).1 = 13) := nbeq _ 13
  have k127 : (((decodeAt s i).1 : Int) == (127 : Int)) = decide ((decodeAt s i).1 = 127) := nbeq _ 127
  have k32 : decide (((decodeAt s i).1 : Int) < (32 : Int)) = decide ((decodeAt s i).1 < 32) := declt _ 32
  simp only [k34, k92, k10, k9, k13, k127, k32, hw, hr, hb, he, cond_true, Option.bind_some]
  by_cases ha : byteAt s i < 128
  · rw [decode_ascii s i ha, size_ascii s i ha]
    have hw1 := encode_decode s i hi (by rw [size_ascii s i ha]; decide)
    rw [decode_ascii s i ha, size_ascii s i ha] at hw1
    simp only [hw1]
    by_cases c1 : byteAt s i = 34
    · simp [c1]
    by_cases c2 : byteAt s i = 92
    · simp [c2]
    by_cases c3 : byteAt s i = 10
    · simp [c3]
    by_cases c4 : byteAt s i = 9
    · simp [c4]
    by_cases c5 : byteAt s i = 13
    · simp [c5]
    simp only [c1, c2, c3, c4, c5, decide_false, cond_false, if_false]
    by_cases c6 : byteAt s i < 32
    · simp [c6]
    · by_cases c7 : byteAt s i = 127
      · simp [c7]
      · simp [c6, c7]
  · have hh := decode_high s i (by omega)
    have d1 : decide ((decodeAt s i).1 = 34) = false := decide_eq_false (by omega)
    have d2 : decide ((decodeAt s i).1 = 92) = false := decide_eq_false (by omega)
    have d3 : decide ((decodeAt s i).1 = 10) = false := decide_eq_false (by omega)
    have d4 : decide ((decodeAt s i).1 = 9) = false := decide_eq_false (by omega)
    have d5 : decide ((decodeAt s i).1 = 13) = false := decide_eq_false (by omega)
    have d6 : decide ((decodeAt s i).1 = 127) = false := decide_eq_false (by omega)
    have d7 : decide ((decodeAt s i).1 < 32) = false := decide_eq_false (by omega)
    have e1 : ¬ byteAt s i = 34 := by omega
    have e2 : ¬ byteAt s i = 92 := by omega
    have e3 : ¬ byteAt s i = 10 := by omega
    have e4 : ¬ byteAt s i = 9 := by omega
    have e5 : ¬ byteAt s i = 13 := by omega
    have e6 : ¬ byteAt s i = 127 := by omega
    have e7 : ¬ byteAt s i < 32 := by omega
    simp only [d1, d2, d3, d4, d5, d6, d7, e1, e2, e3, e4, e5, e6, e7, cond_false, Bool.not_false, cond_true, Option.bind_some, if_false, false_or]
    by_cases h0 : sizeAt s i = 0
    · simp [h0]
    · simp only [h0, decide_false, cond_false, if_false]
      rw [encode_decode s i hi h0]
theorem quote_loop (s : List UInt8) : ∀ (m i : Nat) (acc : List UInt8), s.length - i ≤ m → i ≤ s.length → acc.length + 4 * (s.length - i) ≤ 140737488355328 →
    ∃ z, loopW (S52_5step 0) (s, (), (), acc, s, (i : Int)) = some ((), acc ++ quoteFrom s i, s, z) := by
  intro m
  induction m with
  | zero =>
    intro i acc hm hi hb
    have hlt : ¬ i < s.length := by omega
    rw [quoteFrom, if_neg hlt]
    refine ⟨(i : Int), loopW_end ?_⟩
    simp only [S52_5step, S52_5, Int.toNat_natCast, hlt, decide_false, cond_false, List.append_nil]
  | succ m ih =>
    intro i acc hm hi hb
    by_cases hlt : i < s.length
    · have hp := partAt_le s i hlt
      have hl := stepLen_le s i hlt
      have hl1 := stepLen_pos s i
      obtain ⟨z, hz⟩ := ih (i + stepLen s i) (acc ++ partAt s i) (by omega) (by omega) (by rw [List.length_append]; omega)
      refine ⟨z, ?_⟩
      rw [quoteFrom, if_pos hlt, ← List.append_assoc, ← hz]
      refine loopW_go ?_
      have hw : Nat.ble (acc.length + (partAt s i).length) 140737488355328 = true := by rw [Nat.ble_eq]; omega
      simp only [S52_5step, S52_5, Int.toNat_natCast, hlt, decide_true, cond_true, decode_eq, form_eq s i hlt, width_eq s i hlt, Option.bind_some, LwriteString, hw]
    · have hlt' : ¬ i < s.length := hlt
      rw [quoteFrom, if_neg hlt]
      refine ⟨(i : Int), loopW_end ?_⟩
      simp only [S52_5step, S52_5, Int.toNat_natCast, hlt, decide_false, cond_false, List.append_nil]
theorem quote_len (s : List UInt8) : (quote s).length ≤ 4 * s.length + 2 := by
  have := quoteFrom_len s s.length 0 (by omega)
  simp [quote]; omega
theorem quote_eq (s : List UInt8) (hs : s.length ≤ 1048576) : F52 0 s = some (quote s) := by
  obtain ⟨z, hz⟩ := quote_loop s s.length 0 [34] (by omega) (by omega) (by simp; omega)
  have hq := quoteFrom_len s s.length 0 (by omega)
  unfold F52
  have w1 : LwriteString 0 ([34] : List UInt8) [] = some (1, .nilIface, [34]) := rfl
  have w2 : Nat.ble (([34] ++ quoteFrom s 0).length + 1) 140737488355328 = true := by rw [Nat.ble_eq]; simp; omega
  simp only [w1, Option.bind_some, loopQ0, hz]
  simp only [LwriteString, List.length_cons, List.length_nil, Nat.zero_add, w2, cond_true, Option.bind_some, Lstring]
  simp [quote]
end Go.Ab
