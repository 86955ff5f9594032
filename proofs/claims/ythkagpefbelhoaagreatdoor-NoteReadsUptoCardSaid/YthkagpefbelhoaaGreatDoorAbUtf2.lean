/- UTF-8: what is decoded is encoded again as it was; quoting, part by part. -/
import Derived.Test.YthkagpefbelhoaaGreatDoorAbUtf
set_option linter.unusedVariables false
set_option linter.unusedSimpArgs false
set_option linter.unnecessarySimpa false
namespace Go.Ab
open Go

theorem enc1 (r : Nat) (c1 : r < 128) : (Utf8.encode (r : Int)).data.toList = [UInt8.ofNat r] := by
  have v : Utf8.valid (r : Int) = true := by simp [Utf8.valid]; omega
  simp [Utf8.encode, v, c1]
theorem enc2 (r : Nat) (c1 : ¬ r < 128) (c2 : r < 2048) : (Utf8.encode (r : Int)).data.toList = [UInt8.ofNat (192 + r / 64), UInt8.ofNat (128 + r % 64)] := by
  have v : Utf8.valid (r : Int) = true := by simp [Utf8.valid]; omega
  simp [Utf8.encode, v, c1, c2]
theorem enc3 (r : Nat) (c2 : ¬ r < 2048) (c3 : r < 65536) (hv : r < 55296 ∨ 57344 ≤ r) : (Utf8.encode (r : Int)).data.toList = [UInt8.ofNat (224 + r / 4096), UInt8.ofNat (128 + r / 64 % 64), UInt8.ofNat (128 + r % 64)] := by
  have v : Utf8.valid (r : Int) = true := by simp [Utf8.valid]; omega
  have c1 : ¬ r < 128 := by omega
  simp [Utf8.encode, v, c1, c2, c3]
theorem enc4 (r : Nat) (c3 : ¬ r < 65536) (c4 : r ≤ 1114111) : (Utf8.encode (r : Int)).data.toList = [UInt8.ofNat (240 + r / 262144), UInt8.ofNat (128 + r / 4096 % 64), UInt8.ofNat (128 + r / 64 % 64), UInt8.ofNat (128 + r % 64)] := by
  have v : Utf8.valid (r : Int) = true := by simp [Utf8.valid]; omega
  have c1 : ¬ r < 128 := by omega
  have c2 : ¬ r < 2048 := by omega
  simp [Utf8.encode, v, c1, c2, c3]

theorem decodeN_ascii {n b0 b1 b2 b3 : Nat} (h : b0 < 128) : Lib.decodeN n b0 b1 b2 b3 = (b0, 1) := by
  unfold Lib.decodeN
  rw [if_pos h]
theorem decodeN_high (n b0 b1 b2 b3 : Nat) (h : 128 ≤ b0) : 128 ≤ (Lib.decodeN n b0 b1 b2 b3).1 := by
  unfold Lib.decodeN
  rw [if_neg (by omega)]
  repeat' split
  all_goals (simp only; omega)
/-- A sequence's length by its first byte. -/
theorem sizeN_cases (n b0 b1 b2 b3 : Nat) (hn : 1 ≤ n) : sizeN n b0 b1 b2 b3 = 0 ∨ (sizeN n b0 b1 b2 b3 = 1 ∧ b0 < 128) ∨
    (sizeN n b0 b1 b2 b3 = 2 ∧ 194 ≤ b0 ∧ b0 ≤ 223 ∧ 1 < n ∧ 128 ≤ b1 ∧ b1 ≤ 191) ∨
    (sizeN n b0 b1 b2 b3 = 3 ∧ 224 ≤ b0 ∧ b0 ≤ 239 ∧ (b0 = 224 → 160 ≤ b1) ∧ (b0 = 237 → b1 ≤ 159) ∧ 2 < n ∧ 128 ≤ b1 ∧ b1 ≤ 191 ∧ 128 ≤ b2 ∧ b2 ≤ 191) ∨
    (sizeN n b0 b1 b2 b3 = 4 ∧ 240 ≤ b0 ∧ b0 ≤ 244 ∧ (b0 = 240 → 144 ≤ b1) ∧ (b0 = 244 → b1 ≤ 143) ∧ 3 < n ∧ 128 ≤ b1 ∧ b1 ≤ 191 ∧ 128 ≤ b2 ∧ b2 ≤ 191 ∧ 128 ≤ b3 ∧ b3 ≤ 191) := by
  unfold sizeN
  repeat' split
  all_goals omega

theorem decodeN_two {n b0 b1 b2 b3 : Nat} (h : 194 ≤ b0 ∧ b0 ≤ 223 ∧ 1 < n ∧ 128 ≤ b1 ∧ b1 ≤ 191) : Lib.decodeN n b0 b1 b2 b3 = (b0 % 32 * 64 + b1 % 64, 2) := by
  unfold Lib.decodeN
  rw [if_neg (by omega), if_pos (by omega), if_pos (by omega)]
theorem decodeN_three {n b0 b1 b2 b3 : Nat} (h : 224 ≤ b0 ∧ b0 ≤ 239 ∧ (b0 = 224 → 160 ≤ b1) ∧ (b0 = 237 → b1 ≤ 159) ∧ 2 < n ∧ 128 ≤ b1 ∧ b1 ≤ 191 ∧ 128 ≤ b2 ∧ b2 ≤ 191) : Lib.decodeN n b0 b1 b2 b3 = (b0 % 16 * 4096 + b1 % 64 * 64 + b2 % 64, 3) := by
  unfold Lib.decodeN
  rw [if_neg (by omega), if_neg (by omega), if_pos (by omega), if_pos (by omega)]
theorem decodeN_four {n b0 b1 b2 b3 : Nat} (h : 240 ≤ b0 ∧ b0 ≤ 244 ∧ (b0 = 240 → 144 ≤ b1) ∧ (b0 = 244 → b1 ≤ 143) ∧ 3 < n ∧ 128 ≤ b1 ∧ b1 ≤ 191 ∧ 128 ≤ b2 ∧ b2 ≤ 191 ∧ 128 ≤ b3 ∧ b3 ≤ 191) : Lib.decodeN n b0 b1 b2 b3 = (b0 % 8 * 262144 + b1 % 64 * 4096 + b2 % 64 * 64 + b3 % 64, 4) := by
  unfold Lib.decodeN
  rw [if_neg (by omega), if_neg (by omega), if_neg (by omega), if_pos (by omega), if_pos (by omega)]
theorem decodeN_bad (n b0 b1 b2 b3 : Nat) (h : (Lib.decodeN n b0 b1 b2 b3).1 = 65533) (h2 : ¬ (2 < n ∧ b0 = 239 ∧ b1 = 191 ∧ b2 = 189)) (q1 : b1 < 256) (q2 : b2 < 256) (q3 : b3 < 256) (q0 : b0 < 256) : (Lib.decodeN n b0 b1 b2 b3).2 = 1 := by
  revert h
  unfold Lib.decodeN
  repeat' split
  all_goals (intro h; first | rfl | (exfalso; simp only at h; omega))

theorem ofNat_byte (s : List UInt8) (i : Nat) {k : Nat} (h : k = byteAt s i) : UInt8.ofNat k = s.getD i 0 := by
  subst h
  simp [byteAt]
/-- How far a part of a text goes. -/
def stepLen (s : List UInt8) (i : Nat) : Nat := if sizeAt s i = 0 then 1 else sizeAt s i
theorem stepLen_pos (s : List UInt8) (i : Nat) : 1 ≤ stepLen s i := by unfold stepLen; split <;> omega
theorem sizeAt_le (s : List UInt8) (i : Nat) (hi : i < s.length) : sizeAt s i ≤ s.length - i ∧ sizeAt s i ≤ 4 := sizeN_le _ _ _ _ _ (by omega)
theorem stepLen_le (s : List UInt8) (i : Nat) (hi : i < s.length) : stepLen s i ≤ s.length - i ∧ stepLen s i ≤ 4 := by
  have := sizeAt_le s i hi
  unfold stepLen; split <;> omega
theorem width_eq (s : List UInt8) (i : Nat) (hi : i < s.length) : (decodeAt s i).2 = stepLen s i := by
  unfold stepLen
  rw [sizeAt_decode s i hi]
  by_cases h : (decodeAt s i).1 = 65533 ∧ ¬ (2 < s.length - i ∧ byteAt s i = 239 ∧ byteAt s (i + 1) = 191 ∧ byteAt s (i + 2) = 189)
  · rw [if_pos h, if_pos rfl]
    exact decodeN_bad _ _ _ _ _ h.1 h.2 (byteAt_lt _ _) (byteAt_lt _ _) (byteAt_lt _ _) (byteAt_lt _ _)
  · rw [if_neg h]
    have := (decodeN_pos (s.length - i) (byteAt s i) (byteAt s (i + 1)) (byteAt s (i + 2)) (byteAt s (i + 3))).1
    rw [if_neg (by unfold decodeAt; omega)]
theorem decode_ascii (s : List UInt8) (i : Nat) (h : byteAt s i < 128) : decodeAt s i = (byteAt s i, 1) := decodeN_ascii h
theorem decode_high (s : List UInt8) (i : Nat) (h : 128 ≤ byteAt s i) : 128 ≤ (decodeAt s i).1 := decodeN_high _ _ _ _ _ h
theorem size_ascii (s : List UInt8) (i : Nat) (h : byteAt s i < 128) : sizeAt s i = 1 := by
  unfold sizeAt sizeN
  rw [if_pos h]
/-- What is decoded whole is encoded again as it was. -/
theorem encode_decode (s : List UInt8) (i : Nat) (hi : i < s.length) (h0 : sizeAt s i ≠ 0) : (Utf8.encode ((decodeAt s i).1 : Int)).data.toList = (s.drop i).take (sizeAt s i) := by
  have hb1 := byteAt_lt s (i + 1)
  have hb2 := byteAt_lt s (i + 2)
  have hb3 := byteAt_lt s (i + 3)
  have q2 : byteAt s (i + 1 + 1) = byteAt s (i + 2) := rfl
  have q3 : byteAt s (i + 1 + 1 + 1) = byteAt s (i + 3) := rfl
  rcases sizeN_cases (s.length - i) (byteAt s i) (byteAt s (i + 1)) (byteAt s (i + 2)) (byteAt s (i + 3)) (by omega) with h | ⟨h, c⟩ | ⟨h, c⟩ | ⟨h, c⟩ | ⟨h, c⟩
  · exact absurd h h0
  · rw [show sizeAt s i = 1 from h, decode_ascii s i c, enc1 _ c, drop_cons hi 0]
    simp only [List.take_succ_cons, List.take_zero]
    rw [ofNat_byte s i rfl]
  · rw [show sizeAt s i = 2 from h, show decodeAt s i = _ from decodeN_two c, enc2 _ (by simp only; omega) (by simp only; omega), drop_cons hi 0, drop_cons (i := i + 1) (by omega) 0]
    simp only [List.take_succ_cons, List.take_zero]
    rw [ofNat_byte s i (by omega), ofNat_byte s (i + 1) (by omega)]
  · rw [show sizeAt s i = 3 from h, show decodeAt s i = _ from decodeN_three c, enc3 _ (by simp only; omega) (by simp only; omega) (by simp only; omega), drop_cons hi 0, drop_cons (i := i + 1) (by omega) 0, drop_cons (i := i + 1 + 1) (by omega) 0]
    simp only [List.take_succ_cons, List.take_zero]
    rw [ofNat_byte s i (by omega), ofNat_byte s (i + 1) (by omega), ofNat_byte s (i + 1 + 1) (by omega)]
  · rw [show sizeAt s i = 4 from h, show decodeAt s i = _ from decodeN_four c, enc4 _ (by simp only; omega) (by simp only; omega), drop_cons hi 0, drop_cons (i := i + 1) (by omega) 0, drop_cons (i := i + 1 + 1) (by omega) 0, drop_cons (i := i + 1 + 1 + 1) (by omega) 0]
    simp only [List.take_succ_cons, List.take_zero]
    rw [ofNat_byte s i (by omega), ofNat_byte s (i + 1) (by omega), ofNat_byte s (i + 1 + 1) (by omega), ofNat_byte s (i + 1 + 1 + 1) (by omega)]

/- Quoting. -/
def hexd (n : Nat) : UInt8 := ([48, 49, 50, 51, 52, 53, 54, 55, 56, 57, 97, 98, 99, 100, 101, 102] : List UInt8).getD n 0
def hex2 (b : Nat) : List UInt8 := [hexd (b / 16), hexd (b % 16)]
def partAt (s : List UInt8) (i : Nat) : List UInt8 :=
  if byteAt s i = 34 then [92, 34] else if byteAt s i = 92 then [92, 92] else if byteAt s i = 10 then [92, 110] else if byteAt s i = 9 then [92, 116] else if byteAt s i = 13 then [92, 114]
  else if byteAt s i < 32 ∨ byteAt s i = 127 ∨ sizeAt s i = 0 then 92 :: 120 :: hex2 (byteAt s i) else (s.drop i).take (sizeAt s i)
theorem partAt_le (s : List UInt8) (i : Nat) (hi : i < s.length) : (partAt s i).length ≤ 4 := by
  have := sizeAt_le s i hi
  unfold partAt
  repeat' split
  all_goals simp [hex2]
  omega
def quoteFrom (s : List UInt8) (i : Nat) : List UInt8 := if i < s.length then partAt s i ++ quoteFrom s (i + stepLen s i) else []
termination_by s.length - i
decreasing_by
  have := stepLen_pos s i
  omega
theorem quoteFrom_len (s : List UInt8) : ∀ (m i : Nat), s.length - i ≤ m → (quoteFrom s i).length ≤ 4 * (s.length - i) := by
  intro m
  induction m with
  | zero =>
    intro i hm
    rw [quoteFrom, if_neg (by omega)]; simp
  | succ m ih =>
    intro i hm
    rw [quoteFrom]
    by_cases hi : i < s.length
    · have h1 := partAt_le s i hi
      have h2 := stepLen_pos s i
      have h3 := stepLen_le s i hi
      have := ih (i + stepLen s i) (by omega)
      rw [if_pos hi, List.length_append]
      omega
    · rw [if_neg hi]; simp
def quote (s : List UInt8) : List UInt8 := 34 :: (quoteFrom s 0 ++ [34])
end Go.Ab
