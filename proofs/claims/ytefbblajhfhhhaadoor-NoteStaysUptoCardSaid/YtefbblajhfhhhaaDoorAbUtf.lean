/- UTF-8: a sequence's size, by its bytes and by the model's decoding. -/
import Derived.Test.YtefbblajhfhhhaaDoorAbPlain
import Derived.Lib.DecodeN
import Derived.Lib.DecodeNEq
set_option linter.unusedVariables false
set_option linter.unusedSimpArgs false
set_option linter.unnecessarySimpa false
namespace Go.Ab
open Go

/-- The size of the well-formed sequence at the head of n bytes, 0 if there is none. -/
def sizeN (n b0 b1 b2 b3 : Nat) : Nat :=
  if b0 < 128 then 1
  else if 194 ≤ b0 ∧ b0 ≤ 223 ∧ (1 < n ∧ 128 ≤ b1 ∧ b1 ≤ 191) then 2
  else if b0 = 224 ∧ (1 < n ∧ 160 ≤ b1 ∧ b1 ≤ 191) ∧ (2 < n ∧ 128 ≤ b2 ∧ b2 ≤ 191) then 3
  else if b0 = 237 ∧ (1 < n ∧ 128 ≤ b1 ∧ b1 ≤ 159) ∧ (2 < n ∧ 128 ≤ b2 ∧ b2 ≤ 191) then 3
  else if 225 ≤ b0 ∧ b0 ≤ 239 ∧ b0 ≠ 237 ∧ (1 < n ∧ 128 ≤ b1 ∧ b1 ≤ 191) ∧ (2 < n ∧ 128 ≤ b2 ∧ b2 ≤ 191) then 3
  else if b0 = 240 ∧ (1 < n ∧ 144 ≤ b1 ∧ b1 ≤ 191) ∧ (2 < n ∧ 128 ≤ b2 ∧ b2 ≤ 191) ∧ (3 < n ∧ 128 ≤ b3 ∧ b3 ≤ 191) then 4
  else if 241 ≤ b0 ∧ b0 ≤ 243 ∧ (1 < n ∧ 128 ≤ b1 ∧ b1 ≤ 191) ∧ (2 < n ∧ 128 ≤ b2 ∧ b2 ≤ 191) ∧ (3 < n ∧ 128 ≤ b3 ∧ b3 ≤ 191) then 4
  else if b0 = 244 ∧ (1 < n ∧ 128 ≤ b1 ∧ b1 ≤ 143) ∧ (2 < n ∧ 128 ≤ b2 ∧ b2 ≤ 191) ∧ (3 < n ∧ 128 ≤ b3 ∧ b3 ≤ 191) then 4
  else 0

theorem sizeN_C2 (n b0 b1 b2 b3 : Nat) (h : 194 ≤ b0 ∧ b0 < 224) : sizeN n b0 b1 b2 b3 = if (1 < n ∧ 128 ≤ b1 ∧ b1 ≤ 191) then 2 else 0 := by
  unfold sizeN
  by_cases c : (1 < n ∧ 128 ≤ b1 ∧ b1 ≤ 191)
  · rw [if_neg (by omega), if_pos (by omega), if_pos c]
  · rw [if_neg (by omega), if_neg (by omega), if_neg (by omega), if_neg (by omega), if_neg (by omega), if_neg (by omega), if_neg (by omega), if_neg (by omega), if_neg c]
theorem sizeD_C2 (n b0 b1 b2 b3 : Nat) (hn : 1 ≤ n) (h1 : b1 < 256) (h2 : b2 < 256) (h3 : b3 < 256) (h : 194 ≤ b0 ∧ b0 < 224) :
    sizeN n b0 b1 b2 b3 = if (Lib.decodeN n b0 b1 b2 b3).1 = 65533 ∧ ¬ (2 < n ∧ b0 = 239 ∧ b1 = 191 ∧ b2 = 189) then 0 else (Lib.decodeN n b0 b1 b2 b3).2 := by
  rw [sizeN_C2 n b0 b1 b2 b3 h, ← Lib.slow_C2 n b0 b1 b2 b3 hn h1 h2 h3 h]
  by_cases c : (1 < n ∧ 128 ≤ b1 ∧ b1 ≤ 191)
  · rw [if_pos c]
    have e : Lib.slowN n b0 b1 b2 b3 2 128 191 = (b0 % 32 * 64 + b1 % 64, 2) := by
      unfold Lib.slowN
      rw [if_neg (by omega), if_neg (by omega), if_pos (by omega)]
    rw [e, if_neg (by simp only; omega)]
  · rw [if_neg c]
    have e : Lib.slowN n b0 b1 b2 b3 2 128 191 = (65533, 1) := by
      unfold Lib.slowN
      by_cases d1 : n < 2
      · rw [if_pos d1]
      · rw [if_neg d1, if_pos (by omega)]
    rw [e, if_pos ⟨rfl, by omega⟩]
theorem sizeN_E0 (n b0 b1 b2 b3 : Nat) (h : b0 = 224) : sizeN n b0 b1 b2 b3 = if (1 < n ∧ 160 ≤ b1 ∧ b1 ≤ 191) ∧ (2 < n ∧ 128 ≤ b2 ∧ b2 ≤ 191) then 3 else 0 := by
  unfold sizeN
  by_cases c : (1 < n ∧ 160 ≤ b1 ∧ b1 ≤ 191) ∧ (2 < n ∧ 128 ≤ b2 ∧ b2 ≤ 191)
  · rw [if_neg (by omega), if_neg (by omega), if_pos (by omega), if_pos c]
  · rw [if_neg (by omega), if_neg (by omega), if_neg (by omega), if_neg (by omega), if_neg (by omega), if_neg (by omega), if_neg (by omega), if_neg (by omega), if_neg c]
theorem sizeD_E0 (n b0 b1 b2 b3 : Nat) (hn : 1 ≤ n) (h1 : b1 < 256) (h2 : b2 < 256) (h3 : b3 < 256) (h : b0 = 224) :
    sizeN n b0 b1 b2 b3 = if (Lib.decodeN n b0 b1 b2 b3).1 = 65533 ∧ ¬ (2 < n ∧ b0 = 239 ∧ b1 = 191 ∧ b2 = 189) then 0 else (Lib.decodeN n b0 b1 b2 b3).2 := by
  rw [sizeN_E0 n b0 b1 b2 b3 h, ← Lib.slow_E0 n b0 b1 b2 b3 hn h1 h2 h3 h]
  by_cases c : (1 < n ∧ 160 ≤ b1 ∧ b1 ≤ 191) ∧ (2 < n ∧ 128 ≤ b2 ∧ b2 ≤ 191)
  · rw [if_pos c]
    have e : Lib.slowN n b0 b1 b2 b3 3 160 191 = (b0 % 16 * 4096 + b1 % 64 * 64 + b2 % 64, 3) := by
      unfold Lib.slowN
      rw [if_neg (by omega), if_neg (by omega), if_neg (by omega), if_neg (by omega), if_pos (by omega)]
    rw [e, if_neg (by simp only; omega)]
  · rw [if_neg c]
    have e : Lib.slowN n b0 b1 b2 b3 3 160 191 = (65533, 1) := by
      unfold Lib.slowN
      by_cases d1 : n < 3
      · rw [if_pos d1]
      · by_cases d2 : b1 < 160 ∨ 191 < b1
        · rw [if_neg d1, if_pos d2]
        · rw [if_neg d1, if_neg d2, if_neg (by omega), if_pos (by omega)]
    rw [e, if_pos ⟨rfl, by omega⟩]
theorem sizeN_E1 (n b0 b1 b2 b3 : Nat) (h : (225 ≤ b0 ∧ b0 < 237) ∨ (238 ≤ b0 ∧ b0 < 240)) : sizeN n b0 b1 b2 b3 = if (1 < n ∧ 128 ≤ b1 ∧ b1 ≤ 191) ∧ (2 < n ∧ 128 ≤ b2 ∧ b2 ≤ 191) then 3 else 0 := by
  unfold sizeN
  by_cases c : (1 < n ∧ 128 ≤ b1 ∧ b1 ≤ 191) ∧ (2 < n ∧ 128 ≤ b2 ∧ b2 ≤ 191)
  · rw [if_neg (by omega), if_neg (by omega), if_neg (by omega), if_neg (by omega), if_pos (by omega), if_pos c]
  · rw [if_neg (by omega), if_neg (by omega), if_neg (by omega), if_neg (by omega), if_neg (by omega), if_neg (by omega), if_neg (by omega), if_neg (by omega), if_neg c]
theorem sizeD_E1 (n b0 b1 b2 b3 : Nat) (hn : 1 ≤ n) (h1 : b1 < 256) (h2 : b2 < 256) (h3 : b3 < 256) (h : (225 ≤ b0 ∧ b0 < 237) ∨ (238 ≤ b0 ∧ b0 < 240)) :
    sizeN n b0 b1 b2 b3 = if (Lib.decodeN n b0 b1 b2 b3).1 = 65533 ∧ ¬ (2 < n ∧ b0 = 239 ∧ b1 = 191 ∧ b2 = 189) then 0 else (Lib.decodeN n b0 b1 b2 b3).2 := by
  rw [sizeN_E1 n b0 b1 b2 b3 h, ← Lib.slow_E1 n b0 b1 b2 b3 hn h1 h2 h3 h]
  by_cases c : (1 < n ∧ 128 ≤ b1 ∧ b1 ≤ 191) ∧ (2 < n ∧ 128 ≤ b2 ∧ b2 ≤ 191)
  · rw [if_pos c]
    have e : Lib.slowN n b0 b1 b2 b3 3 128 191 = (b0 % 16 * 4096 + b1 % 64 * 64 + b2 % 64, 3) := by
      unfold Lib.slowN
      rw [if_neg (by omega), if_neg (by omega), if_neg (by omega), if_neg (by omega), if_pos (by omega)]
    rw [e, if_neg (by simp only; omega)]
  · rw [if_neg c]
    have e : Lib.slowN n b0 b1 b2 b3 3 128 191 = (65533, 1) := by
      unfold Lib.slowN
      by_cases d1 : n < 3
      · rw [if_pos d1]
      · by_cases d2 : b1 < 128 ∨ 191 < b1
        · rw [if_neg d1, if_pos d2]
        · rw [if_neg d1, if_neg d2, if_neg (by omega), if_pos (by omega)]
    rw [e, if_pos ⟨rfl, by omega⟩]
theorem sizeN_ED (n b0 b1 b2 b3 : Nat) (h : b0 = 237) : sizeN n b0 b1 b2 b3 = if (1 < n ∧ 128 ≤ b1 ∧ b1 ≤ 159) ∧ (2 < n ∧ 128 ≤ b2 ∧ b2 ≤ 191) then 3 else 0 := by
  unfold sizeN
  by_cases c : (1 < n ∧ 128 ≤ b1 ∧ b1 ≤ 159) ∧ (2 < n ∧ 128 ≤ b2 ∧ b2 ≤ 191)
  · rw [if_neg (by omega), if_neg (by omega), if_neg (by omega), if_pos (by omega), if_pos c]
  · rw [if_neg (by omega), if_neg (by omega), if_neg (by omega), if_neg (by omega), if_neg (by omega), if_neg (by omega), if_neg (by omega), if_neg (by omega), if_neg c]
theorem sizeD_ED (n b0 b1 b2 b3 : Nat) (hn : 1 ≤ n) (h1 : b1 < 256) (h2 : b2 < 256) (h3 : b3 < 256) (h : b0 = 237) :
    sizeN n b0 b1 b2 b3 = if (Lib.decodeN n b0 b1 b2 b3).1 = 65533 ∧ ¬ (2 < n ∧ b0 = 239 ∧ b1 = 191 ∧ b2 = 189) then 0 else (Lib.decodeN n b0 b1 b2 b3).2 := by
  rw [sizeN_ED n b0 b1 b2 b3 h, ← Lib.slow_ED n b0 b1 b2 b3 hn h1 h2 h3 h]
  by_cases c : (1 < n ∧ 128 ≤ b1 ∧ b1 ≤ 159) ∧ (2 < n ∧ 128 ≤ b2 ∧ b2 ≤ 191)
  · rw [if_pos c]
    have e : Lib.slowN n b0 b1 b2 b3 3 128 159 = (b0 % 16 * 4096 + b1 % 64 * 64 + b2 % 64, 3) := by
      unfold Lib.slowN
      rw [if_neg (by omega), if_neg (by omega), if_neg (by omega), if_neg (by omega), if_pos (by omega)]
    rw [e, if_neg (by simp only; omega)]
  · rw [if_neg c]
    have e : Lib.slowN n b0 b1 b2 b3 3 128 159 = (65533, 1) := by
      unfold Lib.slowN
      by_cases d1 : n < 3
      · rw [if_pos d1]
      · by_cases d2 : b1 < 128 ∨ 159 < b1
        · rw [if_neg d1, if_pos d2]
        · rw [if_neg d1, if_neg d2, if_neg (by omega), if_pos (by omega)]
    rw [e, if_pos ⟨rfl, by omega⟩]
theorem sizeN_F0 (n b0 b1 b2 b3 : Nat) (h : b0 = 240) : sizeN n b0 b1 b2 b3 = if (1 < n ∧ 144 ≤ b1 ∧ b1 ≤ 191) ∧ (2 < n ∧ 128 ≤ b2 ∧ b2 ≤ 191) ∧ (3 < n ∧ 128 ≤ b3 ∧ b3 ≤ 191) then 4 else 0 := by
  unfold sizeN
  by_cases c : (1 < n ∧ 144 ≤ b1 ∧ b1 ≤ 191) ∧ (2 < n ∧ 128 ≤ b2 ∧ b2 ≤ 191) ∧ (3 < n ∧ 128 ≤ b3 ∧ b3 ≤ 191)
  · rw [if_neg (by omega), if_neg (by omega), if_neg (by omega), if_neg (by omega), if_neg (by omega), if_pos (by omega), if_pos c]
  · rw [if_neg (by omega), if_neg (by omega), if_neg (by omega), if_neg (by omega), if_neg (by omega), if_neg (by omega), if_neg (by omega), if_neg (by omega), if_neg c]
theorem sizeD_F0 (n b0 b1 b2 b3 : Nat) (hn : 1 ≤ n) (h1 : b1 < 256) (h2 : b2 < 256) (h3 : b3 < 256) (h : b0 = 240) :
    sizeN n b0 b1 b2 b3 = if (Lib.decodeN n b0 b1 b2 b3).1 = 65533 ∧ ¬ (2 < n ∧ b0 = 239 ∧ b1 = 191 ∧ b2 = 189) then 0 else (Lib.decodeN n b0 b1 b2 b3).2 := by
  rw [sizeN_F0 n b0 b1 b2 b3 h, ← Lib.slow_F0 n b0 b1 b2 b3 hn h1 h2 h3 h]
  by_cases c : (1 < n ∧ 144 ≤ b1 ∧ b1 ≤ 191) ∧ (2 < n ∧ 128 ≤ b2 ∧ b2 ≤ 191) ∧ (3 < n ∧ 128 ≤ b3 ∧ b3 ≤ 191)
  · rw [if_pos c]
    have e : Lib.slowN n b0 b1 b2 b3 4 144 191 = (b0 % 8 * 262144 + b1 % 64 * 4096 + b2 % 64 * 64 + b3 % 64, 4) := by
      unfold Lib.slowN
      rw [if_neg (by omega), if_neg (by omega), if_neg (by omega), if_neg (by omega), if_neg (by omega), if_neg (by omega)]
    rw [e, if_neg (by simp only; omega)]
  · rw [if_neg c]
    have e : Lib.slowN n b0 b1 b2 b3 4 144 191 = (65533, 1) := by
      unfold Lib.slowN
      by_cases d1 : n < 4
      · rw [if_pos d1]
      · by_cases d2 : b1 < 144 ∨ 191 < b1
        · rw [if_neg d1, if_pos d2]
        · by_cases d3 : b2 < 128 ∨ 191 < b2
          · rw [if_neg d1, if_neg d2, if_neg (by omega), if_pos d3]
          · rw [if_neg d1, if_neg d2, if_neg (by omega), if_neg d3, if_neg (by omega), if_pos (by omega)]
    rw [e, if_pos ⟨rfl, by omega⟩]
theorem sizeN_F1 (n b0 b1 b2 b3 : Nat) (h : 241 ≤ b0 ∧ b0 < 244) : sizeN n b0 b1 b2 b3 = if (1 < n ∧ 128 ≤ b1 ∧ b1 ≤ 191) ∧ (2 < n ∧ 128 ≤ b2 ∧ b2 ≤ 191) ∧ (3 < n ∧ 128 ≤ b3 ∧ b3 ≤ 191) then 4 else 0 := by
  unfold sizeN
  by_cases c : (1 < n ∧ 128 ≤ b1 ∧ b1 ≤ 191) ∧ (2 < n ∧ 128 ≤ b2 ∧ b2 ≤ 191) ∧ (3 < n ∧ 128 ≤ b3 ∧ b3 ≤ 191)
  · rw [if_neg (by omega), if_neg (by omega), if_neg (by omega), if_neg (by omega), if_neg (by omega), if_neg (by omega), if_pos (by omega), if_pos c]
  · rw [if_neg (by omega), if_neg (by omega), if_neg (by omega), if_neg (by omega), if_neg (by omega), if_neg (by omega), if_neg (by omega), if_neg (by omega), if_neg c]
theorem sizeD_F1 (n b0 b1 b2 b3 : Nat) (hn : 1 ≤ n) (h1 : b1 < 256) (h2 : b2 < 256) (h3 : b3 < 256) (h : 241 ≤ b0 ∧ b0 < 244) :
    sizeN n b0 b1 b2 b3 = if (Lib.decodeN n b0 b1 b2 b3).1 = 65533 ∧ ¬ (2 < n ∧ b0 = 239 ∧ b1 = 191 ∧ b2 = 189) then 0 else (Lib.decodeN n b0 b1 b2 b3).2 := by
  rw [sizeN_F1 n b0 b1 b2 b3 h, ← Lib.slow_F1 n b0 b1 b2 b3 hn h1 h2 h3 h]
  by_cases c : (1 < n ∧ 128 ≤ b1 ∧ b1 ≤ 191) ∧ (2 < n ∧ 128 ≤ b2 ∧ b2 ≤ 191) ∧ (3 < n ∧ 128 ≤ b3 ∧ b3 ≤ 191)
  · rw [if_pos c]
    have e : Lib.slowN n b0 b1 b2 b3 4 128 191 = (b0 % 8 * 262144 + b1 % 64 * 4096 + b2 % 64 * 64 + b3 % 64, 4) := by
      unfold Lib.slowN
      rw [if_neg (by omega), if_neg (by omega), if_neg (by omega), if_neg (by omega), if_neg (by omega), if_neg (by omega)]
    rw [e, if_neg (by simp only; omega)]
  · rw [if_neg c]
    have e : Lib.slowN n b0 b1 b2 b3 4 128 191 = (65533, 1) := by
      unfold Lib.slowN
      by_cases d1 : n < 4
      · rw [if_pos d1]
      · by_cases d2 : b1 < 128 ∨ 191 < b1
        · rw [if_neg d1, if_pos d2]
        · by_cases d3 : b2 < 128 ∨ 191 < b2
          · rw [if_neg d1, if_neg d2, if_neg (by omega), if_pos d3]
          · rw [if_neg d1, if_neg d2, if_neg (by omega), if_neg d3, if_neg (by omega), if_pos (by omega)]
    rw [e, if_pos ⟨rfl, by omega⟩]
theorem sizeN_F4 (n b0 b1 b2 b3 : Nat) (h : b0 = 244) : sizeN n b0 b1 b2 b3 = if (1 < n ∧ 128 ≤ b1 ∧ b1 ≤ 143) ∧ (2 < n ∧ 128 ≤ b2 ∧ b2 ≤ 191) ∧ (3 < n ∧ 128 ≤ b3 ∧ b3 ≤ 191) then 4 else 0 := by
  unfold sizeN
  by_cases c : (1 < n ∧ 128 ≤ b1 ∧ b1 ≤ 143) ∧ (2 < n ∧ 128 ≤ b2 ∧ b2 ≤ 191) ∧ (3 < n ∧ 128 ≤ b3 ∧ b3 ≤ 191)
  · rw [if_neg (by omega), if_neg (by omega), if_neg (by omega), if_neg (by omega), if_neg (by omega), if_neg (by omega), if_neg (by omega), if_pos (by omega), if_pos c]
  · rw [if_neg (by omega), if_neg (by omega), if_neg (by omega), if_neg (by omega), if_neg (by omega), if_neg (by omega), if_neg (by omega), if_neg (by omega), if_neg c]
theorem sizeD_F4 (n b0 b1 b2 b3 : Nat) (hn : 1 ≤ n) (h1 : b1 < 256) (h2 : b2 < 256) (h3 : b3 < 256) (h : b0 = 244) :
    sizeN n b0 b1 b2 b3 = if (Lib.decodeN n b0 b1 b2 b3).1 = 65533 ∧ ¬ (2 < n ∧ b0 = 239 ∧ b1 = 191 ∧ b2 = 189) then 0 else (Lib.decodeN n b0 b1 b2 b3).2 := by
  rw [sizeN_F4 n b0 b1 b2 b3 h, ← Lib.slow_F4 n b0 b1 b2 b3 hn h1 h2 h3 h]
  by_cases c : (1 < n ∧ 128 ≤ b1 ∧ b1 ≤ 143) ∧ (2 < n ∧ 128 ≤ b2 ∧ b2 ≤ 191) ∧ (3 < n ∧ 128 ≤ b3 ∧ b3 ≤ 191)
  · rw [if_pos c]
    have e : Lib.slowN n b0 b1 b2 b3 4 128 143 = (b0 % 8 * 262144 + b1 % 64 * 4096 + b2 % 64 * 64 + b3 % 64, 4) := by
      unfold Lib.slowN
      rw [if_neg (by omega), if_neg (by omega), if_neg (by omega), if_neg (by omega), if_neg (by omega), if_neg (by omega)]
    rw [e, if_neg (by simp only; omega)]
  · rw [if_neg c]
    have e : Lib.slowN n b0 b1 b2 b3 4 128 143 = (65533, 1) := by
      unfold Lib.slowN
      by_cases d1 : n < 4
      · rw [if_pos d1]
      · by_cases d2 : b1 < 128 ∨ 143 < b1
        · rw [if_neg d1, if_pos d2]
        · by_cases d3 : b2 < 128 ∨ 191 < b2
          · rw [if_neg d1, if_neg d2, if_neg (by omega), if_pos d3]
          · rw [if_neg d1, if_neg d2, if_neg (by omega), if_neg d3, if_neg (by omega), if_pos (by omega)]
    rw [e, if_pos ⟨rfl, by omega⟩]
/-- It is what the model's decoding says. -/
theorem sizeN_decode (n b0 b1 b2 b3 : Nat) (hn : 1 ≤ n) (h0 : b0 < 256) (h1 : b1 < 256) (h2 : b2 < 256) (h3 : b3 < 256) :
    sizeN n b0 b1 b2 b3 = if (Lib.decodeN n b0 b1 b2 b3).1 = 65533 ∧ ¬ (2 < n ∧ b0 = 239 ∧ b1 = 191 ∧ b2 = 189) then 0 else (Lib.decodeN n b0 b1 b2 b3).2 := by
  by_cases g : 194 ≤ b0 ∧ b0 ≤ 244
  · by_cases k1 : b0 < 224
    · exact sizeD_C2 n b0 b1 b2 b3 hn h1 h2 h3 (by omega)
    by_cases k2 : b0 = 224
    · exact sizeD_E0 n b0 b1 b2 b3 hn h1 h2 h3 k2
    by_cases k3 : b0 = 237
    · exact sizeD_ED n b0 b1 b2 b3 hn h1 h2 h3 k3
    by_cases k4 : b0 < 240
    · exact sizeD_E1 n b0 b1 b2 b3 hn h1 h2 h3 (by omega)
    by_cases k5 : b0 = 240
    · exact sizeD_F0 n b0 b1 b2 b3 hn h1 h2 h3 k5
    by_cases k6 : b0 = 244
    · exact sizeD_F4 n b0 b1 b2 b3 hn h1 h2 h3 k6
    exact sizeD_F1 n b0 b1 b2 b3 hn h1 h2 h3 (by omega)
  · by_cases a : b0 < 128
    · have e : Lib.firstT b0 = 240 := by unfold Lib.firstT; rw [if_pos a]
      rw [Lib.ascii_eq n b0 b1 b2 b3 e]
      unfold sizeN
      rw [if_pos a, if_neg (by simp only; omega)]
    · have e : Lib.firstT b0 = 241 := by
        unfold Lib.firstT
        by_cases d : b0 < 194
        · rw [if_neg a, if_pos d]
        · rw [if_neg a, if_neg d, if_neg (by omega), if_neg (by omega), if_neg (by omega), if_neg (by omega), if_neg (by omega), if_neg (by omega), if_neg (by omega), if_neg (by omega)]
      rw [Lib.bad_eq n b0 b1 b2 b3 h0 e, if_pos ⟨rfl, by omega⟩]
      unfold sizeN
      rw [if_neg (by omega), if_neg (by omega), if_neg (by omega), if_neg (by omega), if_neg (by omega), if_neg (by omega), if_neg (by omega), if_neg (by omega)]

/-- Byte i of a string, as a number. -/
def byteAt (s : List UInt8) (i : Nat) : Nat := (s.getD i 0).toNat
theorem byteAt_lt (s : List UInt8) (i : Nat) : byteAt s i < 256 := (s.getD i 0).toNat_lt
def sizeAt (s : List UInt8) (i : Nat) : Nat := sizeN (s.length - i) (byteAt s i) (byteAt s (i + 1)) (byteAt s (i + 2)) (byteAt s (i + 3))
def decodeAt (s : List UInt8) (i : Nat) : Nat × Nat := Lib.decodeN (s.length - i) (byteAt s i) (byteAt s (i + 1)) (byteAt s (i + 2)) (byteAt s (i + 3))
theorem decode_eq (s : List UInt8) (i : Nat) : Utf8.decode ⟨s.toArray⟩ i = decodeAt s i := by
  rw [Lib.decode_at]
  have hg : ∀ j, ((⟨s.toArray⟩ : ByteArray).get! j).toNat = byteAt s j := by
    intro j
    show ((s.toArray)[j]!).toNat = _
    simp [byteAt, List.getD]
    rfl
  rw [hg, hg, hg, hg]
  rfl
theorem sizeAt_decode (s : List UInt8) (i : Nat) (hi : i < s.length) : sizeAt s i = if (decodeAt s i).1 = 65533 ∧ ¬ (2 < s.length - i ∧ byteAt s i = 239 ∧ byteAt s (i + 1) = 191 ∧ byteAt s (i + 2) = 189) then 0 else (decodeAt s i).2 :=
  sizeN_decode _ _ _ _ _ (by omega) (byteAt_lt _ _) (byteAt_lt _ _) (byteAt_lt _ _) (byteAt_lt _ _)
theorem sizeN_le (n b0 b1 b2 b3 : Nat) (hn : 0 < n) : sizeN n b0 b1 b2 b3 ≤ n ∧ sizeN n b0 b1 b2 b3 ≤ 4 := by
  unfold sizeN
  repeat' split
  all_goals omega
theorem decodeN_pos (n b0 b1 b2 b3 : Nat) : 1 ≤ (Lib.decodeN n b0 b1 b2 b3).2 ∧ (Lib.decodeN n b0 b1 b2 b3).2 ≤ 4 := by
  unfold Lib.decodeN
  repeat' split
  all_goals simp
theorem decodeN_le (n b0 b1 b2 b3 : Nat) (hn : 0 < n) : (Lib.decodeN n b0 b1 b2 b3).2 ≤ n := by
  unfold Lib.decodeN
  repeat' split
  all_goals (simp only; omega)
theorem hasFFFD (s : List UInt8) (i : Nat) (hi : i ≤ s.length) : (decide ((((s.take s.length).drop i).length : Int) ≥ 3) && ((((s.take s.length).drop i).take 3) == ([239, 191, 189] : List UInt8))) = decide (2 < s.length - i ∧ byteAt s i = 239 ∧ byteAt s (i + 1) = 191 ∧ byteAt s (i + 2) = 189) := by
  rw [List.take_length]
  rw [Bool.eq_iff_iff]
  simp only [Bool.and_eq_true, decide_eq_true_eq, beq_iff_eq, List.length_drop, ge_iff_le]
  have tn : ∀ (x : UInt8) (k : Nat), k < 256 → (x.toNat = k ↔ x = UInt8.ofNat k) := by
    intro x k hk
    constructor
    · intro h; rw [← h]; exact UInt8.ofNat_toNat.symm
    · intro h; rw [h, UInt8.toNat_ofNat']; omega
  unfold byteAt
  rw [tn _ 239 (by omega), tn _ 191 (by omega), tn _ 189 (by omega)]
  constructor
  · rintro ⟨h1, h2⟩
    have h3 : 2 < s.length - i := by omega
    have g : ∀ j, j < 3 → s.getD (i + j) 0 = (([239, 191, 189] : List UInt8)).getD j 0 := by
      intro j hj
      rw [← h2]
      simp [List.getD, List.getElem?_take_of_lt hj, List.getElem?_drop]
    exact ⟨h3, g 0 (by omega), g 1 (by omega), g 2 (by omega)⟩
  · rintro ⟨h1, h2, h3, h4⟩
    refine ⟨by omega, ?_⟩
    have a0 : i < s.length := by omega
    have a1 : i + 1 < s.length := by omega
    have a2 : i + 2 < s.length := by omega
    rw [drop_cons a0 0, drop_cons a1 0, drop_cons a2 0, h2, h3, h4]
    rfl
/-- The index of the first wrong byte from i on, -1 if there is none. -/
def badF : Nat → List UInt8 → Nat → Int
  | 0, _, _ => -1
  | n + 1, s, i => if i < s.length then (if sizeAt s i = 0 then (i : Int) else badF n s (i + sizeAt s i)) else -1
theorem badF_stable : ∀ (n m : Nat) (s : List UInt8) (i : Nat), s.length - i < n → s.length - i < m → badF n s i = badF m s i := by
  intro n
  induction n with
  | zero => intro m s i h; omega
  | succ n ih =>
    intro m s i h h2
    obtain ⟨k, rfl⟩ : ∃ k, m = k + 1 := ⟨m - 1, by omega⟩
    unfold badF
    by_cases hi : i < s.length
    · simp only [hi, if_true]
      by_cases hz : sizeAt s i = 0
      · simp only [hz, if_true]
      · simp only [hz, if_false]
        exact ih k s _ (by omega) (by omega)
    · simp only [hi, if_false]
def badFrom (s : List UInt8) (i : Nat) : Int := badF (s.length - i + 1) s i
theorem badFrom_eq (s : List UInt8) (i : Nat) : badFrom s i = if i < s.length then (if sizeAt s i = 0 then (i : Int) else badFrom s (i + sizeAt s i)) else -1 := by
  unfold badFrom
  rw [badF]
  by_cases hi : i < s.length
  · simp only [hi, if_true]
    by_cases hz : sizeAt s i = 0
    · simp only [hz, if_true]
    · simp only [hz, if_false]
      exact badF_stable _ _ s _ (by omega) (by omega)
  · simp only [hi, if_false]
def bad (s : List UInt8) : Int := badFrom s 0
def valid (s : List UInt8) : Bool := decide (bad s < 0)
end Go.Ab
