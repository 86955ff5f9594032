/- The words of kinds. -/
import Derived.Test.YtcpkdafleaddlaaGreatDoorGenPw
import Derived.Test.YtcpkdafleaddlaaGreatDoorAbPlain
set_option linter.unusedVariables false
set_option linter.unusedSimpArgs false
set_option linter.unnecessarySimpa false
namespace Go.Ab
open Go Go.Proofs
set_option maxRecDepth 100000

theorem kind_words (w : List UInt8) : ∃ n, F18 0 w = some n ∧ F19 0 w = some n := by
  by_cases h1 : w = [98, 111, 111, 108]
  · subst h1
    refine ⟨1, ?_, ?_⟩
    · unfold F18 F49; simp only [Option.bind_some, loopQ0]; rw [loopW_of 9 (y := .inl 1) (by kernel_rfl)]; rfl
    · unfold F19; simp only [loopQ0]; rw [loopW_of 9 (y := .inl 1) (by kernel_rfl)]; rfl
  by_cases h2 : w = [105, 51, 50]
  · subst h2
    refine ⟨2, ?_, ?_⟩
    · unfold F18 F49; simp only [Option.bind_some, loopQ0]; rw [loopW_of 9 (y := .inl 2) (by kernel_rfl)]; rfl
    · unfold F19; simp only [loopQ0]; rw [loopW_of 9 (y := .inl 2) (by kernel_rfl)]; rfl
  by_cases h3 : w = [105, 54, 52]
  · subst h3
    refine ⟨3, ?_, ?_⟩
    · unfold F18 F49; simp only [Option.bind_some, loopQ0]; rw [loopW_of 9 (y := .inl 3) (by kernel_rfl)]; rfl
    · unfold F19; simp only [loopQ0]; rw [loopW_of 9 (y := .inl 3) (by kernel_rfl)]; rfl
  by_cases h4 : w = [117, 51, 50]
  · subst h4
    refine ⟨4, ?_, ?_⟩
    · unfold F18 F49; simp only [Option.bind_some, loopQ0]; rw [loopW_of 9 (y := .inl 4) (by kernel_rfl)]; rfl
    · unfold F19; simp only [loopQ0]; rw [loopW_of 9 (y := .inl 4) (by kernel_rfl)]; rfl
  by_cases h5 : w = [117, 54, 52]
  · subst h5
    refine ⟨5, ?_, ?_⟩
    · unfold F18 F49; simp only [Option.bind_some, loopQ0]; rw [loopW_of 9 (y := .inl 5) (by kernel_rfl)]; rfl
    · unfold F19; simp only [loopQ0]; rw [loopW_of 9 (y := .inl 5) (by kernel_rfl)]; rfl
  by_cases h6 : w = [100, 111, 117, 98, 108, 101]
  · subst h6
    refine ⟨6, ?_, ?_⟩
    · unfold F18 F49; simp only [Option.bind_some, loopQ0]; rw [loopW_of 9 (y := .inl 6) (by kernel_rfl)]; rfl
    · unfold F19; simp only [loopQ0]; rw [loopW_of 9 (y := .inl 6) (by kernel_rfl)]; rfl
  by_cases h7 : w = [116, 101, 120, 116]
  · subst h7
    refine ⟨7, ?_, ?_⟩
    · unfold F18 F49; simp only [Option.bind_some, loopQ0]; rw [loopW_of 9 (y := .inl 7) (by kernel_rfl)]; rfl
    · unfold F19; simp only [loopQ0]; rw [loopW_of 9 (y := .inl 7) (by kernel_rfl)]; rfl
  by_cases h8 : w = [98, 121, 116, 101, 115]
  · subst h8
    refine ⟨8, ?_, ?_⟩
    · unfold F18 F49; simp only [Option.bind_some, loopQ0]; rw [loopW_of 9 (y := .inl 8) (by kernel_rfl)]; rfl
    · unfold F19; simp only [loopQ0]; rw [loopW_of 9 (y := .inl 8) (by kernel_rfl)]; rfl
  have g1 : (([98, 111, 111, 108] : List UInt8) == w) = false := by rw [beq_eq_false_iff_ne]; exact fun h => h1 h.symm
  have g2 : (([105, 51, 50] : List UInt8) == w) = false := by rw [beq_eq_false_iff_ne]; exact fun h => h2 h.symm
  have g3 : (([105, 54, 52] : List UInt8) == w) = false := by rw [beq_eq_false_iff_ne]; exact fun h => h3 h.symm
  have g4 : (([117, 51, 50] : List UInt8) == w) = false := by rw [beq_eq_false_iff_ne]; exact fun h => h4 h.symm
  have g5 : (([117, 54, 52] : List UInt8) == w) = false := by rw [beq_eq_false_iff_ne]; exact fun h => h5 h.symm
  have g6 : (([100, 111, 117, 98, 108, 101] : List UInt8) == w) = false := by rw [beq_eq_false_iff_ne]; exact fun h => h6 h.symm
  have g7 : (([116, 101, 120, 116] : List UInt8) == w) = false := by rw [beq_eq_false_iff_ne]; exact fun h => h7 h.symm
  have g8 : (([98, 121, 116, 101, 115] : List UInt8) == w) = false := by rw [beq_eq_false_iff_ne]; exact fun h => h8 h.symm
  refine ⟨0, ?_, ?_⟩
  · unfold F18 F49
    simp only [Option.bind_some, loopQ0]
    have e : loopW (S18_3step 0) (w, PV.agg [(PV.str ([98, 111, 111, 108] : List UInt8)), (PV.str ([105, 51, 50] : List UInt8)), (PV.str ([105, 54, 52] : List UInt8)), (PV.str ([117, 51, 50] : List UInt8)), (PV.str ([117, 54, 52] : List UInt8)), (PV.str ([100, 111, 117, 98, 108, 101] : List UInt8)), (PV.str ([116, 101, 120, 116] : List UInt8)), (PV.str ([98, 121, 116, 101, 115] : List UInt8))], (0 : Int)) = some (.inr ()) := by
      refine loopW_of 9 ?_
      simp [loopR, S18_3step, S18_3, inRange, PV.fld, PV.parts, PV.asStr, g1, g2, g3, g4, g5, g6, g7, g8, (by decide : IntKind.wrap .i64 1 = 1), (by decide : IntKind.wrap .i64 2 = 2), (by decide : IntKind.wrap .i64 3 = 3), (by decide : IntKind.wrap .i64 4 = 4), (by decide : IntKind.wrap .i64 5 = 5), (by decide : IntKind.wrap .i64 6 = 6), (by decide : IntKind.wrap .i64 7 = 7), (by decide : IntKind.wrap .i64 8 = 8)]
    rw [e]; rfl
  · unfold F19
    simp only [loopQ0]
    have e : loopW (S19_3step 0) (w, (1 : Int)) = some (.inr ()) := by
      refine loopW_of 9 ?_
      simp [loopR, S19_3step, S19_3, F21, g1, g2, g3, g4, g5, g6, g7, g8, (by decide : IntKind.wrap .i64 2 = 2), (by decide : IntKind.wrap .i64 3 = 3), (by decide : IntKind.wrap .i64 4 = 4), (by decide : IntKind.wrap .i64 5 = 5), (by decide : IntKind.wrap .i64 6 = 6), (by decide : IntKind.wrap .i64 7 = 7), (by decide : IntKind.wrap .i64 8 = 8), (by decide : IntKind.wrap .i64 9 = 9)]
    rw [e]; rfl

theorem words_kind (n : Int) : ∃ w, F20 0 n = some w ∧ F21 0 n = some w := by
  by_cases h1 : n = 1
  · subst h1; exact ⟨[98, 111, 111, 108], by kernel_rfl, by kernel_rfl⟩
  by_cases h2 : n = 2
  · subst h2; exact ⟨[105, 51, 50], by kernel_rfl, by kernel_rfl⟩
  by_cases h3 : n = 3
  · subst h3; exact ⟨[105, 54, 52], by kernel_rfl, by kernel_rfl⟩
  by_cases h4 : n = 4
  · subst h4; exact ⟨[117, 51, 50], by kernel_rfl, by kernel_rfl⟩
  by_cases h5 : n = 5
  · subst h5; exact ⟨[117, 54, 52], by kernel_rfl, by kernel_rfl⟩
  by_cases h6 : n = 6
  · subst h6; exact ⟨[100, 111, 117, 98, 108, 101], by kernel_rfl, by kernel_rfl⟩
  by_cases h7 : n = 7
  · subst h7; exact ⟨[116, 101, 120, 116], by kernel_rfl, by kernel_rfl⟩
  by_cases h8 : n = 8
  · subst h8; exact ⟨[98, 121, 116, 101, 115], by kernel_rfl, by kernel_rfl⟩
  refine ⟨[], ?_, ?_⟩
  · unfold F20
    have : (bif (decide (n < (1 : Int))) then true else (decide (n > (8 : Int)))) = true := by
      by_cases h : n < 1
      · simp [h]
      · have h' : n > 8 := by omega
        simp [h']
    rw [this]; rfl
  · unfold F21
    simp only [(by simpa using h1 : (n == 1) = false), (by simpa using h2 : (n == 2) = false), (by simpa using h3 : (n == 3) = false), (by simpa using h4 : (n == 4) = false), (by simpa using h5 : (n == 5) = false), (by simpa using h6 : (n == 6) = false), (by simpa using h7 : (n == 7) = false), (by simpa using h8 : (n == 8) = false), cond_false]

theorem plain_words (n : Int) (w : List UInt8) : F4 0 n w = some true := by
  obtain ⟨k, h1, h2⟩ := kind_words w
  obtain ⟨v, h3, h4⟩ := words_kind n
  unfold F4
  simp [h1, h2, h3, h4, Lawake09]
end Go.Ab
