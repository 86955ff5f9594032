/- Notes that a row's reading gives are no longer than its bound. -/
import Derived.Test.YtefbblajhfhhhaaDoorAbLawNoteSets
import Derived.Test.YtefbblajhfhhhaaDoorPNoteT
set_option linter.unusedVariables false
set_option linter.unusedSimpArgs false
set_option linter.unnecessarySimpa false
namespace Go.Ab
open Go Go.Proofs Go.Proofs.YtefbblajhfhhhaaDoor
theorem value_small {n : Nat} {v : PV} (h : goodPV Tryd.prog n 29 v) (hb : bulkPV v ≤ 1048576) : smallV v := by
  obtain ⟨vs, m, rfl, hl, hf⟩ := good_struct h Tryd.underlying29
  match vs, hl with
  | [a0, a1, a2, a3, a4, a5, a6], _ =>
    obtain ⟨b, rfl, hw⟩ := good_int (hf 1 a1 _ rfl rfl) Tryd.underlying23
    have h3 := bulk_list a3
    have h4 := bulk_list a4
    have h5 := bulk_list a5
    have h6 := bulk_list a6
    have h2 := bulk_str a2
    have hw := bounds_u64 hw
    simp only [bulkPV, bulkPVs] at hb
    refine ⟨?_, ?_, ?_, ?_⟩
    · show a3.asList.length + a4.asList.length + a5.asList.length + a6.asList.length ≤ 1048576
      omega
    · show a2.asStr.length ≤ 1048576
      omega
    · exact hw.1
    · show b < 18446744073709551616
      omega
theorem note_small {n : Nat} {v : PV} (h : goodPV Tryd.prog n 31 v) (hb : bulkPV v ≤ 1048576) : smallN v := by
  obtain ⟨vs, m, rfl, hl, hf⟩ := good_struct h Tryd.underlying31
  match vs, hl with
  | [a0, a1], _ =>
    have h0 := bulk_str a0
    simp only [bulkPV, bulkPVs] at hb
    have h1 : smallV a1 := value_small (hf 1 a1 _ rfl rfl) (by omega)
    exact ⟨h1, show a0.asStr.length ≤ 1048576 by omega⟩
theorem notes_small {n : Nat} {v : PV} (h : goodPV Tryd.prog n 22 v) (hb : bulkPV v ≤ 1048576) : v.asList.length ≤ 1048576 ∧ ∀ x, x ∈ v.asList → smallN x := by
  obtain ⟨xs, m, rfl, hf⟩ := good_slice h Tryd.underlying22
  simp only [bulkPV] at hb
  have := bulkPVs_length xs
  refine ⟨show xs.length ≤ _ by omega, fun x hx => ?_⟩
  have hx' : x ∈ xs := hx
  exact note_small (hf x hx') (by have := bulkPVs_mem hx'; omega)
end Go.Ab
