/- The numbers of changes that a row's reading gives are of their type. -/
import Derived.Test.YthokbeimbdnnoaaGreatDoorAbEndE
import Derived.Test.YthokbeimbdnnoaaGreatDoorPUtfL
set_option linter.unusedVariables false
set_option linter.unusedSimpArgs false
set_option linter.unnecessarySimpa false
namespace Go.Ab
open Go Go.Proofs Go.Proofs.YthokbeimbdnnoaaGreatDoor
theorem changes_num {n : Nat} {v : PV} (h : goodPV Tryz.prog n 30 v) : NumOk v.asList := by
  intro x hx
  obtain ⟨xs, m, rfl, hf⟩ := good_slice h Tryz.underlying30
  have g := hf x hx
  obtain ⟨vs, m2, rfl, hl, hg⟩ := good_struct g Tryz.underlying34
  match vs, hl with
  | [a0, a1, a2, a3, a4], _ =>
    obtain ⟨b, rfl, hw⟩ := good_int (hg 2 a2 _ rfl rfl) Tryz.underlying3
    have hw := bounds_i64 hw
    exact ⟨hw.1, hw.2⟩
end Go.Ab
