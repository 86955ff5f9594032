/- The uses that a row's reading gives are of their type. -/
import Derived.Test.YtjogoleiodbfdaaAbEndY
import Derived.Test.YtjogoleiodbfdaaPAddY
set_option linter.unusedVariables false
set_option linter.unusedSimpArgs false
set_option linter.unnecessarySimpa false
namespace Go.Ab
open Go Go.Proofs Go.Proofs.Ytjogoleiodbfdaa
theorem good_strU {P : Program} {n : Nat} {T : TypeId} {v : PV} (h : goodPV P n T v) (hu : P.underlying T = some .string) : ∃ s, v = .str s := by
  cases n with
  | zero => cases h
  | succ n => unfold goodPV at h; rw [hu] at h; exact h
theorem uses_good {n : Nat} {v : PV} (h : goodPV Try.prog n 22 v) : UsesOk v.asList := by
  intro x hx
  obtain ⟨xs, m, rfl, hf⟩ := good_slice h Try.underlying22
  have g := hf x hx
  obtain ⟨vs, m2, rfl, hl, hg⟩ := good_struct g Try.underlying28
  match vs, hl with
  | [a0, a1, a2], _ =>
    obtain ⟨s, rfl⟩ := good_strU (hg 0 a0 _ rfl rfl) Try.underlying9
    obtain ⟨b, rfl, _⟩ := good_int (hg 1 a1 _ rfl rfl) Try.underlying3
    obtain ⟨c, rfl, hw⟩ := good_int (hg 2 a2 _ rfl rfl) Try.underlying3
    have hw := bounds_i64 hw
    exact ⟨(s, b, c), rfl, show IntKind.wrap .i64 c = c from wrap64 (by omega) (by omega)⟩
end Go.Ab
