/- The law RetireAdds, for every argument that holds at most 1048576 values and letters: the call returns true and every argument reads as before. Conditions: as the row prints them. -/
import Derived.Test.YtjogoleiodbfdaaAbLawY
import Derived.Test.YtjogoleiodbfdaaUseGoodY
import Derived.Test.YtjogoleiodbfdaaPAddY
set_option linter.unusedVariables false
set_option linter.unusedSimpArgs false
set_option linter.unnecessarySimpa false
namespace Go.Proofs.Ytjogoleiodbfdaa.retireAdds
open Go Go.Ab Go.Proofs.Ytjogoleiodbfdaa Go.ChangeShapes Go.WideShapes Go.ChangeAt Go.RowKit

theorem meets (pvs : List PV) (hl : pvs.length = Try.f3.params.toList.length) (hg : ∀ (i : Nat) (t : TypeId) (p : PV), Try.f3.params.toList[i]? = some t → pvs[i]? = some p → ∃ n, goodPV Try.prog n t p) (hb : bulkPVs pvs ≤ 1048576) :
    Meets Try.prog 3 (argsOf Try.prog Try.f3.params.toList pvs) [] [.bool true] [] := by
  rw [Try.params3] at hl hg ⊢
  match pvs, hl with
  | [p0, p1], _ =>
    obtain ⟨m0, g0⟩ := hg 0 _ p0 rfl rfl
    obtain ⟨m1, g1⟩ := hg 1 _ p1 rfl rfl
    simp only [bulkPVs] at hb
    have hb0 : bulkPV p0 ≤ 1048576 := by omega
    have hb1 : bulkPV p1 ≤ 1048576 := by omega
    have e : argsOf Try.prog #[22, 22].toList [p0, p1] = [.slice 28 p0.asList, .slice 28 p1.asList] := by
      simp [argsOf, argOf, Try.underlying22]
    rw [e]
    exact F3ok 0 (p0.asList, p1.asList) true (plain_adds (uses_good g0) (uses_good g1))

theorem nparams : Try.f3.params.toList.length = 2 := by rw [Try.params3]; rfl
theorem spec_at {H : Type} (ds : List (DataW H)) (h : ds.length = 2) : Rows.retireAddsSpec.fn H ds = { results := [.lit (.bool true)], args := ds } := by
  match ds, h with
  | [d0, d1], _ => rfl
set_option maxRecDepth 100000 in
theorem contract (H : Type) (enc : TypeId × Value → H) (W : World) (base : Nat) (args : Array Value) (ds gs : List (DataW H)) (before : List MemPlace)
    (hval : ∀ (j : Nat) t v, Try.f3.params[j]? = some t → args[j]? = some v → Value.okWide Try.prog W .any base t v)
    (hW : DataW.Whole enc Try.prog Try.f3.params.toList Rows.retireAddsSpec.vars false W args.toList ds gs before) (hN : Rows.uptoBulkAll (ds ++ gs) ≤ 1048576) :
    Calls Try.prog 3 args W fun e W' => ∃ v, e = .returned v ∧ Rows.retireAddsSpec.post enc Try.prog Try.f3 false true false false W args v W' :=
  law_end (f := 3) (fn := Try.f3) (s := Rows.retireAddsSpec) (N := 1048576) (tb := 4) (S := dataTypes) laidOut (by kernel_rfl) rfl (by kernel_rfl) Try.underlying4 dataTypes_plain (by kernel_rfl)
    (fun ds hd => spec_at ds (hd.trans nparams))
    hval hW hN (tabs0 W) meets

set_option maxRecDepth 100000 in
theorem lifted (os : Os) (started : os.Started) (H : Type) (enc : TypeId × Value → H) (F : Stop.Interp) :
    ReturnsInHanded {} Try.checked os 3 .any ((Rows.OpenSpec.upto Rows.retireAddsSpec).pre6 enc Try.prog Try.f3 Rows.retireAddsUptoRow.domain false) (((Rows.OpenSpec.upto Rows.retireAddsSpec).at F).post enc Try.prog Try.f3 false true false false) := by
  refine returnsInHanded_of_cond (C := Try.checked) (s := Rows.OpenSpec.upto Rows.retireAddsSpec) (k := Rows.uptoSmall) rfl own started (by kernel_rfl) Try.func3
    (OpenSpec.witness (enc := enc) (C := Try.checked) (s := Rows.OpenSpec.upto Rows.retireAddsSpec) (k := Rows.uptoSmall) rfl false ⟨#[], #[.slice none 0 0, .slice none 0 0], []⟩ 8 (by kernel_rfl) (by kernel_rfl) (by kernel_rfl)
      (x := ([.nil, .nil], [], [])) (by kernel_rfl) rfl (by kernel_rfl)) ?_
  intro W base args ds gs before hval hW _ hk _
  exact contract H enc W base args ds gs before hval hW (of_decide_eq_true hk)

theorem fact2 : mapsRowed Try.prog = true := by kernel_rfl
theorem fact3 : Try.f3.params.all (Try.prog.readableRec ·) = true := by kernel_rfl
theorem fact4 : (Rows.retireAddsUptoRow.inPlace == Try.prog.inPlace 3) = true := by kernel_rfl
theorem fact5 : (Rows.retireAddsUptoRow.unfollowed == Try.prog.unfollowed 3) = true := by kernel_rfl
theorem fact6 : (Rows.retireAddsUptoRow.recurses == Try.prog.recurses 3) = true := by kernel_rfl
theorem fact7 : (Rows.retireAddsUptoRow.named == Try.prog.varsNamed 3) = true := by kernel_rfl
theorem fact8 : (Rows.retireAddsUptoRow.loops == (Try.f3.params.toList ++ (Rows.OpenSpec.upto Rows.retireAddsSpec).bare.plain.varTypes Try.prog).any (Try.prog.loopsFrom ·)) = true := by kernel_rfl
theorem fact9 : Try.prog.mayEnter = true := by kernel_rfl
theorem fact10 : (Rows.retireAddsUptoRow.lifted == Try.prog.liftsFinal) = true := by kernel_rfl
theorem fact11 : (Try.prog.make == some Rows.retireAddsUptoRow.make) = true := by kernel_rfl
theorem facts : joinedFacts Try.prog 3 Try.f3 (Rows.OpenSpec.upto Rows.retireAddsSpec).bare Rows.retireAddsUptoRow = true := by
  unfold joinedFacts
  rw [laidOut, fact2, fact3, fact4, fact5, fact6, fact7, fact8, fact9, fact10, fact11]
  kernel_rfl
theorem proved : Rows.RetireAddsUptoSaid :=
  OpenClaim.holds_of_cond 3 Try.f3 rfl rfl rfl rfl rfl rfl rfl ⟨rfl, rfl, rfl, rfl, rfl⟩ rfl rfl rfl rfl rfl (by kernel_rfl) Try.func3 facts
    (of_decide_eq_true (by kernel_rfl)) (by unfold Func.isWrapper; first | (rw [if_pos (by decide +kernel)]; kernel_rfl) | (rw [if_neg (by decide +kernel)]; exact ⟨rfl, rfl⟩))
    (fun os started H enc _ F => lifted os started H enc F)

end Go.Proofs.Ytjogoleiodbfdaa.retireAdds
