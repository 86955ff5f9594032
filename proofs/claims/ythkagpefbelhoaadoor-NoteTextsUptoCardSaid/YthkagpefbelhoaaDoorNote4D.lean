/- The law NoteTexts, for every argument that holds at most 1048576 values and letters: the call returns true and every argument reads as before. Conditions: as the row prints them (the listed tables hold what the program lays). -/
import Derived.Test.YthkagpefbelhoaaDoorNoteGoodD
import Derived.Test.YthkagpefbelhoaaDoorPNTextD
set_option linter.unusedVariables false
set_option linter.unusedSimpArgs false
set_option linter.unnecessarySimpa false
namespace Go.Proofs.YthkagpefbelhoaaDoor.noteTexts
open Go Go.Ab Go.Proofs.YthkagpefbelhoaaDoor Go.ChangeShapes Go.WideShapes Go.ChangeAt Go.RowKit

theorem meets (pvs : List PV) (hl : pvs.length = Tryd.f4.params.toList.length) (hg : ∀ (i : Nat) (t : TypeId) (p : PV), Tryd.f4.params.toList[i]? = some t → pvs[i]? = some p → ∃ n, goodPV Tryd.prog n t p) (hb : bulkPVs pvs ≤ 1048576) :
    Meets Tryd.prog 4 (argsOf Tryd.prog Tryd.f4.params.toList pvs) [] [.bool true] [] := by
  rw [Tryd.params4] at hl hg ⊢
  match pvs, hl with
  | [p0], _ =>
    obtain ⟨m0, g0⟩ := hg 0 _ p0 rfl rfl
    simp only [bulkPVs] at hb
    have hb0 : bulkPV p0 ≤ 1048576 := by omega
    have e : argsOf Tryd.prog #[22].toList [p0] = [.slice 44 p0.asList] := by
      simp [argsOf, argOf, Tryd.underlying22]
    rw [e]
    exact F4ok 0 (p0.asList) true (noteTexts_true p0.asList (notes_small g0 hb0).2)

theorem nparams : Tryd.f4.params.toList.length = 1 := by rw [Tryd.params4]; rfl
theorem spec_at {H : Type} (ds : List (DataW H)) (h : ds.length = 1) : Rows.noteTextsSpec.fn H ds = { results := [.lit (.bool true)], args := ds } := by
  match ds, h with
  | [d0], _ => rfl
set_option maxRecDepth 100000 in
theorem contract (H : Type) (enc : TypeId × Value → H) (W : World) (base : Nat) (args : Array Value) (ds gs : List (DataW H)) (before : List MemPlace)
    (hval : ∀ (j : Nat) t v, Tryd.f4.params[j]? = some t → args[j]? = some v → Value.okWide Tryd.prog W .any base t v)
    (hW : DataW.Whole enc Tryd.prog Tryd.f4.params.toList Rows.noteTextsSpec.vars false W args.toList ds gs before) (hL : laidMetH Tryd.prog Rows.noteTextsUptoRow.laid W) (hN : Rows.uptoBulkAll (ds ++ gs) ≤ 1048576) :
    Calls Tryd.prog 4 args W fun e W' => ∃ v, e = .returned v ∧ Rows.noteTextsSpec.post enc Tryd.prog Tryd.f4 false true false false W args v W' :=
  law_end (f := 4) (fn := Tryd.f4) (s := Rows.noteTextsSpec) (N := 1048576) (tb := 4) (S := dataTypes) laidOut (by kernel_rfl) rfl (by kernel_rfl) Tryd.underlying4 dataTypes_plain (by kernel_rfl)
    (fun ds hd => spec_at ds (hd.trans nparams))
    hval hW hN (tabs hL) meets

theorem laid_met (os : Os) : laidMet Tryd.prog Rows.noteTextsUptoRow.laid ((laidWorld Tryd.prog Rows.noteTextsUptoRow.laid os).forCall (fun _ _ => 0) ⟨#[], #[.slice none 0 0], []⟩).memory :=
  laidMet_of_run' 8 (by kernel_rfl) (by kernel_rfl)
theorem reads (os : Os) {H : Type} (enc : TypeId × Value → H) : ∃ places, DataW.whole enc Tryd.prog ((laidWorld Tryd.prog Rows.noteTextsUptoRow.laid os).forCall (fun _ _ => 0) ⟨#[], #[.slice none 0 0], []⟩).memory Tryd.f4.params.toList Rows.noteTextsSpec.vars false #[(.slice none 0 0 : Value)].toList 8 = some ([.nil], [], places) :=
  ⟨[], by kernel_rfl⟩

set_option maxRecDepth 100000 in
theorem lifted (os : Os) (started : os.Started) (H : Type) (enc : TypeId × Value → H) (F : Stop.Interp) :
    ReturnsInHanded {} Tryd.checked os 4 .any ((Rows.OpenSpec.upto Rows.noteTextsSpec).preRow enc Tryd.prog Tryd.f4 Rows.noteTextsUptoRow.domain false Rows.noteTextsUptoRow.laid) (((Rows.OpenSpec.upto Rows.noteTextsSpec).at F).post enc Tryd.prog Tryd.f4 false true false false) := by
  obtain ⟨places, hx⟩ := reads os enc
  refine returnsInHanded_of_row (C := Tryd.checked) (s := Rows.OpenSpec.upto Rows.noteTextsSpec) own started (by kernel_rfl) Tryd.func4
    (witness_row_at (enc := enc) (C := Tryd.checked) false (laidWorld Tryd.prog Rows.noteTextsUptoRow.laid os) #[.slice none 0 0] rfl (by kernel_rfl) (by kernel_rfl) (by kernel_rfl)
      (OpenSpec.preRow_of_cond 8 hx (by kernel_rfl) (fun k hk => by cases hk; kernel_rfl) (by kernel_rfl) (laid_met os))) ?_
  intro W base args ds gs before hval hW _ hc _ hL _ _
  exact contract H enc W base args ds gs before hval hW hL (of_decide_eq_true (hc _ rfl))

theorem said : Rows.NoteTextsUptoSaid :=
  OpenClaim.holds_of_cond 4 Tryd.f4 rfl rfl rfl rfl rfl rfl rfl ⟨rfl, rfl, rfl, rfl, rfl⟩ rfl rfl rfl rfl rfl (by kernel_rfl) Tryd.func4 (by kernel_rfl)
    (of_decide_eq_true (by kernel_rfl)) (by unfold Func.isWrapper; first | (rw [if_pos (by decide +kernel)]; kernel_rfl) | (rw [if_neg (by decide +kernel)]; exact ⟨rfl, rfl⟩))
    (fun os started H enc _ F => by rw [OpenClaim.pre_eq_preRow]; exact lifted os started H enc F)

theorem plain (f : FuncId) (fn : Func) (hf : Tryd.pinned.checked.prog.funcNamed Tryd.f4.name = some f) (hfn : Tryd.pinned.checked.prog.funcs[f]? = some fn) :
    false = Tryd.pinned.checked.prog.looks [] ∧ ∀ (j : Nat) t, fn.params[j]? = some t → Tryd.pinned.checked.prog.wantsStandIn t = false := by
  obtain rfl : f = 4 := Option.some.inj ((show Tryd.prog.funcNamed Tryd.f4.name = some 4 by kernel_rfl).symm.trans hf) |>.symm
  obtain rfl : fn = Tryd.f4 := (Option.some.inj (Tryd.func4.symm.trans hfn)).symm
  refine ⟨by kernel_rfl, fun j t ht => ?_⟩
  have hall : (Tryd.f4.params.toList.all fun t => !Tryd.prog.wantsStandIn t) = true := by kernel_rfl
  have := List.all_eq_true.1 hall t (by have := Array.mem_of_getElem? ht; simpa using this)
  exact Bool.not_eq_true' _ |>.mp this

theorem card : Rows.NoteTextsUptoCardSaid :=
  Claim7.holds_tied_plain_at .later [] _ _ _ _ said (fun _ h => by cases h) (by kernel_rfl) (fun _ h => by cases h) noteTextsUpto_row_tie rfl ⟨rfl, rfl⟩ (by kernel_rfl) rfl plain (by kernel_rfl)
end Go.Proofs.YthkagpefbelhoaaDoor.noteTexts
