/- The law FormatLayout, for every argument that holds at most 1048576 values and letters: the call returns true and every argument reads as before. Conditions: as the row prints them (the listed tables hold what the program lays). -/
import Derived.Test.YtjfdnmkfjikjnaaGreatDoorAbLawL
import Derived.Test.YtjfdnmkfjikjnaaGreatDoorFGoodL
import Derived.Test.YtjfdnmkfjikjnaaGreatDoorPToksL
import Derived.Lay
set_option linter.unusedVariables false
set_option linter.unusedSimpArgs false
set_option linter.unnecessarySimpa false
namespace Go.Proofs.YtjfdnmkfjikjnaaGreatDoor.formatLayout
open Go Go.Ab Go.Proofs.YtjfdnmkfjikjnaaGreatDoor Go.ChangeShapes Go.WideShapes Go.ChangeAt Go.RowKit

theorem meets (pvs : List PV) (hl : pvs.length = Tryz.f8.params.toList.length) (hg : ∀ (i : Nat) (t : TypeId) (p : PV), Tryz.f8.params.toList[i]? = some t → pvs[i]? = some p → ∃ n, goodPV Tryz.prog n t p) (hb : bulkPVs pvs ≤ 1048576) :
    Meets Tryz.prog 8 (argsOf Tryz.prog Tryz.f8.params.toList pvs) [] [.bool true] [] := by
  rw [Tryz.params8] at hl hg ⊢
  match pvs, hl with
  | [p0], _ =>
    obtain ⟨m0, g0⟩ := hg 0 _ p0 rfl rfl
    simp only [bulkPVs] at hb
    have hb0 : bulkPV p0 ≤ 1048576 := by omega
    have e : argsOf Tryz.prog #[27].toList [p0] = [.data 27 p0] := by
      simp [argsOf, argOf, Tryz.underlying27]
    rw [e]
    exact F8ok 0 (p0) true (formatLayout_true p0 (fileOk g0 hb0) (few_tot p0 hb0))

theorem nparams : Tryz.f8.params.toList.length = 1 := by rw [Tryz.params8]; rfl
theorem spec_at {H : Type} (ds : List (DataW H)) (h : ds.length = 1) : Rows.formatLayoutSpec.fn H ds = { results := [.lit (.bool true)], args := ds } := by
  match ds, h with
  | [d0], _ => rfl
set_option maxRecDepth 100000 in
theorem contract (H : Type) (enc : TypeId × Value → H) (W : World) (base : Nat) (args : Array Value) (ds gs : List (DataW H)) (before : List MemPlace)
    (hval : ∀ (j : Nat) t v, Tryz.f8.params[j]? = some t → args[j]? = some v → Value.okWide Tryz.prog W .any base t v)
    (hW : DataW.Whole enc Tryz.prog Tryz.f8.params.toList Rows.formatLayoutSpec.vars false W args.toList ds gs before) (hL : laidMetH Tryz.prog Rows.formatLayoutUptoRow.laid W) (hN : Rows.uptoBulkAll (ds ++ gs) ≤ 1048576) :
    Calls Tryz.prog 8 args W fun e W' => ∃ v, e = .returned v ∧ Rows.formatLayoutSpec.post enc Tryz.prog Tryz.f8 false true false false W args v W' :=
  law_end (f := 8) (fn := Tryz.f8) (s := Rows.formatLayoutSpec) (N := 1048576) (tb := 4) (S := dataTypes) laidOut (by kernel_rfl) rfl (by kernel_rfl) Tryz.underlying4 dataTypes_plain (by kernel_rfl)
    (fun ds hd => spec_at ds (hd.trans nparams))
    hval hW hN (tabs hL) meets

theorem laid_met (os : Os) : laidMet Tryz.prog Rows.formatLayoutUptoRow.laid ((World.laidAll Tryz.prog os Rows.formatLayoutUptoRow.laid).forCall (fun _ _ => 0) ⟨#[], #[.agg #[.string ⟨#[]⟩, .string ⟨#[]⟩, .slice none 0 0, .slice none 0 0, .slice none 0 0, .slice none 0 0]], []⟩).memory :=
  laidMet_laidAll _ (by kernel_rfl) (by kernel_rfl)
theorem reads (os : Os) {H : Type} (enc : TypeId × Value → H) : ∃ places, DataW.whole enc Tryz.prog ((World.laidAll Tryz.prog os Rows.formatLayoutUptoRow.laid).forCall (fun _ _ => 0) ⟨#[], #[.agg #[.string ⟨#[]⟩, .string ⟨#[]⟩, .slice none 0 0, .slice none 0 0, .slice none 0 0, .slice none 0 0]], []⟩).memory Tryz.f8.params.toList Rows.formatLayoutSpec.vars false #[(.agg #[.string ⟨#[]⟩, .string ⟨#[]⟩, .slice none 0 0, .slice none 0 0, .slice none 0 0, .slice none 0 0] : Value)].toList 8 = some ([.agg [.lit (.string []), .lit (.string []), .nil, .nil, .nil, .nil]], [], places) :=
  ⟨[], by kernel_rfl⟩

set_option maxRecDepth 100000 in
theorem lifted (os : Os) (started : os.Started) (H : Type) (enc : TypeId × Value → H) (F : Stop.Interp) :
    ReturnsInHanded {} Tryz.checked os 8 .any ((Rows.OpenSpec.upto Rows.formatLayoutSpec).preRow enc Tryz.prog Tryz.f8 Rows.formatLayoutUptoRow.domain false Rows.formatLayoutUptoRow.laid) (((Rows.OpenSpec.upto Rows.formatLayoutSpec).at F).post enc Tryz.prog Tryz.f8 false true false false) := by
  obtain ⟨places, hx⟩ := reads os enc
  refine returnsInHanded_of_row (C := Tryz.checked) (s := Rows.OpenSpec.upto Rows.formatLayoutSpec) own started (by kernel_rfl) Tryz.func8
    (witness_row_at (enc := enc) (C := Tryz.checked) false (World.laidAll Tryz.prog os Rows.formatLayoutUptoRow.laid) #[.agg #[.string ⟨#[]⟩, .string ⟨#[]⟩, .slice none 0 0, .slice none 0 0, .slice none 0 0, .slice none 0 0]] rfl (by kernel_rfl) (by kernel_rfl) (by kernel_rfl)
      (OpenSpec.preRow_of_cond 8 hx (by kernel_rfl) (fun k hk => by cases hk; kernel_rfl) (by kernel_rfl) (laid_met os))) ?_
  intro W base args ds gs before hval hW _ hc _ hL _ _
  exact contract H enc W base args ds gs before hval hW hL (of_decide_eq_true (hc _ rfl))

theorem fact2 : mapsRowed Tryz.prog = true := by kernel_rfl
theorem fact3 : Tryz.f8.params.all (Tryz.prog.readableRec ·) = true := by kernel_rfl
theorem fact4 : (Rows.formatLayoutUptoRow.inPlace == Tryz.prog.inPlace 8) = true := by kernel_rfl
theorem fact5 : (Rows.formatLayoutUptoRow.unfollowed == Tryz.prog.unfollowed 8) = true := by kernel_rfl
theorem fact6 : (Rows.formatLayoutUptoRow.recurses == Tryz.prog.recurses 8) = true := by kernel_rfl
theorem fact7 : (Rows.formatLayoutUptoRow.named == Tryz.prog.varsNamed 8) = true := by kernel_rfl
theorem facts : joinedFacts Tryz.prog 8 Tryz.f8 (Rows.OpenSpec.upto Rows.formatLayoutSpec).bare Rows.formatLayoutUptoRow = true := by
  unfold joinedFacts
  rw [laidOut, fact2, fact3, fact4, fact5, fact6, fact7]
  kernel_rfl
theorem said : Rows.FormatLayoutUptoSaid :=
  OpenClaim.holds_of_cond 8 Tryz.f8 rfl rfl rfl rfl rfl rfl rfl ⟨rfl, rfl, rfl, rfl, rfl⟩ rfl rfl rfl rfl rfl (by kernel_rfl) Tryz.func8 facts
    (of_decide_eq_true (by kernel_rfl)) (by unfold Func.isWrapper; first | (rw [if_pos (by decide +kernel)]; kernel_rfl) | (rw [if_neg (by decide +kernel)]; exact ⟨rfl, rfl⟩))
    (fun os started H enc _ F => by rw [OpenClaim.pre_eq_preRow]; exact lifted os started H enc F)

theorem plain (f : FuncId) (fn : Func) (hf : Tryz.pinned.checked.prog.funcNamed Tryz.f8.name = some f) (hfn : Tryz.pinned.checked.prog.funcs[f]? = some fn) :
    true = Tryz.pinned.checked.prog.looks [] ∧ ∀ (j : Nat) t, fn.params[j]? = some t → Tryz.pinned.checked.prog.wantsStandIn t = false := by
  obtain rfl : f = 8 := Option.some.inj ((show Tryz.prog.funcNamed Tryz.f8.name = some 8 by kernel_rfl).symm.trans hf) |>.symm
  obtain rfl : fn = Tryz.f8 := (Option.some.inj (Tryz.func8.symm.trans hfn)).symm
  refine ⟨by kernel_rfl, fun j t ht => ?_⟩
  have hall : (Tryz.f8.params.toList.all fun t => !Tryz.prog.wantsStandIn t) = true := by kernel_rfl
  have := List.all_eq_true.1 hall t (by have := Array.mem_of_getElem? ht; simpa using this)
  exact Bool.not_eq_true' _ |>.mp this

theorem card : Rows.FormatLayoutUptoCardSaid :=
  Claim7.holds_tied_plain_at .later [] _ _ _ _ said (fun _ h => by cases h) (by kernel_rfl) (fun _ h => by cases h) formatLayoutUpto_row_tie rfl ⟨rfl, rfl⟩ (by kernel_rfl) rfl plain (by kernel_rfl)
end Go.Proofs.YtjfdnmkfjikjnaaGreatDoor.formatLayout
