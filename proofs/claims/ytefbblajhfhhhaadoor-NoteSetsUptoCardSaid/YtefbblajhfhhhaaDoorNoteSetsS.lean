/- The law NoteSets, for every argument that holds at most 1048576 values and letters: the call returns true and every argument reads as before. Conditions: as the row prints them (the listed tables hold what the program lays). -/
import Derived.Test.YtefbblajhfhhhaaDoorNoteGoodT
import Derived.Test.YtefbblajhfhhhaaDoorPSet0T
import Derived.Lay
set_option linter.unusedVariables false
set_option linter.unusedSimpArgs false
set_option linter.unnecessarySimpa false
namespace Go.Proofs.YtefbblajhfhhhaaDoor.noteSets
open Go Go.Ab Go.Proofs.YtefbblajhfhhhaaDoor Go.ChangeShapes Go.WideShapes Go.ChangeAt Go.RowKit

theorem meets (pvs : List PV) (hl : pvs.length = Tryd.f4.params.toList.length) (hg : ∀ (i : Nat) (t : TypeId) (p : PV), Tryd.f4.params.toList[i]? = some t → pvs[i]? = some p → ∃ n, goodPV Tryd.prog n t p) (hb : bulkPVs pvs ≤ 1048576) :
    Meets Tryd.prog 4 (argsOf Tryd.prog Tryd.f4.params.toList pvs) [] [.bool true] [] := by
  rw [Tryd.params4] at hl hg ⊢
  match pvs, hl with
  | [p0, p1, p2], _ =>
    obtain ⟨m0, g0⟩ := hg 0 _ p0 rfl rfl
    obtain ⟨m1, g1⟩ := hg 1 _ p1 rfl rfl
    obtain ⟨m2, g2⟩ := hg 2 _ p2 rfl rfl
    simp only [bulkPVs] at hb
    have hb0 : bulkPV p0 ≤ 1048576 := by omega
    have hb1 : bulkPV p1 ≤ 1048576 := by omega
    have hb2 : bulkPV p2 ≤ 1048576 := by omega
    have e : argsOf Tryd.prog #[22, 31, 9].toList [p0, p1, p2] = [.slice 31 p0.asList, .data 31 p1, .str p2.asStr] := by
      simp [argsOf, argOf, Tryd.underlying9, Tryd.underlying22, Tryd.underlying31]
    rw [e]
    exact F4ok 0 (p0.asList, p1, p2.asStr) true (noteSets_true p0.asList p1 p2.asStr (notes_small g0 hb0).1)

theorem nparams : Tryd.f4.params.toList.length = 3 := by rw [Tryd.params4]; rfl
theorem spec_at {H : Type} (ds : List (DataW H)) (h : ds.length = 3) : Rows.noteSetsSpec.fn H ds = { results := [.lit (.bool true)], args := ds } := by
  match ds, h with
  | [d0, d1, d2], _ => rfl
set_option maxRecDepth 100000 in
theorem contract (H : Type) (enc : TypeId × Value → H) (W : World) (base : Nat) (args : Array Value) (ds gs : List (DataW H)) (before : List MemPlace)
    (hval : ∀ (j : Nat) t v, Tryd.f4.params[j]? = some t → args[j]? = some v → Value.okWide Tryd.prog W .any base t v)
    (hW : DataW.Whole enc Tryd.prog Tryd.f4.params.toList Rows.noteSetsSpec.vars false W args.toList ds gs before) (hL : laidMetH Tryd.prog Rows.noteSetsUptoRow.laid W) (hN : Rows.uptoBulkAll (ds ++ gs) ≤ 1048576) :
    Calls Tryd.prog 4 args W fun e W' => ∃ v, e = .returned v ∧ Rows.noteSetsSpec.post enc Tryd.prog Tryd.f4 false true false false W args v W' :=
  law_end (f := 4) (fn := Tryd.f4) (s := Rows.noteSetsSpec) (N := 1048576) (tb := 4) (S := dataTypes) laidOut (by kernel_rfl) rfl (by kernel_rfl) Tryd.underlying4 dataTypes_plain (by kernel_rfl)
    (fun ds hd => spec_at ds (hd.trans nparams))
    hval hW hN (tabs hL) meets

theorem laid_met (os : Os) : laidMet Tryd.prog Rows.noteSetsUptoRow.laid ((World.laidAll Tryd.prog os Rows.noteSetsUptoRow.laid).forCall (fun _ _ => 0) ⟨#[], #[.slice none 0 0, .agg #[.string ⟨#[]⟩, .int .i64 0, .int .u64 0, .string ⟨#[]⟩, .slice none 0 0, .slice none 0 0, .slice none 0 0, .slice none 0 0], .string ⟨#[]⟩], []⟩).memory :=
  laidMet_laidAll _ (by kernel_rfl) (by kernel_rfl)
theorem reads (os : Os) {H : Type} (enc : TypeId × Value → H) : ∃ places, DataW.whole enc Tryd.prog ((World.laidAll Tryd.prog os Rows.noteSetsUptoRow.laid).forCall (fun _ _ => 0) ⟨#[], #[.slice none 0 0, .agg #[.string ⟨#[]⟩, .int .i64 0, .int .u64 0, .string ⟨#[]⟩, .slice none 0 0, .slice none 0 0, .slice none 0 0, .slice none 0 0], .string ⟨#[]⟩], []⟩).memory Tryd.f4.params.toList Rows.noteSetsSpec.vars false #[(.slice none 0 0 : Value), .agg #[.string ⟨#[]⟩, .int .i64 0, .int .u64 0, .string ⟨#[]⟩, .slice none 0 0, .slice none 0 0, .slice none 0 0, .slice none 0 0], .string ⟨#[]⟩].toList 8 = some ([.nil, .agg [.lit (.string []), .agg [.lit (.int .i64 0), .lit (.int .u64 0), .lit (.string []), .nil, .nil, .nil, .nil]], .lit (.string [])], [], places) :=
  ⟨[], by kernel_rfl⟩

set_option maxRecDepth 100000 in
theorem lifted (os : Os) (started : os.Started) (H : Type) (enc : TypeId × Value → H) (F : Stop.Interp) :
    ReturnsInHanded {} Tryd.checked os 4 .any ((Rows.OpenSpec.upto Rows.noteSetsSpec).preRow enc Tryd.prog Tryd.f4 Rows.noteSetsUptoRow.domain false Rows.noteSetsUptoRow.laid) (((Rows.OpenSpec.upto Rows.noteSetsSpec).at F).post enc Tryd.prog Tryd.f4 false true false false) := by
  obtain ⟨places, hx⟩ := reads os enc
  refine returnsInHanded_of_row (C := Tryd.checked) (s := Rows.OpenSpec.upto Rows.noteSetsSpec) own started (by kernel_rfl) Tryd.func4
    (witness_row_at (enc := enc) (C := Tryd.checked) false (World.laidAll Tryd.prog os Rows.noteSetsUptoRow.laid) #[.slice none 0 0, .agg #[.string ⟨#[]⟩, .int .i64 0, .int .u64 0, .string ⟨#[]⟩, .slice none 0 0, .slice none 0 0, .slice none 0 0, .slice none 0 0], .string ⟨#[]⟩] rfl (by kernel_rfl) (by kernel_rfl) (by kernel_rfl)
      (OpenSpec.preRow_of_cond 8 hx (by kernel_rfl) (fun k hk => by cases hk; kernel_rfl) (by kernel_rfl) (laid_met os))) ?_
  intro W base args ds gs before hval hW _ hc _ hL _ _
  exact contract H enc W base args ds gs before hval hW hL (of_decide_eq_true (hc _ rfl))

theorem fact2 : mapsRowed Tryd.prog = true := by kernel_rfl
theorem fact3 : Tryd.f4.params.all (Tryd.prog.readableRec ·) = true := by kernel_rfl
theorem fact4 : (Rows.noteSetsUptoRow.inPlace == Tryd.prog.inPlace 4) = true := by kernel_rfl
theorem fact5 : (Rows.noteSetsUptoRow.unfollowed == Tryd.prog.unfollowed 4) = true := by kernel_rfl
theorem fact6 : (Rows.noteSetsUptoRow.recurses == Tryd.prog.recurses 4) = true := by kernel_rfl
theorem fact7 : (Rows.noteSetsUptoRow.named == Tryd.prog.varsNamed 4) = true := by kernel_rfl
theorem fact8 : (Rows.noteSetsUptoRow.loops == (Tryd.f4.params.toList ++ (Rows.OpenSpec.upto Rows.noteSetsSpec).bare.plain.varTypes Tryd.prog).any (Tryd.prog.loopsFrom ·)) = true := by kernel_rfl
theorem fact9 : Tryd.prog.mayEnter = true := by kernel_rfl
theorem fact10 : (Rows.noteSetsUptoRow.lifted == Tryd.prog.liftsFinal) = true := by kernel_rfl
theorem fact11 : (Tryd.prog.make == some Rows.noteSetsUptoRow.make) = true := by kernel_rfl
theorem facts : joinedFacts Tryd.prog 4 Tryd.f4 (Rows.OpenSpec.upto Rows.noteSetsSpec).bare Rows.noteSetsUptoRow = true := by
  unfold joinedFacts
  rw [laidOut, fact2, fact3, fact4, fact5, fact6, fact7, fact8, fact9, fact10, fact11]
  kernel_rfl
theorem said : Rows.NoteSetsUptoSaid :=
  OpenClaim.holds_of_cond 4 Tryd.f4 rfl rfl rfl rfl rfl rfl rfl ⟨rfl, rfl, rfl, rfl, rfl⟩ rfl rfl rfl rfl rfl (by kernel_rfl) Tryd.func4 facts
    (of_decide_eq_true (by kernel_rfl)) (by unfold Func.isWrapper; first | (rw [if_pos (by decide +kernel)]; kernel_rfl) | (rw [if_neg (by decide +kernel)]; exact ⟨rfl, rfl⟩))
    (fun os started H enc _ F => by rw [OpenClaim.pre_eq_preRow]; exact lifted os started H enc F)

theorem plain (f : FuncId) (fn : Func) (hf : Tryd.pinned.checked.prog.funcNamed Tryd.f4.name = some f) (hfn : Tryd.pinned.checked.prog.funcs[f]? = some fn) :
    false = Tryd.pinned.checked.prog.looks [] ∧ ∀ (j : Nat) t, fn.params[j]? = some t → Tryd.pinned.checked.prog.wantsStandIn t = false := by
  obtain rfl : f = 4 := Option.some.inj ((show Tryd.prog.funcNamed Tryd.f4.name = some 4 by kernel_rfl).symm.trans hf) |>.symm
  obtain rfl : fn = Tryd.f4 := (Option.some.inj (Tryd.func4.symm.trans hfn)).symm
  refine ⟨by kernel_rfl, fun j t ht => ?_⟩
  have hall : (Tryd.f4.params.toList.all fun t => !Tryd.prog.wantsStandIn t) = true := by kernel_rfl
  have := List.all_eq_true.1 hall t (by have := Array.mem_of_getElem? ht; simpa using this)
  exact Bool.not_eq_true' _ |>.mp this

theorem cardText : Rows.noteSetsUptoRow.wfByText (Rows.OpenSpec.upto Rows.noteSetsSpec) = true := by kernel_rfl
theorem cardMain : Tryd.pinned.checked.prog.mainIs = some (Rows.noteSetsUptoCard.stood.harness.1, Rows.noteSetsUptoCard.stood.harness.2.toList) := by kernel_rfl
theorem cardGoes : false = Rows.noteSetsUptoRow.goesBy Tryd.pinned.checked.prog := by kernel_rfl
theorem card : Rows.NoteSetsUptoCardSaid :=
  Claim7.holds_tied_plain_at .later [] _ _ _ _ said (fun _ h => by cases h) cardText (fun _ h => by cases h) noteSetsUpto_row_tie rfl ⟨rfl, rfl⟩ cardMain rfl plain cardGoes
end Go.Proofs.YtefbblajhfhhhaaDoor.noteSets
