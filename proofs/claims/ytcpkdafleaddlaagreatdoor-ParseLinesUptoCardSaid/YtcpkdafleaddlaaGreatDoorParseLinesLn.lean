/- The law ParseLines, for every argument that holds at most 1048576 values and letters: the call returns true and every argument reads as before. Conditions: as the row prints them (the listed tables hold what the program lays). -/
import Derived.Test.YtcpkdafleaddlaaGreatDoorAbLawLn
import Derived.Test.YtcpkdafleaddlaaGreatDoorPMsgPLn
import Derived.Lay
set_option linter.unusedVariables false
set_option linter.unusedSimpArgs false
set_option linter.unnecessarySimpa false
namespace Go.Proofs.YtcpkdafleaddlaaGreatDoor.parseLines
open Go Go.Ab Go.Proofs.YtcpkdafleaddlaaGreatDoor Go.ChangeShapes Go.WideShapes Go.ChangeAt Go.RowKit
theorem meets (pvs:List PV) (hl:pvs.length=Tryz.f6.params.toList.length) (hg:∀ (i:Nat) (t:TypeId) (p:PV),Tryz.f6.params.toList[i]?=some t→pvs[i]?=some p→∃ n,goodPV Tryz.prog n t p) (hb:bulkPVs pvs≤1048576):
 Meets Tryz.prog 6 (argsOf Tryz.prog Tryz.f6.params.toList pvs) [] [.bool true] []:=by
 rw [Tryz.params6] at hl hg ⊢
 match pvs,hl with
 | [p0,p1,p2],_=>
  obtain ⟨m0,g0⟩:=hg 0 _ p0 rfl rfl
  obtain ⟨m1,g1⟩:=hg 1 _ p1 rfl rfl
  obtain ⟨m2,g2⟩:=hg 2 _ p2 rfl rfl
  simp only [bulkPVs] at hb
  have hb0:bulkPV p0≤1048576:=by omega
  have hb1:bulkPV p1≤1048576:=by omega
  have hb2:bulkPV p2≤1048576:=by omega
  have e:argsOf Tryz.prog #[9,9,3].toList [p0,p1,p2]=[.str p0.asStr,.str p1.asStr,.int .i64 p2.asInt]:=by
   simp [argsOf,argOf,Tryz.underlying3,Tryz.underlying9]
  rw [e]
  exact F6ok 0 (p0.asStr,p1.asStr,p2.asInt) true (plain_lines p0.asStr p1.asStr p2.asInt)
theorem nparams:Tryz.f6.params.toList.length=3:=by rw [Tryz.params6];rfl
theorem spec_at {H:Type} (ds:List (DataW H)) (h:ds.length=3):Rows.parseLinesSpec.fn H ds={ results:=[.lit (.bool true)],args:=ds }:=by
 match ds,h with
 | [d0,d1,d2],_=>rfl
set_option maxRecDepth 100000 in
theorem contract (H:Type) (enc:TypeId×Value→H) (W:World) (base:Nat) (args:Array Value) (ds gs:List (DataW H)) (before:List MemPlace)
 (hval:∀ (j:Nat) t v,Tryz.f6.params[j]?=some t→args[j]?=some v→Value.okWide Tryz.prog W .any base t v)
 (hW:DataW.Whole enc Tryz.prog Tryz.f6.params.toList Rows.parseLinesSpec.vars false W args.toList ds gs before) (hL:laidMetH Tryz.prog Rows.parseLinesUptoRow.laid W) (hN:Rows.uptoBulkAll (ds++gs)≤1048576):
 Calls Tryz.prog 6 args W fun e W'=>∃ v,e=.returned v∧Rows.parseLinesSpec.post enc Tryz.prog Tryz.f6 false true false false W args v W':=
 law_end (f:=6) (fn:=Tryz.f6) (s:=Rows.parseLinesSpec) (N:=1048576) (tb:=4) (S:=dataTypes) laidOut (by kernel_rfl) rfl (by kernel_rfl) Tryz.underlying4 dataTypes_plain (by kernel_rfl)
  (fun ds hd=>spec_at ds (hd.trans nparams))
  hval hW hN (tabs hL) meets
theorem laid_met (os:Os):laidMet Tryz.prog Rows.parseLinesUptoRow.laid ((World.laidAll Tryz.prog os Rows.parseLinesUptoRow.laid).forCall (fun _ _=>0) ⟨#[],#[.string ⟨#[]⟩,.string ⟨#[]⟩,.int .i64 0],[]⟩).memory:=
 laidMet_laidAll _ (by kernel_rfl) (by kernel_rfl)
theorem reads (os:Os) {H:Type} (enc:TypeId×Value→H):∃ places,DataW.whole enc Tryz.prog ((World.laidAll Tryz.prog os Rows.parseLinesUptoRow.laid).forCall (fun _ _=>0) ⟨#[],#[.string ⟨#[]⟩,.string ⟨#[]⟩,.int .i64 0],[]⟩).memory Tryz.f6.params.toList Rows.parseLinesSpec.vars false #[(.string ⟨#[]⟩:Value),.string ⟨#[]⟩,.int .i64 0].toList 8=some ([.lit (.string []),.lit (.string []),.lit (.int .i64 0)],[],places):=
 ⟨[],by kernel_rfl⟩
set_option maxRecDepth 100000 in
theorem lifted (os:Os) (started:os.Started) (H:Type) (enc:TypeId×Value→H) (F:Stop.Interp):
 ReturnsInHanded {} Tryz.checked os 6 .any ((Rows.OpenSpec.upto Rows.parseLinesSpec).preRow enc Tryz.prog Tryz.f6 Rows.parseLinesUptoRow.domain false Rows.parseLinesUptoRow.laid) (((Rows.OpenSpec.upto Rows.parseLinesSpec).at F).post enc Tryz.prog Tryz.f6 false true false false):=by
 obtain ⟨places,hx⟩:=reads os enc
 refine returnsInHanded_of_row (C:=Tryz.checked) (s:=Rows.OpenSpec.upto Rows.parseLinesSpec) own started (by kernel_rfl) Tryz.func6
  (witness_row_at (enc:=enc) (C:=Tryz.checked) false (World.laidAll Tryz.prog os Rows.parseLinesUptoRow.laid) #[.string ⟨#[]⟩,.string ⟨#[]⟩,.int .i64 0] rfl (by kernel_rfl) (by kernel_rfl) (by kernel_rfl)
   (OpenSpec.preRow_of_cond 8 hx (by kernel_rfl) (fun k hk=>by cases hk;kernel_rfl) (by kernel_rfl) (laid_met os))) ?_
 intro W base args ds gs before hval hW _ hc _ hL _ _
 exact contract H enc W base args ds gs before hval hW hL (of_decide_eq_true (hc _ rfl))
theorem fact2:mapsRowed Tryz.prog=true:=by kernel_rfl
theorem fact3:Tryz.f6.params.all (Tryz.prog.readableRec ·)=true:=by kernel_rfl
theorem fact4:(Rows.parseLinesUptoRow.inPlace==Tryz.prog.inPlace 6)=true:=by kernel_rfl
theorem fact5:(Rows.parseLinesUptoRow.unfollowed==Tryz.prog.unfollowed 6)=true:=by kernel_rfl
theorem fact6:(Rows.parseLinesUptoRow.recurses==Tryz.prog.recurses 6)=true:=by kernel_rfl
theorem fact7:(Rows.parseLinesUptoRow.named==Tryz.prog.varsNamed 6)=true:=by kernel_rfl
theorem facts:joinedFacts Tryz.prog 6 Tryz.f6 (Rows.OpenSpec.upto Rows.parseLinesSpec).bare Rows.parseLinesUptoRow=true:=by
 unfold joinedFacts
 rw [laidOut,fact2,fact3,fact4,fact5,fact6,fact7]
 kernel_rfl
theorem said:Rows.ParseLinesUptoSaid:=
 OpenClaim.holds_of_cond 6 Tryz.f6 rfl rfl rfl rfl rfl rfl rfl ⟨rfl,rfl,rfl,rfl,rfl⟩ rfl rfl rfl rfl rfl (by kernel_rfl) Tryz.func6 facts
  (of_decide_eq_true (by kernel_rfl)) (by unfold Func.isWrapper;first | (rw [if_pos (by decide +kernel)];kernel_rfl) | (rw [if_neg (by decide +kernel)];exact ⟨rfl,rfl⟩))
  (fun os started H enc _ F=>by rw [OpenClaim.pre_eq_preRow];exact lifted os started H enc F)
theorem plain (f:FuncId) (fn:Func) (hf:Tryz.pinned.checked.prog.funcNamed Tryz.f6.name=some f) (hfn:Tryz.pinned.checked.prog.funcs[f]?=some fn):
 true=Tryz.pinned.checked.prog.looks []∧∀ (j:Nat) t,fn.params[j]?=some t→Tryz.pinned.checked.prog.wantsStandIn t=false:=by
 obtain rfl:f=6:=Option.some.inj ((show Tryz.prog.funcNamed Tryz.f6.name=some 6 by kernel_rfl).symm.trans hf) |>.symm
 obtain rfl:fn=Tryz.f6:=(Option.some.inj (Tryz.func6.symm.trans hfn)).symm
 refine ⟨by kernel_rfl,fun j t ht=>?_⟩
 have hall:(Tryz.f6.params.toList.all fun t=>!Tryz.prog.wantsStandIn t)=true:=by kernel_rfl
 have:=List.all_eq_true.1 hall t (by have:=Array.mem_of_getElem? ht;simpa using this)
 exact Bool.not_eq_true' _ |>.mp this
theorem cardText:Rows.parseLinesUptoRow.wfByText (Rows.OpenSpec.upto Rows.parseLinesSpec)=true:=by kernel_rfl
theorem cardMain:Tryz.pinned.checked.prog.mainIs=some (Rows.parseLinesUptoCard.stood.harness.1,Rows.parseLinesUptoCard.stood.harness.2.toList):=by kernel_rfl
theorem cardGoes:false=Rows.parseLinesUptoRow.goesBy Tryz.pinned.checked.prog:=by kernel_rfl
theorem card:Rows.ParseLinesUptoCardSaid:=
 Claim7.holds_tied_plain_at .later [] _ _ _ _ said (fun _ h=>by cases h) cardText (fun _ h=>by cases h) parseLinesUpto_row_tie rfl ⟨rfl,rfl⟩ cardMain rfl plain cardGoes
end Go.Proofs.YtcpkdafleaddlaaGreatDoor.parseLines
