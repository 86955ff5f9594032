/- The law FormatReprints, for every argument that holds at most 1048576 values and letters: the call returns true and every argument reads as before. Conditions: as the row prints them (the listed tables hold what the program lays). -/
import Derived.Test.YtcpkdafleaddlaaGreatDoorPFrVRp
import Derived.Lay
set_option linter.unusedVariables false
set_option linter.unusedSimpArgs false
set_option linter.unnecessarySimpa false
namespace Go.Proofs.YtcpkdafleaddlaaGreatDoor.formatReprints
open Go Go.Ab Go.Proofs.YtcpkdafleaddlaaGreatDoor Go.ChangeShapes Go.WideShapes Go.ChangeAt Go.RowKit
theorem meets (pvs:List PV) (hl:pvs.length=Tryz.f13.params.toList.length) (hg:∀ (i:Nat) (t:TypeId) (p:PV),Tryz.f13.params.toList[i]?=some t->pvs[i]?=some p->∃ n,acx Tryz.prog n t p) (hb:aah pvs<=1048576):
 Meets Tryz.prog 13 (akv Tryz.prog Tryz.f13.params.toList pvs) [] [.bool true] []:=by
 rw [Tryz.params13] at hl hg ⊢
 match pvs,hl with
 | [p0],_=>
  obtain ⟨m0,g0⟩:=hg 0 _ p0 rfl rfl
  simp only [aah] at hb
  have hb0:aaj p0<=1048576:=by omega
  have e:akv Tryz.prog #[9].toList [p0]=[.str p0.asStr]:=by
   simp [akv,bfa,Tryz.underlying9]
  rw [e]
  exact F13ok 0 (p0.asStr) true (bdb p0.asStr)
theorem nparams:Tryz.f13.params.toList.length=1:=by rw [Tryz.params13];rfl
theorem spec_at {H:Type} (ds:List (DataW H)) (h:ds.length=1):Rows.formatReprintsSpec.fn H ds={ results:=[.lit (.bool true)],args:=ds }:=by
 match ds,h with
 | [d0],_=>rfl
set_option maxRecDepth 100000 in
theorem contract (H:Type) (enc:TypeId×Value->H) (W:World) (base:Nat) (args:Array Value) (ds gs:List (DataW H)) (before:List MemPlace)
 (hval:∀ (j:Nat) t v,Tryz.f13.params[j]?=some t->args[j]?=some v->Value.okWide Tryz.prog W .any base t v)
 (hW:DataW.Whole enc Tryz.prog Tryz.f13.params.toList Rows.formatReprintsSpec.vars false W args.toList ds gs before) (hL:laidMetH Tryz.prog Rows.formatReprintsUptoRow.laid W) (hN:Rows.uptoBulkAll (ds++gs)<=1048576):
 Calls Tryz.prog 13 args W fun e W'=>∃ v,e=.returned v/\Rows.formatReprintsSpec.post enc Tryz.prog Tryz.f13 false true false false W args v W':=
 bll (f:=13) (fn:=Tryz.f13) (s:=Rows.formatReprintsSpec) (N:=1048576) (tb:=4) (S:=axo) bb9 (by kernel_rfl) rfl (by kernel_rfl) Tryz.underlying4 aqv (by kernel_rfl)
  (fun ds hd=>spec_at ds (hd.trans nparams))
  hval hW hN (tabs hL) meets
theorem laid_met (os:Os):laidMet Tryz.prog Rows.formatReprintsUptoRow.laid ((World.laidAll Tryz.prog os Rows.formatReprintsUptoRow.laid).forCall (fun _ _=>0) ⟨#[],#[.string ⟨#[]⟩],[]⟩).memory:=
 laidMet_laidAll _ (by kernel_rfl) (by kernel_rfl)
theorem reads (os:Os) {H:Type} (enc:TypeId×Value->H):∃ places,DataW.whole enc Tryz.prog ((World.laidAll Tryz.prog os Rows.formatReprintsUptoRow.laid).forCall (fun _ _=>0) ⟨#[],#[.string ⟨#[]⟩],[]⟩).memory Tryz.f13.params.toList Rows.formatReprintsSpec.vars false #[(.string ⟨#[]⟩:Value)].toList 8=some ([.lit (.string [])],[],places):=
 ⟨[],by kernel_rfl⟩
set_option maxRecDepth 100000 in
theorem lifted (os:Os) (started:os.Started) (H:Type) (enc:TypeId×Value->H) (F:Stop.Interp):
 ReturnsInHanded {} Tryz.checked os 13 .any ((Rows.OpenSpec.upto Rows.formatReprintsSpec).preRow enc Tryz.prog Tryz.f13 Rows.formatReprintsUptoRow.domain false Rows.formatReprintsUptoRow.laid) (((Rows.OpenSpec.upto Rows.formatReprintsSpec).at F).post enc Tryz.prog Tryz.f13 false true false false):=by
 obtain ⟨places,hx⟩:=reads os enc
 refine returnsInHanded_of_row (C:=Tryz.checked) (s:=Rows.OpenSpec.upto Rows.formatReprintsSpec) own started (by kernel_rfl) Tryz.func13
  (witness_row_at (enc:=enc) (C:=Tryz.checked) false (World.laidAll Tryz.prog os Rows.formatReprintsUptoRow.laid) #[.string ⟨#[]⟩] rfl (by kernel_rfl) (by kernel_rfl) (by kernel_rfl)
   (OpenSpec.preRow_of_cond 8 hx (by kernel_rfl) (fun k hk=>by cases hk;kernel_rfl) (by kernel_rfl) (laid_met os))) ?_
 intro W base args ds gs before hval hW _ hc _ hL _ _
 exact contract H enc W base args ds gs before hval hW hL (of_decide_eq_true (hc _ rfl))
theorem fact2:mapsRowed Tryz.prog=true:=by kernel_rfl
theorem fact3:Tryz.f13.params.all (Tryz.prog.readableRec ·)=true:=by kernel_rfl
theorem fact4:(Rows.formatReprintsUptoRow.inPlace==Tryz.prog.inPlace 13)=true:=by kernel_rfl
theorem fact5:(Rows.formatReprintsUptoRow.unfollowed==Tryz.prog.unfollowed 13)=true:=by kernel_rfl
theorem fact6:(Rows.formatReprintsUptoRow.recurses==Tryz.prog.recurses 13)=true:=by kernel_rfl
theorem fact7:(Rows.formatReprintsUptoRow.named==Tryz.prog.varsNamed 13)=true:=by kernel_rfl
theorem fact8:(Rows.formatReprintsUptoRow.loops==(Tryz.f13.params.toList++(Rows.OpenSpec.upto Rows.formatReprintsSpec).bare.plain.varTypes Tryz.prog).any (Tryz.prog.loopsFrom ·))=true:=by kernel_rfl
theorem fact9:Tryz.prog.mayEnter=true:=by kernel_rfl
theorem fact10:(Rows.formatReprintsUptoRow.lifted==Tryz.prog.liftsFinal)=true:=by kernel_rfl
theorem fact11:(Tryz.prog.make==some Rows.formatReprintsUptoRow.make)=true:=by kernel_rfl
theorem facts:joinedFacts Tryz.prog 13 Tryz.f13 (Rows.OpenSpec.upto Rows.formatReprintsSpec).bare Rows.formatReprintsUptoRow=true:=by
 unfold joinedFacts
 rw [bb9,fact2,fact3,fact4,fact5,fact6,fact7,fact8,fact9,fact10,fact11]
 kernel_rfl
theorem said:Rows.FormatReprintsUptoSaid:=
 OpenClaim.holds_of_cond 13 Tryz.f13 rfl rfl rfl rfl rfl rfl rfl ⟨rfl,rfl,rfl,rfl,rfl⟩ rfl rfl rfl rfl rfl (by kernel_rfl) Tryz.func13 facts
  (of_decide_eq_true (by kernel_rfl)) (by unfold Func.isWrapper;first | (rw [if_pos (by decide +kernel)];kernel_rfl) | (rw [if_neg (by decide +kernel)];exact ⟨rfl,rfl⟩))
  (fun os started H enc _ F=>by rw [OpenClaim.pre_eq_preRow];exact lifted os started H enc F)
theorem plain (f:FuncId) (fn:Func) (hf:Tryz.pinned.checked.prog.funcNamed Tryz.f13.name=some f) (hfn:Tryz.pinned.checked.prog.funcs[f]?=some fn):
 true=Tryz.pinned.checked.prog.looks []/\∀ (j:Nat) t,fn.params[j]?=some t->Tryz.pinned.checked.prog.wantsStandIn t=false:=by
 obtain rfl:f=13:=Option.some.inj ((show Tryz.prog.funcNamed Tryz.f13.name=some 13 by kernel_rfl).symm.trans hf) |>.symm
 obtain rfl:fn=Tryz.f13:=(Option.some.inj (Tryz.func13.symm.trans hfn)).symm
 refine ⟨by kernel_rfl,fun j t ht=>?_⟩
 have hall:(Tryz.f13.params.toList.all fun t=>!Tryz.prog.wantsStandIn t)=true:=by kernel_rfl
 have:=List.all_eq_true.1 hall t (by have:=Array.mem_of_getElem? ht;simpa using this)
 exact Bool.not_eq_true' _ |>.mp this
theorem cardText:Rows.formatReprintsUptoRow.wfByText (Rows.OpenSpec.upto Rows.formatReprintsSpec)=true:=by kernel_rfl
theorem cardMain:Tryz.pinned.checked.prog.mainIs=some (Rows.formatReprintsUptoCard.stood.harness.1,Rows.formatReprintsUptoCard.stood.harness.2.toList):=by kernel_rfl
theorem cardGoes:false=Rows.formatReprintsUptoRow.goesBy Tryz.pinned.checked.prog:=by kernel_rfl
theorem card:Rows.FormatReprintsUptoCardSaid:=
 Claim7.holds_tied_plain_at .later [] _ _ _ _ said (fun _ h=>by cases h) cardText (fun _ h=>by cases h) formatReprintsUpto_row_tie rfl ⟨rfl,rfl⟩ cardMain rfl plain cardGoes
end Go.Proofs.YtcpkdafleaddlaaGreatDoor.formatReprints
