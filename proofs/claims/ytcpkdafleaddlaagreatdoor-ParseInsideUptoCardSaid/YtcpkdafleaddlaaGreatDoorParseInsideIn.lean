/- The law ParseInside, for every argument that holds at most 1048576 values and letters: the call returns true and every argument reads as before. Conditions: as the row prints them (the listed tables hold what the program lays). -/
import Derived.Test.YtcpkdafleaddlaaGreatDoorAbLawIn
import Derived.Test.YtcpkdafleaddlaaGreatDoorPMsgPIn
import Derived.Lay
set_option linter.unusedVariables false
set_option linter.unusedSimpArgs false
set_option linter.unnecessarySimpa false
namespace Go.Proofs.YtcpkdafleaddlaaGreatDoor.parseInside
open Go Go.Ab Go.Proofs.YtcpkdafleaddlaaGreatDoor Go.ChangeShapes Go.WideShapes Go.ChangeAt Go.RowKit
theorem meets (pvs:List PV) (hl:pvs.length=Tryz.f8.params.toList.length) (hg:∀ (i:Nat) (t:TypeId) (p:PV),Tryz.f8.params.toList[i]?=some t->pvs[i]?=some p->∃ n,acd Tryz.prog n t p) (hb:acu pvs<=1048576):
 Meets Tryz.prog 8 (aig Tryz.prog Tryz.f8.params.toList pvs) [] [.bool true] []:=by
 rw [Tryz.params8] at hl hg ⊢
 match pvs,hl with
 | [p0],_=>
  obtain ⟨m0,g0⟩:=hg 0 _ p0 rfl rfl
  simp only [acu] at hb
  have hb0:adt p0<=1048576:=by omega
  have e:aig Tryz.prog #[9].toList [p0]=[.str p0.asStr]:=by
   simp [aig,a5v,Tryz.underlying9]
  rw [e]
  exact F8ok 0 (p0.asStr) true (arv p0.asStr)
theorem nparams:Tryz.f8.params.toList.length=1:=by rw [Tryz.params8];rfl
theorem spec_at {H:Type} (ds:List (DataW H)) (h:ds.length=1):Rows.parseInsideSpec.fn H ds={ results:=[.lit (.bool true)],args:=ds }:=by
 match ds,h with
 | [d0],_=>rfl
set_option maxRecDepth 100000 in
theorem contract (H:Type) (enc:TypeId×Value->H) (W:World) (base:Nat) (args:Array Value) (ds gs:List (DataW H)) (before:List MemPlace)
 (hval:∀ (j:Nat) t v,Tryz.f8.params[j]?=some t->args[j]?=some v->Value.okWide Tryz.prog W .any base t v)
 (hW:DataW.Whole enc Tryz.prog Tryz.f8.params.toList Rows.parseInsideSpec.vars false W args.toList ds gs before) (hL:laidMetH Tryz.prog Rows.parseInsideUptoRow.laid W) (hN:Rows.uptoBulkAll (ds++gs)<=1048576):
 Calls Tryz.prog 8 args W fun e W'=>∃ v,e=.returned v/\Rows.parseInsideSpec.post enc Tryz.prog Tryz.f8 false true false false W args v W':=
 a8i (f:=8) (fn:=Tryz.f8) (s:=Rows.parseInsideSpec) (N:=1048576) (tb:=4) (S:=atf) a1x (by kernel_rfl) rfl (by kernel_rfl) Tryz.underlying4 al8 (by kernel_rfl)
  (fun ds hd=>spec_at ds (hd.trans nparams))
  hval hW hN (tabs hL) meets
theorem laid_met (os:Os):laidMet Tryz.prog Rows.parseInsideUptoRow.laid ((World.laidAll Tryz.prog os Rows.parseInsideUptoRow.laid).forCall (fun _ _=>0) ⟨#[],#[.string ⟨#[]⟩],[]⟩).memory:=
 laidMet_laidAll _ (by kernel_rfl) (by kernel_rfl)
theorem reads (os:Os) {H:Type} (enc:TypeId×Value->H):∃ places,DataW.whole enc Tryz.prog ((World.laidAll Tryz.prog os Rows.parseInsideUptoRow.laid).forCall (fun _ _=>0) ⟨#[],#[.string ⟨#[]⟩],[]⟩).memory Tryz.f8.params.toList Rows.parseInsideSpec.vars false #[(.string ⟨#[]⟩:Value)].toList 8=some ([.lit (.string [])],[],places):=
 ⟨[],by kernel_rfl⟩
set_option maxRecDepth 100000 in
theorem lifted (os:Os) (started:os.Started) (H:Type) (enc:TypeId×Value->H) (F:Stop.Interp):
 ReturnsInHanded {} Tryz.checked os 8 .any ((Rows.OpenSpec.upto Rows.parseInsideSpec).preRow enc Tryz.prog Tryz.f8 Rows.parseInsideUptoRow.domain false Rows.parseInsideUptoRow.laid) (((Rows.OpenSpec.upto Rows.parseInsideSpec).at F).post enc Tryz.prog Tryz.f8 false true false false):=by
 obtain ⟨places,hx⟩:=reads os enc
 refine returnsInHanded_of_row (C:=Tryz.checked) (s:=Rows.OpenSpec.upto Rows.parseInsideSpec) own started (by kernel_rfl) Tryz.func8
  (witness_row_at (enc:=enc) (C:=Tryz.checked) false (World.laidAll Tryz.prog os Rows.parseInsideUptoRow.laid) #[.string ⟨#[]⟩] rfl (by kernel_rfl) (by kernel_rfl) (by kernel_rfl)
   (OpenSpec.preRow_of_cond 8 hx (by kernel_rfl) (fun k hk=>by cases hk;kernel_rfl) (by kernel_rfl) (laid_met os))) ?_
 intro W base args ds gs before hval hW _ hc _ hL _ _
 exact contract H enc W base args ds gs before hval hW hL (of_decide_eq_true (hc _ rfl))
theorem fact2:mapsRowed Tryz.prog=true:=by kernel_rfl
theorem fact3:Tryz.f8.params.all (Tryz.prog.readableRec ·)=true:=by kernel_rfl
theorem fact4:(Rows.parseInsideUptoRow.inPlace==Tryz.prog.inPlace 8)=true:=by kernel_rfl
theorem fact5:(Rows.parseInsideUptoRow.unfollowed==Tryz.prog.unfollowed 8)=true:=by kernel_rfl
theorem fact6:(Rows.parseInsideUptoRow.recurses==Tryz.prog.recurses 8)=true:=by kernel_rfl
theorem fact7:(Rows.parseInsideUptoRow.named==Tryz.prog.varsNamed 8)=true:=by kernel_rfl
theorem facts:joinedFacts Tryz.prog 8 Tryz.f8 (Rows.OpenSpec.upto Rows.parseInsideSpec).bare Rows.parseInsideUptoRow=true:=by
 unfold joinedFacts
 rw [a1x,fact2,fact3,fact4,fact5,fact6,fact7]
 kernel_rfl
theorem said:Rows.ParseInsideUptoSaid:=
 OpenClaim.holds_of_cond 8 Tryz.f8 rfl rfl rfl rfl rfl rfl rfl ⟨rfl,rfl,rfl,rfl,rfl⟩ rfl rfl rfl rfl rfl (by kernel_rfl) Tryz.func8 facts
  (of_decide_eq_true (by kernel_rfl)) (by unfold Func.isWrapper;first | (rw [if_pos (by decide +kernel)];kernel_rfl) | (rw [if_neg (by decide +kernel)];exact ⟨rfl,rfl⟩))
  (fun os started H enc _ F=>by rw [OpenClaim.pre_eq_preRow];exact lifted os started H enc F)
theorem plain (f:FuncId) (fn:Func) (hf:Tryz.pinned.checked.prog.funcNamed Tryz.f8.name=some f) (hfn:Tryz.pinned.checked.prog.funcs[f]?=some fn):
 true=Tryz.pinned.checked.prog.looks []/\∀ (j:Nat) t,fn.params[j]?=some t->Tryz.pinned.checked.prog.wantsStandIn t=false:=by
 obtain rfl:f=8:=Option.some.inj ((show Tryz.prog.funcNamed Tryz.f8.name=some 8 by kernel_rfl).symm.trans hf) |>.symm
 obtain rfl:fn=Tryz.f8:=(Option.some.inj (Tryz.func8.symm.trans hfn)).symm
 refine ⟨by kernel_rfl,fun j t ht=>?_⟩
 have hall:(Tryz.f8.params.toList.all fun t=>!Tryz.prog.wantsStandIn t)=true:=by kernel_rfl
 have:=List.all_eq_true.1 hall t (by have:=Array.mem_of_getElem? ht;simpa using this)
 exact Bool.not_eq_true' _ |>.mp this
theorem cardText:Rows.parseInsideUptoRow.wfByText (Rows.OpenSpec.upto Rows.parseInsideSpec)=true:=by kernel_rfl
theorem cardMain:Tryz.pinned.checked.prog.mainIs=some (Rows.parseInsideUptoCard.stood.harness.1,Rows.parseInsideUptoCard.stood.harness.2.toList):=by kernel_rfl
theorem cardGoes:false=Rows.parseInsideUptoRow.goesBy Tryz.pinned.checked.prog:=by kernel_rfl
theorem card:Rows.ParseInsideUptoCardSaid:=
 Claim7.holds_tied_plain_at .later [] _ _ _ _ said (fun _ h=>by cases h) cardText (fun _ h=>by cases h) parseInsideUpto_row_tie rfl ⟨rfl,rfl⟩ cardMain rfl plain cardGoes
end Go.Proofs.YtcpkdafleaddlaaGreatDoor.parseInside
