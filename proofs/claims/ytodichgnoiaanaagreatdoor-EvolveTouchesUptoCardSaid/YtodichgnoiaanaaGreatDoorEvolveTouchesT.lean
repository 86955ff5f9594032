/- The law EvolveTouches, for every argument that holds at most 1048576 values and letters: the call returns true and every argument reads as before. Conditions: as the row prints them (the listed tables hold what the program lays). -/
import Derived.Test.YtodichgnoiaanaaGreatDoorSGoodT
import Derived.Lay
set_option linter.unusedVariables false
set_option linter.unusedSimpArgs false
set_option linter.unnecessarySimpa false
namespace Go.Proofs.YtodichgnoiaanaaGreatDoor.evolveTouches
open Go Go.Ab Go.Proofs.YtodichgnoiaanaaGreatDoor Go.ChangeShapes Go.WideShapes Go.ChangeAt Go.RowKit
theorem meets (pvs:List PV) (hl:pvs.length=Tryz.f3.params.toList.length) (hg:∀ (i:Nat) (t:TypeId) (p:PV),Tryz.f3.params.toList[i]?=some t->pvs[i]?=some p->∃ n,abb Tryz.prog n t p) (hb:aax pvs<=1048576):
 Meets Tryz.prog 3 (ai2 Tryz.prog Tryz.f3.params.toList pvs) [] [.bool true] []:=by
 rw [Tryz.params3] at hl hg ⊢
 match pvs,hl with
 | [p0,p1,p2],_=>
  obtain ⟨m0,g0⟩:=hg 0 _ p0 rfl rfl
  obtain ⟨m1,g1⟩:=hg 1 _ p1 rfl rfl
  obtain ⟨m2,g2⟩:=hg 2 _ p2 rfl rfl
  simp only [aax] at hb
  have hb0:aaq p0<=1048576:=by omega
  have hb1:aaq p1<=1048576:=by omega
  have hb2:aaq p2<=1048576:=by omega
  have e:ai2 Tryz.prog #[26,26,9].toList [p0,p1,p2]=[.data 26 p0,.data 26 p1,.str p2.asStr]:=by
   simp [ai2,a7i,Tryz.underlying9,Tryz.underlying26]
  rw [e]
  exact (F3c 0).ok (p0,p1,p2.asStr) true (ar9 (au4 g0 hb0) (au4 g1 hb1) hb0 hb1)
theorem nparams:Tryz.f3.params.toList.length=3:=by rw [Tryz.params3];rfl
theorem spec_at {H:Type} (ds:List (DataW H)) (h:ds.length=3):Rows.evolveTouchesSpec.fn H ds={ results:=[.lit (.bool true)],args:=ds }:=by
 match ds,h with
 | [d0,d1,d2],_=>rfl
set_option maxRecDepth 100000 in
theorem contract (H:Type) (enc:TypeId×Value->H) (W:World) (base:Nat) (args:Array Value) (ds gs:List (DataW H)) (before:List MemPlace)
 (hval:∀ (j:Nat) t v,Tryz.f3.params[j]?=some t->args[j]?=some v->Value.okWide Tryz.prog W .any base t v)
 (hW:DataW.Whole enc Tryz.prog Tryz.f3.params.toList Rows.evolveTouchesSpec.vars false W args.toList ds gs before) (hL:laidMetH Tryz.prog Rows.evolveTouchesUptoRow.laid W) (hS:W.ShapedOpen Tryz.prog) (hN:Rows.uptoBulkAll (ds++gs)<=1048576):
 Calls Tryz.prog 3 args W fun e W'=>∃ v,e=.returned v/\Rows.evolveTouchesSpec.post enc Tryz.prog Tryz.f3 false true false false W args v W':=
 bch (f:=3) (fn:=Tryz.f3) (s:=Rows.evolveTouchesSpec) (N:=1048576) (tb:=4) (S:=ati) a4i (by kernel_rfl) rfl (by kernel_rfl) Tryz.underlying4 anu (by kernel_rfl)
  (fun ds hd=>spec_at ds (hd.trans nparams))
  hval hW hN (tabs hL hS) meets
theorem laid_met (os:Os):laidMet Tryz.prog Rows.evolveTouchesUptoRow.laid ((World.laidAll Tryz.prog os Rows.evolveTouchesUptoRow.laid).forCall (fun _ _=>0) ⟨#[],#[.agg #[.slice none 0 0,.slice none 0 0,.slice none 0 0],.agg #[.slice none 0 0,.slice none 0 0,.slice none 0 0],.string ⟨#[]⟩],[]⟩).memory:=
 laidMet_laidAll _ (by kernel_rfl) (by kernel_rfl)
theorem reads (os:Os) {H:Type} (enc:TypeId×Value->H):∃ places,DataW.whole enc Tryz.prog ((World.laidAll Tryz.prog os Rows.evolveTouchesUptoRow.laid).forCall (fun _ _=>0) ⟨#[],#[.agg #[.slice none 0 0,.slice none 0 0,.slice none 0 0],.agg #[.slice none 0 0,.slice none 0 0,.slice none 0 0],.string ⟨#[]⟩],[]⟩).memory Tryz.f3.params.toList Rows.evolveTouchesSpec.vars false #[(.agg #[.slice none 0 0,.slice none 0 0,.slice none 0 0]:Value),.agg #[.slice none 0 0,.slice none 0 0,.slice none 0 0],.string ⟨#[]⟩].toList 8=some ([.agg [.nil,.nil,.nil],.agg [.nil,.nil,.nil],.lit (.string [])],[],places):=
 ⟨[],by kernel_rfl⟩
set_option maxRecDepth 100000 in
theorem lifted (os:Os) (started:os.Started) (H:Type) (enc:TypeId×Value->H) (F:Stop.Interp):
 ReturnsInHanded {} Tryz.checked os 3 .any ((Rows.OpenSpec.upto Rows.evolveTouchesSpec).preRow enc Tryz.prog Tryz.f3 Rows.evolveTouchesUptoRow.domain false Rows.evolveTouchesUptoRow.laid) (((Rows.OpenSpec.upto Rows.evolveTouchesSpec).at F).post enc Tryz.prog Tryz.f3 false true false false):=by
 obtain ⟨places,hx⟩:=reads os enc
 refine returnsInHanded_of_row (C:=Tryz.checked) (s:=Rows.OpenSpec.upto Rows.evolveTouchesSpec) own started (by kernel_rfl) Tryz.func3
  (witness_row_at (enc:=enc) (C:=Tryz.checked) false (World.laidAll Tryz.prog os Rows.evolveTouchesUptoRow.laid) #[.agg #[.slice none 0 0,.slice none 0 0,.slice none 0 0],.agg #[.slice none 0 0,.slice none 0 0,.slice none 0 0],.string ⟨#[]⟩] rfl (by kernel_rfl) (by kernel_rfl) (by kernel_rfl)
   (OpenSpec.preRow_of_cond 8 hx (by kernel_rfl) (fun k hk=>by cases hk;kernel_rfl) (by kernel_rfl) (laid_met os))) ?_
 intro W base args ds gs before hval hW _ hc _ hL hS _
 exact contract H enc W base args ds gs before hval hW hL hS (of_decide_eq_true (hc _ rfl))
theorem fact2:mapsRowed Tryz.prog=true:=by kernel_rfl
theorem fact3:Tryz.f3.params.all (Tryz.prog.readableRec ·)=true:=by kernel_rfl
theorem fact4:(Rows.evolveTouchesUptoRow.inPlace==Tryz.prog.inPlace 3)=true:=by kernel_rfl
theorem fact5:(Rows.evolveTouchesUptoRow.unfollowed==Tryz.prog.unfollowed 3)=true:=by kernel_rfl
theorem fact6:(Rows.evolveTouchesUptoRow.recurses==Tryz.prog.recurses 3)=true:=by kernel_rfl
theorem fact7:(Rows.evolveTouchesUptoRow.named==Tryz.prog.varsNamed 3)=true:=by kernel_rfl
theorem fact8:(Rows.evolveTouchesUptoRow.loops==(Tryz.f3.params.toList++(Rows.OpenSpec.upto Rows.evolveTouchesSpec).bare.plain.varTypes Tryz.prog).any (Tryz.prog.loopsFrom ·))=true:=by kernel_rfl
theorem fact9:Tryz.prog.mayEnter=true:=by kernel_rfl
theorem fact10:(Rows.evolveTouchesUptoRow.lifted==Tryz.prog.liftsFinal)=true:=by kernel_rfl
theorem fact11:(Tryz.prog.make==some Rows.evolveTouchesUptoRow.make)=true:=by kernel_rfl
theorem facts:joinedFacts Tryz.prog 3 Tryz.f3 (Rows.OpenSpec.upto Rows.evolveTouchesSpec).bare Rows.evolveTouchesUptoRow=true:=by
 unfold joinedFacts
 rw [a4i,fact2,fact3,fact4,fact5,fact6,fact7,fact8,fact9,fact10,fact11]
 kernel_rfl
theorem said:Rows.EvolveTouchesUptoSaid:=
 OpenClaim.holds_of_cond 3 Tryz.f3 rfl rfl rfl rfl rfl rfl rfl ⟨rfl,rfl,rfl,rfl,rfl⟩ rfl rfl rfl rfl rfl (by kernel_rfl) Tryz.func3 facts
  (of_decide_eq_true (by kernel_rfl)) (by unfold Func.isWrapper;first | (rw [if_pos (by decide +kernel)];kernel_rfl) | (rw [if_neg (by decide +kernel)];exact ⟨rfl,rfl⟩))
  (fun os started H enc _ F=>by rw [OpenClaim.pre_eq_preRow];exact lifted os started H enc F)
theorem plain (f:FuncId) (fn:Func) (hf:Tryz.pinned.checked.prog.funcNamed Tryz.f3.name=some f) (hfn:Tryz.pinned.checked.prog.funcs[f]?=some fn):
 false=Tryz.pinned.checked.prog.looks []/\∀ (j:Nat) t,fn.params[j]?=some t->Tryz.pinned.checked.prog.wantsStandIn t=false:=by
 obtain rfl:f=3:=Option.some.inj ((show Tryz.prog.funcNamed Tryz.f3.name=some 3 by kernel_rfl).symm.trans hf) |>.symm
 obtain rfl:fn=Tryz.f3:=(Option.some.inj (Tryz.func3.symm.trans hfn)).symm
 refine ⟨by kernel_rfl,fun j t ht=>?_⟩
 have hall:(Tryz.f3.params.toList.all fun t=>!Tryz.prog.wantsStandIn t)=true:=by kernel_rfl
 have:=List.all_eq_true.1 hall t (by have:=Array.mem_of_getElem? ht;simpa using this)
 exact Bool.not_eq_true' _ |>.mp this
theorem cardText:Rows.evolveTouchesUptoRow.wfByText (Rows.OpenSpec.upto Rows.evolveTouchesSpec)=true:=by kernel_rfl
theorem cardMain:Tryz.pinned.checked.prog.mainIs=some (Rows.evolveTouchesUptoCard.stood.harness.1,Rows.evolveTouchesUptoCard.stood.harness.2.toList):=by kernel_rfl
theorem cardGoes:false=Rows.evolveTouchesUptoRow.goesBy Tryz.pinned.checked.prog:=by kernel_rfl
theorem card:Rows.EvolveTouchesUptoCardSaid:=
 Claim7.holds_tied_plain_at .later [] _ _ _ _ said (fun _ h=>by cases h) cardText (fun _ h=>by cases h) evolveTouchesUpto_row_tie rfl ⟨rfl,rfl⟩ cardMain rfl plain cardGoes
end Go.Proofs.YtodichgnoiaanaaGreatDoor.evolveTouches
