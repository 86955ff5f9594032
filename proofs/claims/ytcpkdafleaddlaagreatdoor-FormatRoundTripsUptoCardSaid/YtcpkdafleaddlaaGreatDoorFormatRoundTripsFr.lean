/- The law FormatRoundTrips, for every argument that holds at most 1048576 values and letters: the call returns true and every argument reads as before. Conditions: as the row prints them (the listed tables hold what the program lays). -/
import Derived.Test.YtcpkdafleaddlaaGreatDoorPTksFr
import Derived.Lay
set_option linter.unusedVariables false
set_option linter.unusedSimpArgs false
set_option linter.unnecessarySimpa false
namespace Go.Proofs.YtcpkdafleaddlaaGreatDoor.formatRoundTrips
open Go Go.Ab Go.Proofs.YtcpkdafleaddlaaGreatDoor Go.ChangeShapes Go.WideShapes Go.ChangeAt Go.RowKit
theorem meets (pvs:List PV) (hl:pvs.length=Tryz.f12.params.toList.length) (hg:∀ (i:Nat) (t:TypeId) (p:PV),Tryz.f12.params.toList[i]?=some t->pvs[i]?=some p->∃ n,aax Tryz.prog n t p) (hb:abq pvs<=1048576):
 Meets Tryz.prog 12 (aj7 Tryz.prog Tryz.f12.params.toList pvs) [] [.bool true] []:=by
 rw [Tryz.params12] at hl hg ⊢
 match pvs,hl with
 | [p0],_=>
  obtain ⟨m0,g0⟩:=hg 0 _ p0 rfl rfl
  simp only [abq] at hb
  have hb0:aar p0<=1048576:=by omega
  have e:aj7 Tryz.prog #[28].toList [p0]=[.data 28 p0]:=by
   simp [aj7,bd5,Tryz.underlying28]
  rw [e]
  exact F12ok 0 (p0) true (bcf p0 (bhx g0 hb0) hb0 (bjc p0 hb0) (fun hz=>bi6 g0 (aw9 (bhx g0 hb0) hz)))
theorem nparams:Tryz.f12.params.toList.length=1:=by rw [Tryz.params12];rfl
theorem spec_at {H:Type} (ds:List (DataW H)) (h:ds.length=1):Rows.formatRoundTripsSpec.fn H ds={ results:=[.lit (.bool true)],args:=ds }:=by
 match ds,h with
 | [d0],_=>rfl
set_option maxRecDepth 100000 in
theorem contract (H:Type) (enc:TypeId×Value->H) (W:World) (base:Nat) (args:Array Value) (ds gs:List (DataW H)) (before:List MemPlace)
 (hval:∀ (j:Nat) t v,Tryz.f12.params[j]?=some t->args[j]?=some v->Value.okWide Tryz.prog W .any base t v)
 (hW:DataW.Whole enc Tryz.prog Tryz.f12.params.toList Rows.formatRoundTripsSpec.vars false W args.toList ds gs before) (hL:laidMetH Tryz.prog Rows.formatRoundTripsUptoRow.laid W) (hN:Rows.uptoBulkAll (ds++gs)<=1048576):
 Calls Tryz.prog 12 args W fun e W'=>∃ v,e=.returned v/\Rows.formatRoundTripsSpec.post enc Tryz.prog Tryz.f12 false true false false W args v W':=
 bjv (f:=12) (fn:=Tryz.f12) (s:=Rows.formatRoundTripsSpec) (N:=1048576) (tb:=4) (S:=aww) bbd (by kernel_rfl) rfl (by kernel_rfl) Tryz.underlying4 ap4 (by kernel_rfl)
  (fun ds hd=>spec_at ds (hd.trans nparams))
  hval hW hN (tabs hL) meets
theorem laid_met (os:Os):laidMet Tryz.prog Rows.formatRoundTripsUptoRow.laid ((World.laidAll Tryz.prog os Rows.formatRoundTripsUptoRow.laid).forCall (fun _ _=>0) ⟨#[],#[.agg #[.string ⟨#[]⟩,.string ⟨#[]⟩,.slice none 0 0,.slice none 0 0,.slice none 0 0,.slice none 0 0]],[]⟩).memory:=
 laidMet_laidAll _ (by kernel_rfl) (by kernel_rfl)
theorem reads (os:Os) {H:Type} (enc:TypeId×Value->H):∃ places,DataW.whole enc Tryz.prog ((World.laidAll Tryz.prog os Rows.formatRoundTripsUptoRow.laid).forCall (fun _ _=>0) ⟨#[],#[.agg #[.string ⟨#[]⟩,.string ⟨#[]⟩,.slice none 0 0,.slice none 0 0,.slice none 0 0,.slice none 0 0]],[]⟩).memory Tryz.f12.params.toList Rows.formatRoundTripsSpec.vars false #[(.agg #[.string ⟨#[]⟩,.string ⟨#[]⟩,.slice none 0 0,.slice none 0 0,.slice none 0 0,.slice none 0 0]:Value)].toList 8=some ([.agg [.lit (.string []),.lit (.string []),.nil,.nil,.nil,.nil]],[],places):=
 ⟨[],by kernel_rfl⟩
set_option maxRecDepth 100000 in
theorem lifted (os:Os) (started:os.Started) (H:Type) (enc:TypeId×Value->H) (F:Stop.Interp):
 ReturnsInHanded {} Tryz.checked os 12 .any ((Rows.OpenSpec.upto Rows.formatRoundTripsSpec).preRow enc Tryz.prog Tryz.f12 Rows.formatRoundTripsUptoRow.domain false Rows.formatRoundTripsUptoRow.laid) (((Rows.OpenSpec.upto Rows.formatRoundTripsSpec).at F).post enc Tryz.prog Tryz.f12 false true false false):=by
 obtain ⟨places,hx⟩:=reads os enc
 refine returnsInHanded_of_row (C:=Tryz.checked) (s:=Rows.OpenSpec.upto Rows.formatRoundTripsSpec) own started (by kernel_rfl) Tryz.func12
  (witness_row_at (enc:=enc) (C:=Tryz.checked) false (World.laidAll Tryz.prog os Rows.formatRoundTripsUptoRow.laid) #[.agg #[.string ⟨#[]⟩,.string ⟨#[]⟩,.slice none 0 0,.slice none 0 0,.slice none 0 0,.slice none 0 0]] rfl (by kernel_rfl) (by kernel_rfl) (by kernel_rfl)
   (OpenSpec.preRow_of_cond 8 hx (by kernel_rfl) (fun k hk=>by cases hk;kernel_rfl) (by kernel_rfl) (laid_met os))) ?_
 intro W base args ds gs before hval hW _ hc _ hL _ _
 exact contract H enc W base args ds gs before hval hW hL (of_decide_eq_true (hc _ rfl))
theorem fact2:mapsRowed Tryz.prog=true:=by kernel_rfl
theorem fact3:Tryz.f12.params.all (Tryz.prog.readableRec ·)=true:=by kernel_rfl
theorem fact4:(Rows.formatRoundTripsUptoRow.inPlace==Tryz.prog.inPlace 12)=true:=by kernel_rfl
theorem fact5:(Rows.formatRoundTripsUptoRow.unfollowed==Tryz.prog.unfollowed 12)=true:=by kernel_rfl
theorem fact6:(Rows.formatRoundTripsUptoRow.recurses==Tryz.prog.recurses 12)=true:=by kernel_rfl
theorem fact7:(Rows.formatRoundTripsUptoRow.named==Tryz.prog.varsNamed 12)=true:=by kernel_rfl
theorem fact8:(Rows.formatRoundTripsUptoRow.loops==(Tryz.f12.params.toList++(Rows.OpenSpec.upto Rows.formatRoundTripsSpec).bare.plain.varTypes Tryz.prog).any (Tryz.prog.loopsFrom ·))=true:=by kernel_rfl
theorem fact9:Tryz.prog.mayEnter=true:=by kernel_rfl
theorem fact10:(Rows.formatRoundTripsUptoRow.lifted==Tryz.prog.liftsFinal)=true:=by kernel_rfl
theorem fact11:(Tryz.prog.make==some Rows.formatRoundTripsUptoRow.make)=true:=by kernel_rfl
theorem facts:joinedFacts Tryz.prog 12 Tryz.f12 (Rows.OpenSpec.upto Rows.formatRoundTripsSpec).bare Rows.formatRoundTripsUptoRow=true:=by
 unfold joinedFacts
 rw [bbd,fact2,fact3,fact4,fact5,fact6,fact7,fact8,fact9,fact10,fact11]
 kernel_rfl
theorem said:Rows.FormatRoundTripsUptoSaid:=
 OpenClaim.holds_of_cond 12 Tryz.f12 rfl rfl rfl rfl rfl rfl rfl ⟨rfl,rfl,rfl,rfl,rfl⟩ rfl rfl rfl rfl rfl (by kernel_rfl) Tryz.func12 facts
  (of_decide_eq_true (by kernel_rfl)) (by unfold Func.isWrapper;first | (rw [if_pos (by decide +kernel)];kernel_rfl) | (rw [if_neg (by decide +kernel)];exact ⟨rfl,rfl⟩))
  (fun os started H enc _ F=>by rw [OpenClaim.pre_eq_preRow];exact lifted os started H enc F)
theorem plain (f:FuncId) (fn:Func) (hf:Tryz.pinned.checked.prog.funcNamed Tryz.f12.name=some f) (hfn:Tryz.pinned.checked.prog.funcs[f]?=some fn):
 true=Tryz.pinned.checked.prog.looks []/\∀ (j:Nat) t,fn.params[j]?=some t->Tryz.pinned.checked.prog.wantsStandIn t=false:=by
 obtain rfl:f=12:=Option.some.inj ((show Tryz.prog.funcNamed Tryz.f12.name=some 12 by kernel_rfl).symm.trans hf) |>.symm
 obtain rfl:fn=Tryz.f12:=(Option.some.inj (Tryz.func12.symm.trans hfn)).symm
 refine ⟨by kernel_rfl,fun j t ht=>?_⟩
 have hall:(Tryz.f12.params.toList.all fun t=>!Tryz.prog.wantsStandIn t)=true:=by kernel_rfl
 have:=List.all_eq_true.1 hall t (by have:=Array.mem_of_getElem? ht;simpa using this)
 exact Bool.not_eq_true' _ |>.mp this
theorem cardText:Rows.formatRoundTripsUptoRow.wfByText (Rows.OpenSpec.upto Rows.formatRoundTripsSpec)=true:=by kernel_rfl
theorem cardMain:Tryz.pinned.checked.prog.mainIs=some (Rows.formatRoundTripsUptoCard.stood.harness.1,Rows.formatRoundTripsUptoCard.stood.harness.2.toList):=by kernel_rfl
theorem cardGoes:false=Rows.formatRoundTripsUptoRow.goesBy Tryz.pinned.checked.prog:=by kernel_rfl
theorem card:Rows.FormatRoundTripsUptoCardSaid:=
 Claim7.holds_tied_plain_at .later [] _ _ _ _ said (fun _ h=>by cases h) cardText (fun _ h=>by cases h) formatRoundTripsUpto_row_tie rfl ⟨rfl,rfl⟩ cardMain rfl plain cardGoes
end Go.Proofs.YtcpkdafleaddlaaGreatDoor.formatRoundTrips
