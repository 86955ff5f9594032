/- The law RegistryChecks, for every argument that holds at most 1048576 values and letters: the call returns true and every argument reads as before. Conditions: as the row prints them (the listed tables hold what the program lays). -/
import Derived.Test.YtofplaamkkpciaaGreatDoorSGoodR
import Derived.Lay
set_option linter.unusedVariables false
set_option linter.unusedSimpArgs false
set_option linter.unnecessarySimpa false
namespace Go.Proofs.YtofplaamkkpciaaGreatDoor.registryChecks
open Go Go.Ab Go.Proofs.YtofplaamkkpciaaGreatDoor Go.ChangeShapes Go.WideShapes Go.ChangeAt Go.RowKit
theorem meets(pvs:List PV)(hl:pvs.length=Tryz.f3.params.toList.length)(hg:∀(i:Nat)(t:TypeId)(p:PV),Tryz.f3.params.toList[i]?=some t->pvs[i]?=some p->∃n,abd Tryz.prog n t p)(hb:abq pvs<=1048576):
 Meets Tryz.prog 3 (aj1 Tryz.prog Tryz.f3.params.toList pvs) [] [.bool true] []:=by
 rw[Tryz.params3]at hl hg ⊢
 match pvs,hl with
 |[p0],_=>
  obtain⟨m0,g0⟩:=hg 0 _ p0 rfl rfl
  simp only[abq]at hb
  have hb0:aag p0<=1048576:=by omega
  have e:aj1 Tryz.prog #[24].toList [p0]=[.data 24 p0]:=by
   simp[aj1,bdb,Tryz.underlying24]
  rw[e]
  exact F3c.ok (p0) true (aso (blc g0 hb0))
theorem nparams:Tryz.f3.params.toList.length=1:=by rw[Tryz.params3];rfl
theorem spec_at{H:Type}(ds:List (DataW H))(h:ds.length=1):Rows.registryChecksSpec.fn H ds={ results:=[.lit (.bool true)],args:=ds }:=by
 match ds,h with
 |[d0],_=>rfl
set_option maxRecDepth 100000 in
theorem contract(H:Type)(enc:TypeId×Value->H)(W:World)(base:Nat)(args:Array Value)(ds gs:List (DataW H))(before:List MemPlace)
 (hval:∀(j:Nat)t v,Tryz.f3.params[j]?=some t->args[j]?=some v->Value.okWide Tryz.prog W .any base t v)
 (hW:DataW.Whole enc Tryz.prog Tryz.f3.params.toList Rows.registryChecksSpec.vars false W args.toList ds gs before) (hL:laidMetH Tryz.prog Rows.registryChecksUptoRow.laid W) (hN:Rows.uptoBulkAll (ds++gs)<=1048576):
 Calls Tryz.prog 3 args W fun e W'=>∃v,e=.returned v/\Rows.registryChecksSpec.post enc Tryz.prog Tryz.f3 false true false false W args v W':=
 bib (f:=3) (fn:=Tryz.f3) (s:=Rows.registryChecksSpec) (N:=1048576) (tb:=4) (S:=aw5) bao (by kernel_rfl) rfl (by kernel_rfl) Tryz.underlying4 apw (by kernel_rfl)
  (fun ds hd=>spec_at ds (hd.trans nparams))
  hval hW hN (tabs hL) meets
theorem laid_met(os:Os):laidMet Tryz.prog Rows.registryChecksUptoRow.laid ((World.laidAll Tryz.prog os Rows.registryChecksUptoRow.laid).forCall (fun _ _=>0) ⟨#[],#[.agg #[.int .i64 0,.slice none 0 0]],[]⟩).memory:=
 laidMet_laidAll _ (by kernel_rfl) (by kernel_rfl)
theorem reads(os:Os){H:Type}(enc:TypeId×Value->H):∃places,DataW.whole enc Tryz.prog ((World.laidAll Tryz.prog os Rows.registryChecksUptoRow.laid).forCall (fun _ _=>0) ⟨#[],#[.agg #[.int .i64 0,.slice none 0 0]],[]⟩).memory Tryz.f3.params.toList Rows.registryChecksSpec.vars false #[(.agg #[.int .i64 0,.slice none 0 0]:Value)].toList 8=some ([.agg [.lit (.int .i64 0),.nil]],[],places):=
 ⟨[],by kernel_rfl⟩
set_option maxRecDepth 100000 in
theorem lifted(os:Os)(started:os.Started)(H:Type)(enc:TypeId×Value->H)(F:Stop.Interp):
 ReturnsInHanded {} Tryz.checked os 3 .any ((Rows.OpenSpec.upto Rows.registryChecksSpec).preRow enc Tryz.prog Tryz.f3 Rows.registryChecksUptoRow.domain false Rows.registryChecksUptoRow.laid) (((Rows.OpenSpec.upto Rows.registryChecksSpec).at F).post enc Tryz.prog Tryz.f3 false true false false):=by
 obtain⟨places,hx⟩:=reads os enc
 refine returnsInHanded_of_row (C:=Tryz.checked) (s:=Rows.OpenSpec.upto Rows.registryChecksSpec) own started (by kernel_rfl) Tryz.func3
  (witness_row_at (enc:=enc) (C:=Tryz.checked) false (World.laidAll Tryz.prog os Rows.registryChecksUptoRow.laid) #[.agg #[.int .i64 0,.slice none 0 0]] rfl (by kernel_rfl) (by kernel_rfl) (by kernel_rfl)
   (OpenSpec.preRow_of_cond 8 hx (by kernel_rfl) (fun k hk=>by cases hk;kernel_rfl) (by kernel_rfl) (laid_met os))) ?_
 intro W base args ds gs before hval hW _ hc _ hL _ _
 exact contract H enc W base args ds gs before hval hW hL (of_decide_eq_true (hc _ rfl))
theorem fact2:mapsRowed Tryz.prog=true:=by kernel_rfl
theorem fact3:Tryz.f3.params.all (Tryz.prog.readableRec ·)=true:=by kernel_rfl
theorem fact4:(Rows.registryChecksUptoRow.inPlace==Tryz.prog.inPlace 3)=true:=by kernel_rfl
theorem fact5:(Rows.registryChecksUptoRow.unfollowed==Tryz.prog.unfollowed 3)=true:=by kernel_rfl
theorem fact6:(Rows.registryChecksUptoRow.recurses==Tryz.prog.recurses 3)=true:=by kernel_rfl
theorem fact7:(Rows.registryChecksUptoRow.named==Tryz.prog.varsNamed 3)=true:=by kernel_rfl
theorem fact8:(Rows.registryChecksUptoRow.loops==(Tryz.f3.params.toList++(Rows.OpenSpec.upto Rows.registryChecksSpec).bare.plain.varTypes Tryz.prog).any (Tryz.prog.loopsFrom ·))=true:=by kernel_rfl
theorem fact9:Tryz.prog.mayEnter=true:=by kernel_rfl
theorem fact10:(Rows.registryChecksUptoRow.lifted==Tryz.prog.liftsFinal)=true:=by kernel_rfl
theorem fact11:(Tryz.prog.make==some Rows.registryChecksUptoRow.make)=true:=by kernel_rfl
theorem facts:joinedFacts Tryz.prog 3 Tryz.f3 (Rows.OpenSpec.upto Rows.registryChecksSpec).bare Rows.registryChecksUptoRow=true:=by
 unfold joinedFacts
 rw[bao,fact2,fact3,fact4,fact5,fact6,fact7,fact8,fact9,fact10,fact11]
 kernel_rfl
theorem said:Rows.RegistryChecksUptoSaid:=
 OpenClaim.holds_of_cond 3 Tryz.f3 rfl rfl rfl rfl rfl rfl rfl ⟨rfl,rfl,rfl,rfl,rfl⟩ rfl rfl rfl rfl rfl (by kernel_rfl) Tryz.func3 facts
  (of_decide_eq_true (by kernel_rfl)) (by unfold Func.isWrapper;first|(rw[if_pos (by decide +kernel)];kernel_rfl)|(rw[if_neg (by decide +kernel)];exact⟨rfl,rfl⟩))
  (fun os started H enc _ F=>by rw[OpenClaim.pre_eq_preRow];exact lifted os started H enc F)
theorem plain(f:FuncId)(fn:Func)(hf:Tryz.pinned.checked.prog.funcNamed Tryz.f3.name=some f)(hfn:Tryz.pinned.checked.prog.funcs[f]?=some fn):
 false=Tryz.pinned.checked.prog.looks []/\∀(j:Nat)t,fn.params[j]?=some t->Tryz.pinned.checked.prog.wantsStandIn t=false:=by
 obtain rfl:f=3:=Option.some.inj ((show Tryz.prog.funcNamed Tryz.f3.name=some 3 by kernel_rfl).symm.trans hf) |>.symm
 obtain rfl:fn=Tryz.f3:=(Option.some.inj (Tryz.func3.symm.trans hfn)).symm
 refine⟨by kernel_rfl,fun j t ht=>?_⟩
 have hall:(Tryz.f3.params.toList.all fun t=>!Tryz.prog.wantsStandIn t)=true:=by kernel_rfl
 have:=List.all_eq_true.1 hall t (by have:=Array.mem_of_getElem? ht;simpa using this)
 exact Bool.not_eq_true' _ |>.mp this
theorem cardText:Rows.registryChecksUptoRow.wfByText (Rows.OpenSpec.upto Rows.registryChecksSpec)=true:=by kernel_rfl
theorem cardMain:Tryz.pinned.checked.prog.mainIs=some (Rows.registryChecksUptoCard.stood.harness.1,Rows.registryChecksUptoCard.stood.harness.2.toList):=by kernel_rfl
theorem noGo:Tryz.pinned.checked.prog.funcs.any Func.goes=false:=by kernel_rfl
theorem goes_none{P:Program}(h:P.funcs.any Func.goes=false)(f:FuncId):P.goes f=false:=by
 unfold Program.goes
 have h1:((P.closure f).any fun g=>(P.funcs[g]?).any Func.goes)=false:=by
  rw[List.any_eq_false]
  intro g _
  cases hg:P.funcs[g]? with
  |none=>simp
  |some fn=>
   have:=Array.any_eq_false.1 h
   simp only[Option.any_some]
   obtain⟨hi,e⟩:=Array.getElem?_eq_some_iff.1 hg
   have:=this g hi
   rw[e]at this
   simpa using this
 rw[h1,h];simp
theorem cardGoes:false=Rows.registryChecksUptoRow.goesBy Tryz.pinned.checked.prog:=by
 unfold OpenClaim.goesBy Program.goesAt Program.goesFrom
 have hs:Rows.registryChecksUptoRow.start=.entering:=rfl
 rw[hs]
 cases hn:Tryz.pinned.checked.prog.funcNamed Rows.registryChecksUptoRow.func with
 |none=>rfl
 |some f=>simp[goes_none noGo f]
theorem card:Rows.RegistryChecksUptoCardSaid:=
 Claim7.holds_tied_plain_at .later [] _ _ _ _ said (fun _ h=>by cases h) cardText (fun _ h=>by cases h) registryChecksUpto_row_tie rfl ⟨rfl,rfl⟩ cardMain rfl plain cardGoes
end Go.Proofs.YtofplaamkkpciaaGreatDoor.registryChecks
