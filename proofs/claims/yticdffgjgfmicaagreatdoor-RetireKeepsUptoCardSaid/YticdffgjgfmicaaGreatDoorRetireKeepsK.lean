/- The law RetireKeeps, for every argument that holds at most 1048576 values and letters: the call returns true and every argument reads as before. Conditions: as the row prints them (the listed tables hold what the program lays). -/
import Derived.Test.YticdffgjgfmicaaGreatDoorSGoodK
import Derived.Lay
set_option linter.unusedVariables false
set_option linter.unusedSimpArgs false
set_option linter.unnecessarySimpa false
namespace Go.Proofs.YticdffgjgfmicaaGreatDoor.retireKeeps
open Go Go.Ab Go.Proofs.YticdffgjgfmicaaGreatDoor Go.ChangeShapes Go.WideShapes Go.ChangeAt Go.RowKit
theorem meets(pvs:List PV)(hl:pvs.length=Tryz.f3.params.toList.length)(hg:∀(i:Nat)(t:TypeId)(p:PV),Tryz.f3.params.toList[i]?=some t->pvs[i]?=some p->∃n,aba Tryz.prog n t p)(hb:abq pvs<=1048576):
 Meets Tryz.prog 3 (ajr Tryz.prog Tryz.f3.params.toList pvs) [] [.bool true] []:=by
 rw[Tryz.params3]at hl hg ⊢
 match pvs,hl with
 |[p0,p1,p2],_=>
  obtain⟨m0,g0⟩:=hg 0 _ p0 rfl rfl
  obtain⟨m1,g1⟩:=hg 1 _ p1 rfl rfl
  obtain⟨m2,g2⟩:=hg 2 _ p2 rfl rfl
  simp only[abq]at hb
  have hb0:aah p0<=1048576:=by omega
  have hb1:aah p1<=1048576:=by omega
  have hb2:aah p2<=1048576:=by omega
  have e:ajr Tryz.prog #[24,9,25].toList [p0,p1,p2]=[.data 24 p0,.str p1.asStr,.data 25 p2]:=by
   simp[ajr,bcc,Tryz.underlying9,Tryz.underlying24,Tryz.underlying25]
  rw[e]
  exact F3c.ok (p0,p1.asStr,p2) true (az6 (bj3 g0 hb0))
theorem nparams:Tryz.f3.params.toList.length=3:=by rw[Tryz.params3];rfl
theorem spec_at{H:Type}(ds:List (DataW H))(h:ds.length=3):Rows.retireKeepsSpec.fn H ds={ results:=[.lit (.bool true)],args:=ds }:=by
 match ds,h with
 |[d0,d1,d2],_=>rfl
set_option maxRecDepth 100000 in
theorem contract(H:Type)(enc:TypeId×Value->H)(W:World)(base:Nat)(args:Array Value)(ds gs:List (DataW H))(before:List MemPlace)
 (hval:∀(j:Nat)t v,Tryz.f3.params[j]?=some t->args[j]?=some v->Value.okWide Tryz.prog W .any base t v)
 (hW:DataW.Whole enc Tryz.prog Tryz.f3.params.toList Rows.retireKeepsSpec.vars false W args.toList ds gs before) (hL:laidMetH Tryz.prog Rows.retireKeepsUptoRow.laid W) (hN:Rows.uptoBulkAll (ds++gs)<=1048576):
 Calls Tryz.prog 3 args W fun e W'=>∃v,e=.returned v/\Rows.retireKeepsSpec.post enc Tryz.prog Tryz.f3 false true false false W args v W':=
 bhg (f:=3) (fn:=Tryz.f3) (s:=Rows.retireKeepsSpec) (N:=1048576) (tb:=4) (S:=awe) a9i (by kernel_rfl) rfl (by kernel_rfl) Tryz.underlying4 ao9 (by kernel_rfl)
  (fun ds hd=>spec_at ds (hd.trans nparams))
  hval hW hN (tabs hL) meets
theorem laid_met(os:Os):laidMet Tryz.prog Rows.retireKeepsUptoRow.laid ((World.laidAll Tryz.prog os Rows.retireKeepsUptoRow.laid).forCall (fun _ _=>0) ⟨#[],#[.agg #[.int .i64 0,.slice none 0 0],.string ⟨#[]⟩,.agg #[.int .i64 0,.int .i64 0]],[]⟩).memory:=
 laidMet_laidAll _ (by kernel_rfl) (by kernel_rfl)
theorem reads(os:Os){H:Type}(enc:TypeId×Value->H):∃places,DataW.whole enc Tryz.prog ((World.laidAll Tryz.prog os Rows.retireKeepsUptoRow.laid).forCall (fun _ _=>0) ⟨#[],#[.agg #[.int .i64 0,.slice none 0 0],.string ⟨#[]⟩,.agg #[.int .i64 0,.int .i64 0]],[]⟩).memory Tryz.f3.params.toList Rows.retireKeepsSpec.vars false #[(.agg #[.int .i64 0,.slice none 0 0]:Value),.string ⟨#[]⟩,.agg #[.int .i64 0,.int .i64 0]].toList 8=some ([.agg [.lit (.int .i64 0),.nil],.lit (.string []),.agg [.lit (.int .i64 0),.lit (.int .i64 0)]],[],places):=
 ⟨[],by kernel_rfl⟩
set_option maxRecDepth 100000 in
theorem lifted(os:Os)(started:os.Started)(H:Type)(enc:TypeId×Value->H)(F:Stop.Interp):
 ReturnsInHanded {} Tryz.checked os 3 .any ((Rows.OpenSpec.upto Rows.retireKeepsSpec).preRow enc Tryz.prog Tryz.f3 Rows.retireKeepsUptoRow.domain false Rows.retireKeepsUptoRow.laid) (((Rows.OpenSpec.upto Rows.retireKeepsSpec).at F).post enc Tryz.prog Tryz.f3 false true false false):=by
 obtain⟨places,hx⟩:=reads os enc
 refine returnsInHanded_of_row (C:=Tryz.checked) (s:=Rows.OpenSpec.upto Rows.retireKeepsSpec) own started (by kernel_rfl) Tryz.func3
  (witness_row_at (enc:=enc) (C:=Tryz.checked) false (World.laidAll Tryz.prog os Rows.retireKeepsUptoRow.laid) #[.agg #[.int .i64 0,.slice none 0 0],.string ⟨#[]⟩,.agg #[.int .i64 0,.int .i64 0]] rfl (by kernel_rfl) (by kernel_rfl) (by kernel_rfl)
   (OpenSpec.preRow_of_cond 8 hx (by kernel_rfl) (fun k hk=>by cases hk;kernel_rfl) (by kernel_rfl) (laid_met os))) ?_
 intro W base args ds gs before hval hW _ hc _ hL _ _
 exact contract H enc W base args ds gs before hval hW hL (of_decide_eq_true (hc _ rfl))
theorem fact2:mapsRowed Tryz.prog=true:=by kernel_rfl
theorem fact3:Tryz.f3.params.all (Tryz.prog.readableRec ·)=true:=by kernel_rfl
theorem fact4:(Rows.retireKeepsUptoRow.inPlace==Tryz.prog.inPlace 3)=true:=by kernel_rfl
theorem fact5:(Rows.retireKeepsUptoRow.unfollowed==Tryz.prog.unfollowed 3)=true:=by kernel_rfl
theorem fact6:(Rows.retireKeepsUptoRow.recurses==Tryz.prog.recurses 3)=true:=by kernel_rfl
theorem fact7:(Rows.retireKeepsUptoRow.named==Tryz.prog.varsNamed 3)=true:=by kernel_rfl
theorem fact8:(Rows.retireKeepsUptoRow.loops==(Tryz.f3.params.toList++(Rows.OpenSpec.upto Rows.retireKeepsSpec).bare.plain.varTypes Tryz.prog).any (Tryz.prog.loopsFrom ·))=true:=by kernel_rfl
theorem fact9:Tryz.prog.mayEnter=true:=by kernel_rfl
theorem fact10:(Rows.retireKeepsUptoRow.lifted==Tryz.prog.liftsFinal)=true:=by kernel_rfl
theorem fact11:(Tryz.prog.make==some Rows.retireKeepsUptoRow.make)=true:=by kernel_rfl
theorem facts:joinedFacts Tryz.prog 3 Tryz.f3 (Rows.OpenSpec.upto Rows.retireKeepsSpec).bare Rows.retireKeepsUptoRow=true:=by
 unfold joinedFacts
 rw[a9i,fact2,fact3,fact4,fact5,fact6,fact7,fact8,fact9,fact10,fact11]
 kernel_rfl
theorem said:Rows.RetireKeepsUptoSaid:=
 OpenClaim.holds_of_cond 3 Tryz.f3 rfl rfl rfl rfl rfl rfl rfl ⟨rfl,rfl,rfl,rfl,rfl⟩ rfl rfl rfl rfl rfl (by kernel_rfl) Tryz.func3 facts
  (of_decide_eq_true (by kernel_rfl)) (by unfold Func.isWrapper;first|(rw[if_pos (by decide +kernel)];kernel_rfl)|(rw[if_neg (by decide +kernel)];exact⟨rfl,rfl⟩))
  (fun os started H enc _ F=>by rw[OpenClaim.pre_eq_preRow];exact lifted os started H enc F)
theorem plain(f:FuncId)(fn:Func)(hf:Tryz.pinned.checked.prog.funcNamed Tryz.f3.name=some f)(hfn:Tryz.pinned.checked.prog.funcs[f]?=some fn):
 false=Tryz.pinned.checked.prog.looks []/\∀(j:Nat)t,fn.params[j]?=some t->Tryz.pinned.checked.prog.wantsStandIn t=false:=by
 obtain rfl:f=3:=Option.some.inj ((show Tryz.prog.funcNamed Tryz.f3.name=some 3 by kernel_rfl).symm.trans hf) |>.symm
 obtain rfl:fn=Tryz.f3:=(Option.some.inj (Tryz.func3.symm.trans hfn)).symm
 refine⟨by kernel_rfl,fun j t ht=>?_⟩
 have hall:(Tryz.f3.params.toList.all fun t=>!Tryz.prog.wantsStandIn t)=true:=by kernel_rfl
 have:=List.all_eq_true.1 hall t (by have:=Array.mem_of_getElem? ht;simpa using this)
 exact Bool.not_eq_true' _ |>.mp this
theorem cardText:Rows.retireKeepsUptoRow.wfByText (Rows.OpenSpec.upto Rows.retireKeepsSpec)=true:=by kernel_rfl
theorem cardMain:Tryz.pinned.checked.prog.mainIs=some (Rows.retireKeepsUptoCard.stood.harness.1,Rows.retireKeepsUptoCard.stood.harness.2.toList):=by kernel_rfl
theorem noGo:Tryz.pinned.checked.prog.funcs.any Func.goes=false:=by kernel_rfl
theorem goes_none{P:Program}(h:P.funcs.any Func.goes=false)(f:FuncId):P.goes f=false:=by
 unfold Program.goes
 have h1:((P.closure f).any fun g=>(P.funcs[g]?).any Func.goes)=false:=by
  rw[List.any_eq_false]
  intro g _
  cases hg:P.funcs[g]? with
  |none=>simp
  |some fn=>
   have:=Array.any_eq_false.1 h
   simp only[Option.any_some]
   obtain⟨hi,e⟩:=Array.getElem?_eq_some_iff.1 hg
   have:=this g hi
   rw[e]at this
   simpa using this
 rw[h1,h];simp
theorem cardGoes:false=Rows.retireKeepsUptoRow.goesBy Tryz.pinned.checked.prog:=by
 unfold OpenClaim.goesBy Program.goesAt Program.goesFrom
 have hs:Rows.retireKeepsUptoRow.start=.entering:=rfl
 rw[hs]
 cases hn:Tryz.pinned.checked.prog.funcNamed Rows.retireKeepsUptoRow.func with
 |none=>rfl
 |some f=>simp[goes_none noGo f]
theorem card:Rows.RetireKeepsUptoCardSaid:=
 Claim7.holds_tied_plain_at .later [] _ _ _ _ said (fun _ h=>by cases h) cardText (fun _ h=>by cases h) retireKeepsUpto_row_tie rfl ⟨rfl,rfl⟩ cardMain rfl plain cardGoes
end Go.Proofs.YticdffgjgfmicaaGreatDoor.retireKeeps
