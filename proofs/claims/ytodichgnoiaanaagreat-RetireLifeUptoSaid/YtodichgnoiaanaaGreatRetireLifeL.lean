/- The law RetireLife, for every argument that holds at most 1048576 values and letters: the call returns true and every argument reads as before. Conditions: as the row prints them. -/
import Derived.Test.YtodichgnoiaanaaGreatAbLawL
import Derived.Test.YtodichgnoiaanaaGreatSGoodT
set_option linter.unusedVariables false
set_option linter.unusedSimpArgs false
set_option linter.unnecessarySimpa false
namespace Go.Proofs.YtodichgnoiaanaaGreat.retireLife
open Go Go.Ab Go.Proofs.YtodichgnoiaanaaGreat Go.ChangeShapes Go.WideShapes Go.ChangeAt Go.RowKit
theorem meets (pvs:List PV) (hl:pvs.length=Tryz.f3.params.toList.length) (hg:∀ (i:Nat) (t:TypeId) (p:PV),Tryz.f3.params.toList[i]?=some t->pvs[i]?=some p->∃ n,aa8 Tryz.prog n t p) (hb:aaw pvs<=1048576):
 Meets Tryz.prog 3 (ahr Tryz.prog Tryz.f3.params.toList pvs) [] [.bool true] []:=by
 rw [Tryz.params3] at hl hg ⊢
 match pvs,hl with
 | [p0,p1,p2],_=>
  obtain ⟨m0,g0⟩:=hg 0 _ p0 rfl rfl
  obtain ⟨m1,g1⟩:=hg 1 _ p1 rfl rfl
  obtain ⟨m2,g2⟩:=hg 2 _ p2 rfl rfl
  simp only [aaw] at hb
  have hb0:aam p0<=1048576:=by omega
  have hb1:aam p1<=1048576:=by omega
  have hb2:aam p2<=1048576:=by omega
  have e:ahr Tryz.prog #[24,9,25].toList [p0,p1,p2]=[.data 24 p0,.str p1.asStr,.data 25 p2]:=by
   simp [ahr,a1t,Tryz.underlying9,Tryz.underlying24,Tryz.underlying25]
  rw [e]
  exact F3ok 0 (p0,p1.asStr,p2) true (axo (a7n g0 hb0))
theorem nparams:Tryz.f3.params.toList.length=3:=by rw [Tryz.params3];rfl
theorem spec_at {H:Type} (ds:List (DataW H)) (h:ds.length=3):Rows.retireLifeSpec.fn H ds={ results:=[.lit (.bool true)],args:=ds }:=by
 match ds,h with
 | [d0,d1,d2],_=>rfl
set_option maxRecDepth 100000 in
theorem contract (H:Type) (enc:TypeId×Value->H) (W:World) (base:Nat) (args:Array Value) (ds gs:List (DataW H)) (before:List MemPlace)
 (hval:∀ (j:Nat) t v,Tryz.f3.params[j]?=some t->args[j]?=some v->Value.okWide Tryz.prog W .any base t v)
 (hW:DataW.Whole enc Tryz.prog Tryz.f3.params.toList Rows.retireLifeSpec.vars false W args.toList ds gs before) (hN:Rows.uptoBulkAll (ds++gs)<=1048576):
 Calls Tryz.prog 3 args W fun e W'=>∃ v,e=.returned v/\Rows.retireLifeSpec.post enc Tryz.prog Tryz.f3 false true false false W args v W':=
 a5p (f:=3) (fn:=Tryz.f3) (s:=Rows.retireLifeSpec) (N:=1048576) (tb:=4) (S:=aqw) az1 (by kernel_rfl) rfl (by kernel_rfl) Tryz.underlying4 als (by kernel_rfl)
  (fun ds hd=>spec_at ds (hd.trans nparams))
  hval hW hN (tabs0 W) meets
set_option maxRecDepth 100000 in
theorem lifted (os:Os) (started:os.Started) (H:Type) (enc:TypeId×Value->H) (F:Stop.Interp):
 ReturnsInHanded {} Tryz.checked os 3 .any ((Rows.OpenSpec.upto Rows.retireLifeSpec).pre6 enc Tryz.prog Tryz.f3 Rows.retireLifeUptoRow.domain false) (((Rows.OpenSpec.upto Rows.retireLifeSpec).at F).post enc Tryz.prog Tryz.f3 false true false false):=by
 refine returnsInHanded_of_cond (C:=Tryz.checked) (s:=Rows.OpenSpec.upto Rows.retireLifeSpec) (k:=Rows.uptoSmall) rfl own started (by kernel_rfl) Tryz.func3
  (OpenSpec.witness (enc:=enc) (C:=Tryz.checked) (s:=Rows.OpenSpec.upto Rows.retireLifeSpec) (k:=Rows.uptoSmall) rfl false ⟨#[],#[.agg #[.int .i64 0,.slice none 0 0],.string ⟨#[]⟩,.agg #[.int .i64 0,.int .i64 0]],[]⟩ 8 (by kernel_rfl) (by kernel_rfl) (by kernel_rfl)
   (x:=([.agg [.lit (.int .i64 0),.nil],.lit (.string []),.agg [.lit (.int .i64 0),.lit (.int .i64 0)]],[],[])) (by kernel_rfl) rfl (by kernel_rfl)) ?_
 intro W base args ds gs before hval hW _ hk _
 exact contract H enc W base args ds gs before hval hW (of_decide_eq_true hk)
theorem fact2:mapsRowed Tryz.prog=true:=by kernel_rfl
theorem fact3:Tryz.f3.params.all (Tryz.prog.readableRec ·)=true:=by kernel_rfl
theorem fact4:(Rows.retireLifeUptoRow.inPlace==Tryz.prog.inPlace 3)=true:=by kernel_rfl
theorem fact5:(Rows.retireLifeUptoRow.unfollowed==Tryz.prog.unfollowed 3)=true:=by kernel_rfl
theorem fact6:(Rows.retireLifeUptoRow.recurses==Tryz.prog.recurses 3)=true:=by kernel_rfl
theorem fact7:(Rows.retireLifeUptoRow.named==Tryz.prog.varsNamed 3)=true:=by kernel_rfl
theorem fact8:(Rows.retireLifeUptoRow.loops==(Tryz.f3.params.toList++(Rows.OpenSpec.upto Rows.retireLifeSpec).bare.plain.varTypes Tryz.prog).any (Tryz.prog.loopsFrom ·))=true:=by kernel_rfl
theorem fact9:Tryz.prog.mayEnter=true:=by kernel_rfl
theorem fact10:(Rows.retireLifeUptoRow.lifted==Tryz.prog.liftsFinal)=true:=by kernel_rfl
theorem fact11:(Tryz.prog.make==some Rows.retireLifeUptoRow.make)=true:=by kernel_rfl
theorem facts:joinedFacts Tryz.prog 3 Tryz.f3 (Rows.OpenSpec.upto Rows.retireLifeSpec).bare Rows.retireLifeUptoRow=true:=by
 unfold joinedFacts
 rw [az1,fact2,fact3,fact4,fact5,fact6,fact7,fact8,fact9,fact10,fact11]
 kernel_rfl
theorem proved:Rows.RetireLifeUptoSaid:=
 OpenClaim.holds_of_cond 3 Tryz.f3 rfl rfl rfl rfl rfl rfl rfl ⟨rfl,rfl,rfl,rfl,rfl⟩ rfl rfl rfl rfl rfl (by kernel_rfl) Tryz.func3 facts
  (of_decide_eq_true (by kernel_rfl)) (by unfold Func.isWrapper;first | (rw [if_pos (by decide +kernel)];kernel_rfl) | (rw [if_neg (by decide +kernel)];exact ⟨rfl,rfl⟩))
  (fun os started H enc _ F=>lifted os started H enc F)
end Go.Proofs.YtodichgnoiaanaaGreat.retireLife
