/- The law RetireCounts, for every argument that holds at most 1048576 values and letters: the call returns true and every argument reads as before. Conditions: as the row prints them. -/
import Derived.Test.YtjogoleiodbfdaaGreatAbLawZ
import Derived.Test.YtjogoleiodbfdaaGreatSGoodT
import Derived.Test.YtjogoleiodbfdaaGreatPCounts3T
set_option linter.unusedVariables false
set_option linter.unusedSimpArgs false
set_option linter.unnecessarySimpa false
namespace Go.Proofs.YtjogoleiodbfdaaGreat.retireCounts
open Go Go.Ab Go.Proofs.YtjogoleiodbfdaaGreat Go.ChangeShapes Go.WideShapes Go.ChangeAt Go.RowKit
theorem meets (pvs:List PV) (hl:pvs.length=Tryz.f4.params.toList.length) (hg:∀ (i:Nat) (t:TypeId) (p:PV),Tryz.f4.params.toList[i]?=some t->pvs[i]?=some p->∃ n,aa3 Tryz.prog n t p) (hb:aar pvs<=1048576):
 Meets Tryz.prog 4 (ag3 Tryz.prog Tryz.f4.params.toList pvs) [] [.bool true] []:=by
 rw [Tryz.params4] at hl hg ⊢
 match pvs,hl with
 | [p0,p1,p2],_=>
  obtain ⟨m0,g0⟩:=hg 0 _ p0 rfl rfl
  obtain ⟨m1,g1⟩:=hg 1 _ p1 rfl rfl
  obtain ⟨m2,g2⟩:=hg 2 _ p2 rfl rfl
  simp only [aar] at hb
  have hb0:aac p0<=1048576:=by omega
  have hb1:aac p1<=1048576:=by omega
  have hb2:aac p2<=1048576:=by omega
  have e:ag3 Tryz.prog #[26,9,33].toList [p0,p1,p2]=[.data 26 p0,.str p1.asStr,.data 33 p2]:=by
   simp [ag3,ayg,Tryz.underlying9,Tryz.underlying26,Tryz.underlying33]
  rw [e]
  exact F4ok 0 (p0,p1.asStr,p2) true (ap2 (axv g0 hb0) hb0 (agd _ (Nat.le_refl _) g2) hb2)
theorem nparams:Tryz.f4.params.toList.length=3:=by rw [Tryz.params4];rfl
theorem spec_at {H:Type} (ds:List (DataW H)) (h:ds.length=3):Rows.retireCountsSpec.fn H ds={ results:=[.lit (.bool true)],args:=ds }:=by
 match ds,h with
 | [d0,d1,d2],_=>rfl
set_option maxRecDepth 100000 in
theorem contract (H:Type) (enc:TypeId×Value->H) (W:World) (base:Nat) (args:Array Value) (ds gs:List (DataW H)) (before:List MemPlace)
 (hval:∀ (j:Nat) t v,Tryz.f4.params[j]?=some t->args[j]?=some v->Value.okWide Tryz.prog W .any base t v)
 (hW:DataW.Whole enc Tryz.prog Tryz.f4.params.toList Rows.retireCountsSpec.vars false W args.toList ds gs before) (hN:Rows.uptoBulkAll (ds++gs)<=1048576):
 Calls Tryz.prog 4 args W fun e W'=>∃ v,e=.returned v/\Rows.retireCountsSpec.post enc Tryz.prog Tryz.f4 false true false false W args v W':=
 a0k (f:=4) (fn:=Tryz.f4) (s:=Rows.retireCountsSpec) (N:=1048576) (tb:=4) (S:=ao5) aw1 (by kernel_rfl) rfl (by kernel_rfl) Tryz.underlying4 akn (by kernel_rfl)
  (fun ds hd=>spec_at ds (hd.trans nparams))
  hval hW hN (tabs0 W) meets
set_option maxRecDepth 100000 in
theorem lifted (os:Os) (started:os.Started) (H:Type) (enc:TypeId×Value->H) (F:Stop.Interp):
 ReturnsInHanded {} Tryz.checked os 4 .any ((Rows.OpenSpec.upto Rows.retireCountsSpec).pre6 enc Tryz.prog Tryz.f4 Rows.retireCountsUptoRow.domain false) (((Rows.OpenSpec.upto Rows.retireCountsSpec).at F).post enc Tryz.prog Tryz.f4 false true false false):=by
 refine returnsInHanded_of_cond (C:=Tryz.checked) (s:=Rows.OpenSpec.upto Rows.retireCountsSpec) (k:=Rows.uptoSmall) rfl own started (by kernel_rfl) Tryz.func4
  (OpenSpec.witness (enc:=enc) (C:=Tryz.checked) (s:=Rows.OpenSpec.upto Rows.retireCountsSpec) (k:=Rows.uptoSmall) rfl false ⟨#[],#[.agg #[.slice none 0 0,.slice none 0 0,.slice none 0 0],.string ⟨#[]⟩,.agg #[.int .i64 0,.int .u64 0,.string ⟨#[]⟩,.slice none 0 0,.slice none 0 0,.slice none 0 0,.slice none 0 0]],[]⟩ 8 (by kernel_rfl) (by kernel_rfl) (by kernel_rfl)
   (x:=([.agg [.nil,.nil,.nil],.lit (.string []),.agg [.lit (.int .i64 0),.lit (.int .u64 0),.lit (.string []),.nil,.nil,.nil,.nil]],[],[])) (by kernel_rfl) rfl (by kernel_rfl)) ?_
 intro W base args ds gs before hval hW _ hk _
 exact contract H enc W base args ds gs before hval hW (of_decide_eq_true hk)
theorem fact2:mapsRowed Tryz.prog=true:=by kernel_rfl
theorem fact3:Tryz.f4.params.all (Tryz.prog.readableRec ·)=true:=by kernel_rfl
theorem fact4:(Rows.retireCountsUptoRow.inPlace==Tryz.prog.inPlace 4)=true:=by kernel_rfl
theorem fact5:(Rows.retireCountsUptoRow.unfollowed==Tryz.prog.unfollowed 4)=true:=by kernel_rfl
theorem fact6:(Rows.retireCountsUptoRow.recurses==Tryz.prog.recurses 4)=true:=by kernel_rfl
theorem fact7:(Rows.retireCountsUptoRow.named==Tryz.prog.varsNamed 4)=true:=by kernel_rfl
theorem fact8:(Rows.retireCountsUptoRow.loops==(Tryz.f4.params.toList++(Rows.OpenSpec.upto Rows.retireCountsSpec).bare.plain.varTypes Tryz.prog).any (Tryz.prog.loopsFrom ·))=true:=by kernel_rfl
theorem fact9:Tryz.prog.mayEnter=true:=by kernel_rfl
theorem fact10:(Rows.retireCountsUptoRow.lifted==Tryz.prog.liftsFinal)=true:=by kernel_rfl
theorem fact11:(Tryz.prog.make==some Rows.retireCountsUptoRow.make)=true:=by kernel_rfl
theorem facts:joinedFacts Tryz.prog 4 Tryz.f4 (Rows.OpenSpec.upto Rows.retireCountsSpec).bare Rows.retireCountsUptoRow=true:=by
 unfold joinedFacts
 rw [aw1,fact2,fact3,fact4,fact5,fact6,fact7,fact8,fact9,fact10,fact11]
 kernel_rfl
theorem proved:Rows.RetireCountsUptoSaid:=
 OpenClaim.holds_of_cond 4 Tryz.f4 rfl rfl rfl rfl rfl rfl rfl ⟨rfl,rfl,rfl,rfl,rfl⟩ rfl rfl rfl rfl rfl (by kernel_rfl) Tryz.func4 facts
  (of_decide_eq_true (by kernel_rfl)) (by unfold Func.isWrapper;first | (rw [if_pos (by decide +kernel)];kernel_rfl) | (rw [if_neg (by decide +kernel)];exact ⟨rfl,rfl⟩))
  (fun os started H enc _ F=>lifted os started H enc F)
end Go.Proofs.YtjogoleiodbfdaaGreat.retireCounts
