/- The law RetireUses, for every argument that holds at most 1048576 values and letters: the call returns true and every argument reads as before. Conditions: as the row prints them. -/
import Derived.Test.YtjogoleiodbfdaaGreatAbLawZ
import Derived.Test.YtjogoleiodbfdaaGreatSGoodT
import Derived.Test.YtjogoleiodbfdaaGreatPUses6T
set_option linter.unusedVariables false
set_option linter.unusedSimpArgs false
set_option linter.unnecessarySimpa false
namespace Go.Proofs.YtjogoleiodbfdaaGreat.retireUses
open Go Go.Ab Go.Proofs.YtjogoleiodbfdaaGreat Go.ChangeShapes Go.WideShapes Go.ChangeAt Go.RowKit
theorem meets (pvs:List PV) (hl:pvs.length=Tryz.f3.params.toList.length) (hg:∀ (i:Nat) (t:TypeId) (p:PV),Tryz.f3.params.toList[i]?=some t->pvs[i]?=some p->∃ n,aa3 Tryz.prog n t p) (hb:aas pvs<=1048576):
 Meets Tryz.prog 3 (agv Tryz.prog Tryz.f3.params.toList pvs) [] [.bool true] []:=by
 rw [Tryz.params3] at hl hg ⊢
 match pvs,hl with
 | [p0,p1,p2],_=>
  obtain ⟨m0,g0⟩:=hg 0 _ p0 rfl rfl
  obtain ⟨m1,g1⟩:=hg 1 _ p1 rfl rfl
  obtain ⟨m2,g2⟩:=hg 2 _ p2 rfl rfl
  simp only [aas] at hb
  have hb0:aad p0<=1048576:=by omega
  have hb1:aad p1<=1048576:=by omega
  have hb2:aad p2<=1048576:=by omega
  have e:agv Tryz.prog #[26,9,33].toList [p0,p1,p2]=[.data 26 p0,.str p1.asStr,.data 33 p2]:=by
   simp [agv,axs,Tryz.underlying9,Tryz.underlying26,Tryz.underlying33]
  rw [e]
  exact F3ok 0 (p0,p1.asStr,p2) true (aug (aw5 g0 hb0) hb0 (af6 _ (Nat.le_refl _) g2) hb2)
theorem nparams:Tryz.f3.params.toList.length=3:=by rw [Tryz.params3];rfl
theorem spec_at {H:Type} (ds:List (DataW H)) (h:ds.length=3):Rows.retireUsesSpec.fn H ds={ results:=[.lit (.bool true)],args:=ds }:=by
 match ds,h with
 | [d0,d1,d2],_=>rfl
set_option maxRecDepth 100000 in
theorem contract (H:Type) (enc:TypeId×Value->H) (W:World) (base:Nat) (args:Array Value) (ds gs:List (DataW H)) (before:List MemPlace)
 (hval:∀ (j:Nat) t v,Tryz.f3.params[j]?=some t->args[j]?=some v->Value.okWide Tryz.prog W .any base t v)
 (hW:DataW.Whole enc Tryz.prog Tryz.f3.params.toList Rows.retireUsesSpec.vars false W args.toList ds gs before) (hN:Rows.uptoBulkAll (ds++gs)<=1048576):
 Calls Tryz.prog 3 args W fun e W'=>∃ v,e=.returned v/\Rows.retireUsesSpec.post enc Tryz.prog Tryz.f3 false true false false W args v W':=
 azp (f:=3) (fn:=Tryz.f3) (s:=Rows.retireUsesSpec) (N:=1048576) (tb:=4) (S:=aom) awc (by kernel_rfl) rfl (by kernel_rfl) Tryz.underlying4 akg (by kernel_rfl)
  (fun ds hd=>spec_at ds (hd.trans nparams))
  hval hW hN (tabs0 W) meets
set_option maxRecDepth 100000 in
theorem lifted (os:Os) (started:os.Started) (H:Type) (enc:TypeId×Value->H) (F:Stop.Interp):
 ReturnsInHanded {} Tryz.checked os 3 .any ((Rows.OpenSpec.upto Rows.retireUsesSpec).pre6 enc Tryz.prog Tryz.f3 Rows.retireUsesUptoRow.domain false) (((Rows.OpenSpec.upto Rows.retireUsesSpec).at F).post enc Tryz.prog Tryz.f3 false true false false):=by
 refine returnsInHanded_of_cond (C:=Tryz.checked) (s:=Rows.OpenSpec.upto Rows.retireUsesSpec) (k:=Rows.uptoSmall) rfl own started (by kernel_rfl) Tryz.func3
  (OpenSpec.witness (enc:=enc) (C:=Tryz.checked) (s:=Rows.OpenSpec.upto Rows.retireUsesSpec) (k:=Rows.uptoSmall) rfl false ⟨#[],#[.agg #[.slice none 0 0,.slice none 0 0,.slice none 0 0],.string ⟨#[]⟩,.agg #[.int .i64 0,.int .u64 0,.string ⟨#[]⟩,.slice none 0 0,.slice none 0 0,.slice none 0 0,.slice none 0 0]],[]⟩ 8 (by kernel_rfl) (by kernel_rfl) (by kernel_rfl)
   (x:=([.agg [.nil,.nil,.nil],.lit (.string []),.agg [.lit (.int .i64 0),.lit (.int .u64 0),.lit (.string []),.nil,.nil,.nil,.nil]],[],[])) (by kernel_rfl) rfl (by kernel_rfl)) ?_
 intro W base args ds gs before hval hW _ hk _
 exact contract H enc W base args ds gs before hval hW (of_decide_eq_true hk)
theorem fact2:mapsRowed Tryz.prog=true:=by kernel_rfl
theorem fact3:Tryz.f3.params.all (Tryz.prog.readableRec ·)=true:=by kernel_rfl
theorem fact4:(Rows.retireUsesUptoRow.inPlace==Tryz.prog.inPlace 3)=true:=by kernel_rfl
theorem fact5:(Rows.retireUsesUptoRow.unfollowed==Tryz.prog.unfollowed 3)=true:=by kernel_rfl
theorem fact6:(Rows.retireUsesUptoRow.recurses==Tryz.prog.recurses 3)=true:=by kernel_rfl
theorem fact7:(Rows.retireUsesUptoRow.named==Tryz.prog.varsNamed 3)=true:=by kernel_rfl
theorem fact8:(Rows.retireUsesUptoRow.loops==(Tryz.f3.params.toList++(Rows.OpenSpec.upto Rows.retireUsesSpec).bare.plain.varTypes Tryz.prog).any (Tryz.prog.loopsFrom ·))=true:=by kernel_rfl
theorem fact9:Tryz.prog.mayEnter=true:=by kernel_rfl
theorem fact10:(Rows.retireUsesUptoRow.lifted==Tryz.prog.liftsFinal)=true:=by kernel_rfl
theorem fact11:(Tryz.prog.make==some Rows.retireUsesUptoRow.make)=true:=by kernel_rfl
theorem facts:joinedFacts Tryz.prog 3 Tryz.f3 (Rows.OpenSpec.upto Rows.retireUsesSpec).bare Rows.retireUsesUptoRow=true:=by
 unfold joinedFacts
 rw [awc,fact2,fact3,fact4,fact5,fact6,fact7,fact8,fact9,fact10,fact11]
 kernel_rfl
theorem proved:Rows.RetireUsesUptoSaid:=
 OpenClaim.holds_of_cond 3 Tryz.f3 rfl rfl rfl rfl rfl rfl rfl ⟨rfl,rfl,rfl,rfl,rfl⟩ rfl rfl rfl rfl rfl (by kernel_rfl) Tryz.func3 facts
  (of_decide_eq_true (by kernel_rfl)) (by unfold Func.isWrapper;first | (rw [if_pos (by decide +kernel)];kernel_rfl) | (rw [if_neg (by decide +kernel)];exact ⟨rfl,rfl⟩))
  (fun os started H enc _ F=>lifted os started H enc F)
end Go.Proofs.YtjogoleiodbfdaaGreat.retireUses
