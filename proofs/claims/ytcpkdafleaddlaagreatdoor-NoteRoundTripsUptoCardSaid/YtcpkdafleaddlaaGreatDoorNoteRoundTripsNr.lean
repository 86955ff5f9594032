/- The law NoteRoundTrips, for every argument that holds at most 1048576 values and letters: the call returns true and every argument reads as before. Conditions: as the row prints them (the listed tables hold what the program lays). -/
import Derived.Test.YtcpkdafleaddlaaGreatDoorAbLawNr
import Derived.Test.YtcpkdafleaddlaaGreatDoorPUnqNr
import Derived.Test.YtcpkdafleaddlaaGreatDoorTokGoodP
import Derived.Test.YtcpkdafleaddlaaGreatDoorNtGoodNr
import Derived.Lay
set_option linter.unusedVariables false
set_option linter.unusedSimpArgs false
set_option linter.unnecessarySimpa false
namespace Go.Proofs.YtcpkdafleaddlaaGreatDoor.noteRoundTrips
open Go Go.Ab Go.Proofs.YtcpkdafleaddlaaGreatDoor Go.ChangeShapes Go.WideShapes Go.ChangeAt Go.RowKit
theorem meets (pvs:List PV) (hl:pvs.length=Tryz.f11.params.toList.length) (hg:∀ (i:Nat) (t:TypeId) (p:PV),Tryz.f11.params.toList[i]?=some t→pvs[i]?=some p→∃ n,goodPV Tryz.prog n t p) (hb:bulkPVs pvs≤1048576):
 Meets Tryz.prog 11 (argsOf Tryz.prog Tryz.f11.params.toList pvs) [] [.bool true] []:=by
 rw [Tryz.params11] at hl hg ⊢
 match pvs,hl with
 | [p0,p1,p2],_=>
  obtain ⟨m0,g0⟩:=hg 0 _ p0 rfl rfl
  obtain ⟨m1,g1⟩:=hg 1 _ p1 rfl rfl
  obtain ⟨m2,g2⟩:=hg 2 _ p2 rfl rfl
  simp only [bulkPVs] at hb
  have hb0:bulkPV p0≤1048576:=by omega
  have hb1:bulkPV p1≤1048576:=by omega
  have hb2:bulkPV p2≤1048576:=by omega
  have e:argsOf Tryz.prog #[52,37,37].toList [p0,p1,p2]=[.slice 116 p0.asList,.slice 72 p1.asList,.slice 72 p2.asList]:=by
   simp [argsOf,argOf,Tryz.underlying37,Tryz.underlying52]
  rw [e]
  exact F11ok 0 (p0.asList,p1.asList,p2.asList) true (plain_noteRound p0.asList p1.asList p2.asList (notes_small g0 hb0).1 (notes_small g0 hb0).2 (toks_ok g1 hb1) (toks_ok g2 hb2) (by have:=bulk_list p1;omega) (by have:=bulk_list p2;omega))
theorem nparams:Tryz.f11.params.toList.length=3:=by rw [Tryz.params11];rfl
theorem spec_at {H:Type} (ds:List (DataW H)) (h:ds.length=3):Rows.noteRoundTripsSpec.fn H ds={ results:=[.lit (.bool true)],args:=ds }:=by
 match ds,h with
 | [d0,d1,d2],_=>rfl
set_option maxRecDepth 100000 in
theorem contract (H:Type) (enc:TypeId×Value→H) (W:World) (base:Nat) (args:Array Value) (ds gs:List (DataW H)) (before:List MemPlace)
 (hval:∀ (j:Nat) t v,Tryz.f11.params[j]?=some t→args[j]?=some v→Value.okWide Tryz.prog W .any base t v)
 (hW:DataW.Whole enc Tryz.prog Tryz.f11.params.toList Rows.noteRoundTripsSpec.vars false W args.toList ds gs before) (hL:laidMetH Tryz.prog Rows.noteRoundTripsUptoRow.laid W) (hN:Rows.uptoBulkAll (ds++gs)≤1048576):
 Calls Tryz.prog 11 args W fun e W'=>∃ v,e=.returned v∧Rows.noteRoundTripsSpec.post enc Tryz.prog Tryz.f11 false true false false W args v W':=
 law_end (f:=11) (fn:=Tryz.f11) (s:=Rows.noteRoundTripsSpec) (N:=1048576) (tb:=4) (S:=dataTypes) laidOut (by kernel_rfl) rfl (by kernel_rfl) Tryz.underlying4 dataTypes_plain (by kernel_rfl)
  (fun ds hd=>spec_at ds (hd.trans nparams))
  hval hW hN (tabs hL) meets
theorem laid_met (os:Os):laidMet Tryz.prog Rows.noteRoundTripsUptoRow.laid ((World.laidAll Tryz.prog os Rows.noteRoundTripsUptoRow.laid).forCall (fun _ _=>0) ⟨#[],#[.slice none 0 0,.slice none 0 0,.slice none 0 0],[]⟩).memory:=
 laidMet_laidAll _ (by kernel_rfl) (by kernel_rfl)
theorem reads (os:Os) {H:Type} (enc:TypeId×Value→H):∃ places,DataW.whole enc Tryz.prog ((World.laidAll Tryz.prog os Rows.noteRoundTripsUptoRow.laid).forCall (fun _ _=>0) ⟨#[],#[.slice none 0 0,.slice none 0 0,.slice none 0 0],[]⟩).memory Tryz.f11.params.toList Rows.noteRoundTripsSpec.vars false #[(.slice none 0 0:Value),.slice none 0 0,.slice none 0 0].toList 8=some ([.nil,.nil,.nil],[],places):=
 ⟨[],by kernel_rfl⟩
set_option maxRecDepth 100000 in
theorem lifted (os:Os) (started:os.Started) (H:Type) (enc:TypeId×Value→H) (F:Stop.Interp):
 ReturnsInHanded {} Tryz.checked os 11 .any ((Rows.OpenSpec.upto Rows.noteRoundTripsSpec).preRow enc Tryz.prog Tryz.f11 Rows.noteRoundTripsUptoRow.domain false Rows.noteRoundTripsUptoRow.laid) (((Rows.OpenSpec.upto Rows.noteRoundTripsSpec).at F).post enc Tryz.prog Tryz.f11 false true false false):=by
 obtain ⟨places,hx⟩:=reads os enc
 refine returnsInHanded_of_row (C:=Tryz.checked) (s:=Rows.OpenSpec.upto Rows.noteRoundTripsSpec) own started (by kernel_rfl) Tryz.func11
  (witness_row_at (enc:=enc) (C:=Tryz.checked) false (World.laidAll Tryz.prog os Rows.noteRoundTripsUptoRow.laid) #[.slice none 0 0,.slice none 0 0,.slice none 0 0] rfl (by kernel_rfl) (by kernel_rfl) (by kernel_rfl)
   (OpenSpec.preRow_of_cond 8 hx (by kernel_rfl) (fun k hk=>by cases hk;kernel_rfl) (by kernel_rfl) (laid_met os))) ?_
 intro W base args ds gs before hval hW _ hc _ hL _ _
 exact contract H enc W base args ds gs before hval hW hL (of_decide_eq_true (hc _ rfl))
theorem fact2:mapsRowed Tryz.prog=true:=by kernel_rfl
theorem fact3:Tryz.f11.params.all (Tryz.prog.readableRec ·)=true:=by kernel_rfl
theorem fact4:(Rows.noteRoundTripsUptoRow.inPlace==Tryz.prog.inPlace 11)=true:=by kernel_rfl
theorem fact5:(Rows.noteRoundTripsUptoRow.unfollowed==Tryz.prog.unfollowed 11)=true:=by kernel_rfl
theorem fact6:(Rows.noteRoundTripsUptoRow.recurses==Tryz.prog.recurses 11)=true:=by kernel_rfl
theorem fact7:(Rows.noteRoundTripsUptoRow.named==Tryz.prog.varsNamed 11)=true:=by kernel_rfl
theorem facts:joinedFacts Tryz.prog 11 Tryz.f11 (Rows.OpenSpec.upto Rows.noteRoundTripsSpec).bare Rows.noteRoundTripsUptoRow=true:=by
 unfold joinedFacts
 rw [laidOut,fact2,fact3,fact4,fact5,fact6,fact7]
 kernel_rfl
theorem said:Rows.NoteRoundTripsUptoSaid:=
 OpenClaim.holds_of_cond 11 Tryz.f11 rfl rfl rfl rfl rfl rfl rfl ⟨rfl,rfl,rfl,rfl,rfl⟩ rfl rfl rfl rfl rfl (by kernel_rfl) Tryz.func11 facts
  (of_decide_eq_true (by kernel_rfl)) (by unfold Func.isWrapper;first | (rw [if_pos (by decide +kernel)];kernel_rfl) | (rw [if_neg (by decide +kernel)];exact ⟨rfl,rfl⟩))
  (fun os started H enc _ F=>by rw [OpenClaim.pre_eq_preRow];exact lifted os started H enc F)
theorem plain (f:FuncId) (fn:Func) (hf:Tryz.pinned.checked.prog.funcNamed Tryz.f11.name=some f) (hfn:Tryz.pinned.checked.prog.funcs[f]?=some fn):
 true=Tryz.pinned.checked.prog.looks []∧∀ (j:Nat) t,fn.params[j]?=some t→Tryz.pinned.checked.prog.wantsStandIn t=false:=by
 obtain rfl:f=11:=Option.some.inj ((show Tryz.prog.funcNamed Tryz.f11.name=some 11 by kernel_rfl).symm.trans hf) |>.symm
 obtain rfl:fn=Tryz.f11:=(Option.some.inj (Tryz.func11.symm.trans hfn)).symm
 refine ⟨by kernel_rfl,fun j t ht=>?_⟩
 have hall:(Tryz.f11.params.toList.all fun t=>!Tryz.prog.wantsStandIn t)=true:=by kernel_rfl
 have:=List.all_eq_true.1 hall t (by have:=Array.mem_of_getElem? ht;simpa using this)
 exact Bool.not_eq_true' _ |>.mp this
theorem cardText:Rows.noteRoundTripsUptoRow.wfByText (Rows.OpenSpec.upto Rows.noteRoundTripsSpec)=true:=by kernel_rfl
theorem cardMain:Tryz.pinned.checked.prog.mainIs=some (Rows.noteRoundTripsUptoCard.stood.harness.1,Rows.noteRoundTripsUptoCard.stood.harness.2.toList):=by kernel_rfl
theorem cardGoes:false=Rows.noteRoundTripsUptoRow.goesBy Tryz.pinned.checked.prog:=by kernel_rfl
theorem card:Rows.NoteRoundTripsUptoCardSaid:=
 Claim7.holds_tied_plain_at .later [] _ _ _ _ said (fun _ h=>by cases h) cardText (fun _ h=>by cases h) noteRoundTripsUpto_row_tie rfl ⟨rfl,rfl⟩ cardMain rfl plain cardGoes
end Go.Proofs.YtcpkdafleaddlaaGreatDoor.noteRoundTrips
