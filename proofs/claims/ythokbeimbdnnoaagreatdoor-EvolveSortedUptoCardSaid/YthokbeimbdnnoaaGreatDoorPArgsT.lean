/- The numbers, texts, annotations and counts of a file: the same in the program and the specification. -/
import Derived.Test.YthokbeimbdnnoaaGreatDoorPEveryT
import Derived.Test.YthokbeimbdnnoaaGreatDoorPName0T
set_option linter.unusedVariables false
set_option linter.unusedSimpArgs false
set_option linter.unnecessarySimpa false
namespace Go.Ab
open Go
set_option maxRecDepth 100000
theorem axr (v:PV) (hs:vLists v<=1048576):IntKind.wrap .i64 ((IntKind.wrap .i64 ((IntKind.wrap .i64 ((((v.fld 3).asList).length:Int)+(((v.fld 4).asList).length:Int)))+(((v.fld 5).asList).length:Int)))+(((v.fld 6).asList).length:Int))=((vLists v:Nat):Int):=by
 unfold vLists at hs ⊢
 have w1:IntKind.wrap .i64 (((v.fld 3).asList.length:Int)+((v.fld 4).asList.length:Int))=(((v.fld 3).asList.length+(v.fld 4).asList.length:Nat):Int):=wadd (by omega)
 have w2:IntKind.wrap .i64 ((((v.fld 3).asList.length+(v.fld 4).asList.length:Nat):Int)+((v.fld 5).asList.length:Int))=(((v.fld 3).asList.length+(v.fld 4).asList.length+(v.fld 5).asList.length:Nat):Int):=wadd (by omega)
 have w3:IntKind.wrap .i64 ((((v.fld 3).asList.length+(v.fld 4).asList.length+(v.fld 5).asList.length:Nat):Int)+((v.fld 6).asList.length:Int))=(((v.fld 3).asList.length+(v.fld 4).asList.length+(v.fld 5).asList.length+(v.fld 6).asList.length:Nat):Int):=wadd (by omega)
 rw [w1,w2,w3]
noncomputable def axh (v:PV):Bool:=(aa5 v==9)&&al0 (acm v)&&(abv v==0)&&decide (vLists v=0)
theorem a0n (v:PV) (hs:ado v):F282 0 v=some (axh v):=by
 have e:(((vLists v:Nat):Int)==(0:Int))=decide (vLists v=0):=nbeq _ 0
 have e0:(v.fld 0).asInt=aa5 v:=rfl
 have e1:(v.fld 1).asInt=abv v:=rfl
 have e2:(v.fld 2).asStr=acm v:=rfl
 unfold F282 axh
 simp only [axr v hs.1,e,e0,e1,e2,au3]
 grind
theorem azl {v:PV} (hs:ado v):∃ u:Nat,abv v=(u:Int)/\u<18446744073709551616:=by
 obtain ⟨_,_,h0,h1⟩:=hs
 exact ⟨(abv v).toNat,(Int.toNat_of_nonneg h0).symm,by omega⟩
def un (l:List PV) (i:Nat):List UInt8:=((l.getD i .bad).fld 5).asStr
end Go.Ab
namespace Go.Ab
open Go
set_option maxRecDepth 100000
theorem aqu (s:List UInt8) (hs:s.length<=1048576):F142 0 s=some (al0 s):=by
 unfold F142 al0
 rw [ag6 s (by omega)]
 cases ad8 s with
 | true=>simp only [Option.bind_some,cond_true,aje,Bool.true_and]
 | false=>simp only [Option.bind_some,cond_false,Bool.false_and]
theorem az6 {s:List UInt8} (h:aj1 s=true):s.length<=120:=by
 unfold aj1 at h
 grind
theorem aqt:∀ (m i:Nat) (s:List UInt8),s.length<=m->s.length+i<=120->(s=[]∨∀ p,p∈aa3 46 s->p≠[])->
 aa9 (S141_5step 0) (s,(i:Int))=some (bif s==[]||(aa3 46 s).all fun x=>!al5 x then .inr () else .inl false):=by
 intro m
 induction m with
 | zero=>
  intro i s hm _ _
  have:s=[]:=List.eq_nil_of_length_eq_zero (by omega)
  subst this
  exact aaf (by simp only [S141_5step,S141_5];cases decide ((i:Int)<120)<;>rfl)
 | succ m ih=>
  intro i s hm hs hp
  cases s with
  | nil=>exact aaf (by simp only [S141_5step,S141_5];cases decide ((i:Int)<120)<;>rfl)
  | cons c r=>
   have hne:((c::r)==([]:List UInt8))=false:=rfl
   have hi:decide ((i:Int)<120)=true:=decide_eq_true (by simp only [List.length_cons] at hs;omega)
   obtain ⟨up,last,h1,h2⟩:=ar9 (c::r) (by omega)
   have hp':∀ p,p∈aa3 46 (c::r)->p≠[]:=by
    rcases hp with h | h
    ·cases h
    ·exact h
   have hstep:S141_5step 0 (c::r,(i:Int))=some (bif al5 last then .inr (.inl false) else .inl (up,((i+1:Nat):Int))):=by
    simp only [S141_5step,S141_5,hne,hi,Bool.not_false,cond_true,h1,Option.bind_some,aje,avv (show i<=9223372036854775000 by omega)]
    cases al5 last<;>rfl
   rcases h2 with ⟨h2,h3⟩ | ⟨rfl,rfl,h3⟩
   ·have hlen:up.length<(c::r).length:=by rw [h2];simp
    have hsp:aa3 46 (c::r)=aa3 46 up++[last]:=by rw [h2,avn,aql _ _ h3]
    have hup:up≠[]:=by
     intro e
     exact hp' [] (by rw [hsp,e];simp [aa3]) rfl
    have hupb:(up==([]:List UInt8))=false:=by simpa using hup
    have hpu:∀ p,p∈aa3 46 up->p≠[]:=fun p h=>hp' p (by rw [hsp];simp [h])
    have hi:=ih (i+1) up (by omega) (by omega) (Or.inr hpu)
    rw [hsp,List.all_append,hne]
    rw [hupb] at hi
    cases hw:al5 last with
    | true=>
     rw [hw] at hstep
     rw [aaf hstep]
     simp [hw]
    | false=>
     rw [hw] at hstep
     rw [aat hstep,hi]
     simp [hw]
   ·rw [aql _ _ h3,hne]
    cases hw:al5 (c::r) with
    | true=>
     rw [hw] at hstep
     rw [aaf hstep]
     simp [hw]
    | false=>
     rw [hw] at hstep
     rw [aat hstep,aaf (y:=.inr ()) (by simp only [S141_5step,S141_5];cases decide (((i+1:Nat):Int)<120)<;>rfl)]
     simp [hw]
theorem avu (s:List UInt8) (hs:s.length<=1048576):F141 0 s=some (defP s):=by
 unfold F141 defP
 rw [avf s hs,Option.bind_some]
 cases hf:aj1 s with
 | false=>rfl
 | true=>
  have hparts:(aa3 46 s).all ad8=true:=by
   unfold aj1 at hf
   simp only [Bool.and_eq_true] at hf
   exact hf.2
  have hn:s≠[]:=by
   intro e;subst e
   simp [aa3,ad8] at hparts
  have hnb:(s==([]:List UInt8))=false:=by simpa using hn
  have h:=aqt s.length 0 s (by omega) (az6 hf) (Or.inr fun p hp=>a0r (List.all_eq_true.1 hparts p hp))
  simp only [Bool.not_true,cond_false,afw]
  rw [show (0:Int)=((0:Nat):Int) from rfl,h,hnb]
  cases (aa3 46 s).all fun x=>!al5 x<;>rfl
end Go.Ab
namespace Go.Ab
open Go
set_option maxRecDepth 100000
noncomputable def aiv (t:PV):List UInt8:=
 bif atu (t.fld 0).asInt&&((t.fld 1).asStr==[]) then kw (t.fld 0).asInt else
 bif (((t.fld 0).asInt==0)||((t.fld 0).asInt==9)||((t.fld 0).asInt==10))&&ayy (t.fld 1).asStr then (t.fld 1).asStr else []
theorem ayz (t:PV) (hs:(t.fld 1).asStr.length<=1048576):F212 0 t=some (aiv t):=by
 grind [F212,aiv,a0s,a3j,axe,atu,asInt,ayy]
theorem aqs (t:PV) (hs:(t.fld 1).asStr.length<=1048576):(aiv t).length<=1048576:=by
 have:=axm (t.fld 0).asInt
 unfold aiv
 grind
noncomputable def litT (v:PV):List UInt8:=
 bif axh v then acm v else bif !adj (aa5 v) v then [] else bif (aa5 v==6)||(aa5 v==8) then aog (aj4 v) else aj4 v
theorem ayt {v:PV} (hs:ado v) (h:adj (aa5 v) v=true) (h2:((aa5 v==6)||(aa5 v==8))=true):(aj4 v).length<=100000:=by
 unfold aj4
 rw [h]
 simp only [cond_true]
 cases h6:aa5 v==6 with
 | true=>
  simp only [cond_true]
  grind [ai2,ate,abv,afs,decide]
 | false=>
  rw [h6,Bool.false_or] at h2
  have h4:=ai4 h (by simpa using h2)
  have hq:=agm ((acm v).flatMap fun b=>hex2 b.toNat)
  rw [akb] at hq
  grind
theorem a5p (v:PV) (hs:ado v):F250 0 v=some (litT v):=by
 have e0:(v.fld 0).asInt=aa5 v:=rfl
 have e2:(v.fld 2).asStr=acm v:=rfl
 unfold F250 litT
 simp only [e0,e2,a0n _ hs,aj9 _ _ hs,a1i _ hs,Option.bind_some]
 cases axh v with
 | true=>rfl
 | false=>
  cases hf:adj (aa5 v) v with
  | false=>rfl
  | true=>
   rw [a5d]
   cases h2:((aa5 v==6)||(aa5 v==8)) with
   | false=>rfl
   | true=>
    have:=ayt hs hf h2
    simp only [cond_true,cond_false,Bool.not_true,aoh _ (show (aj4 v).length<=1048576 by omega),Option.bind_some]
theorem a0l (v:PV) (hs:ado v):(litT v).length<=5000000:=by
 have h1:=ayu v hs.2.1
 have h2:=hs.2.1
 unfold litT
 cases axh v with
 | true=>grind
 | false=>
  simp only [cond_false]
  cases hf:adj (aa5 v) v with
  | false=>simp
  | true=>
   simp only [Bool.not_true,cond_false]
   cases h2:((aa5 v==6)||(aa5 v==8)) with
   | false=>grind
   | true=>
    have h3:=ayt hs hf h2
    have h4:=agm (aj4 v)
    grind
end Go.Ab
