/- The numbers, texts, annotations and counts of a file: the same in the program and the specification. -/
import Derived.Test.YthokbeimbdnnoaaGreatDoorPEveryT
import Derived.Test.YthokbeimbdnnoaaGreatDoorPName0T
set_option linter.unusedVariables false
set_option linter.unusedSimpArgs false
set_option linter.unnecessarySimpa false
namespace Go.Ab
open Go
set_option maxRecDepth 100000
theorem aw7 (v:PV) (hs:vLists v<=1048576):IntKind.wrap .i64 ((IntKind.wrap .i64 ((IntKind.wrap .i64 ((((v.fld 3).asList).length:Int)+(((v.fld 4).asList).length:Int)))+(((v.fld 5).asList).length:Int)))+(((v.fld 6).asList).length:Int))=((vLists v:Nat):Int):=by
 unfold vLists at hs ⊢
 have w1:IntKind.wrap .i64 (((v.fld 3).asList.length:Int)+((v.fld 4).asList.length:Int))=(((v.fld 3).asList.length+(v.fld 4).asList.length:Nat):Int):=wadd (by omega)
 have w2:IntKind.wrap .i64 ((((v.fld 3).asList.length+(v.fld 4).asList.length:Nat):Int)+((v.fld 5).asList.length:Int))=(((v.fld 3).asList.length+(v.fld 4).asList.length+(v.fld 5).asList.length:Nat):Int):=wadd (by omega)
 have w3:IntKind.wrap .i64 ((((v.fld 3).asList.length+(v.fld 4).asList.length+(v.fld 5).asList.length:Nat):Int)+((v.fld 6).asList.length:Int))=(((v.fld 3).asList.length+(v.fld 4).asList.length+(v.fld 5).asList.length+(v.fld 6).asList.length:Nat):Int):=wadd (by omega)
 rw [w1,w2,w3]
noncomputable def awx (v:PV):Bool:=(aa4 v==9)&&axw (ack v)&&(abv v==0)&&decide (vLists v=0)
theorem azz (v:PV) (hs:adi v):F282 0 v=some (awx v):=by
 have e:(((vLists v:Nat):Int)==(0:Int))=decide (vLists v=0):=nbeq _ 0
 have e0:(v.fld 0).asInt=aa4 v:=rfl
 have e1:(v.fld 1).asInt=abv v:=rfl
 have e2:(v.fld 2).asStr=ack v:=rfl
 unfold F282 awx
 simp only [aw7 v hs.1,e,e0,e1,e2,aug]
 grind
theorem ay1 {v:PV} (hs:adi v):∃ u:Nat,abv v=(u:Int)/\u<18446744073709551616:=by
 obtain ⟨_,_,h0,h1⟩:=hs
 exact ⟨(abv v).toNat,(Int.toNat_of_nonneg h0).symm,by omega⟩
def un (l:List PV) (i:Nat):List UInt8:=((l.getD i .bad).fld 5).asStr
end Go.Ab
namespace Go.Ab
open Go
set_option maxRecDepth 100000
theorem ayh (s:List UInt8) (hs:s.length<=1048576):F142 0 s=some (axw s):=by
 unfold F142 axw
 rw [ag1 s (by omega)]
 cases ad4 s with
 | true=>simp only [Option.bind_some,cond_true,ai5,Bool.true_and]
 | false=>simp only [Option.bind_some,cond_false,Bool.false_and]
theorem azi {s:List UInt8} (h:ajt s=true):s.length<=120:=by
 unfold ajt at h
 grind
theorem aqa:∀ (m i:Nat) (s:List UInt8),s.length<=m->s.length+i<=120->(s=[]∨∀ p,p∈aa2 46 s->p≠[])->
 aa8 (S141_5step 0) (s,(i:Int))=some (bif s==[]||(aa2 46 s).all fun x=>!alo x then .inr () else .inl false):=by
 intro m
 induction m with
 | zero=>
  intro i s hm _ _
  have:s=[]:=List.eq_nil_of_length_eq_zero (by omega)
  subst this
  exact aae (by simp only [S141_5step,S141_5];cases decide ((i:Int)<120)<;>rfl)
 | succ m ih=>
  intro i s hm hs hp
  cases s with
  | nil=>exact aae (by simp only [S141_5step,S141_5];cases decide ((i:Int)<120)<;>rfl)
  | cons c r=>
   have hne:((c::r)==([]:List UInt8))=false:=rfl
   have hi:decide ((i:Int)<120)=true:=decide_eq_true (by simp only [List.length_cons] at hs;omega)
   obtain ⟨up,last,h1,h2⟩:=aro (c::r) (by omega)
   have hp':∀ p,p∈aa2 46 (c::r)->p≠[]:=by
    rcases hp with h | h
    ·cases h
    ·exact h
   have hstep:S141_5step 0 (c::r,(i:Int))=some (bif alo last then .inr (.inl false) else .inl (up,((i+1:Nat):Int))):=by
    simp only [S141_5step,S141_5,hne,hi,Bool.not_false,cond_true,h1,Option.bind_some,ai5,au8 (show i<=9223372036854775000 by omega)]
    cases alo last<;>rfl
   rcases h2 with ⟨h2,h3⟩ | ⟨rfl,rfl,h3⟩
   ·have hlen:up.length<(c::r).length:=by rw [h2];simp
    have hsp:aa2 46 (c::r)=aa2 46 up++[last]:=by rw [h2,au1,ap2 _ _ h3]
    have hup:up≠[]:=by
     intro e
     exact hp' [] (by rw [hsp,e];simp [aa2]) rfl
    have hupb:(up==([]:List UInt8))=false:=by simpa using hup
    have hpu:∀ p,p∈aa2 46 up->p≠[]:=fun p h=>hp' p (by rw [hsp];simp [h])
    have hi:=ih (i+1) up (by omega) (by omega) (Or.inr hpu)
    rw [hsp,List.all_append,hne]
    rw [hupb] at hi
    cases hw:alo last with
    | true=>
     rw [hw] at hstep
     rw [aae hstep]
     simp [hw]
    | false=>
     rw [hw] at hstep
     rw [aat hstep,hi]
     simp [hw]
   ·rw [ap2 _ _ h3,hne]
    cases hw:alo (c::r) with
    | true=>
     rw [hw] at hstep
     rw [aae hstep]
     simp [hw]
    | false=>
     rw [hw] at hstep
     rw [aat hstep,aae (y:=.inr ()) (by simp only [S141_5step,S141_5];cases decide (((i+1:Nat):Int)<120)<;>rfl)]
     simp [hw]
theorem au7 (s:List UInt8) (hs:s.length<=1048576):F141 0 s=some (defP s):=by
 unfold F141 defP
 rw [aut s hs,Option.bind_some]
 cases hf:ajt s with
 | false=>rfl
 | true=>
  have hparts:(aa2 46 s).all ad4=true:=by
   unfold ajt at hf
   simp only [Bool.and_eq_true] at hf
   exact hf.2
  have hn:s≠[]:=by
   intro e;subst e
   simp [aa2,ad4] at hparts
  have hnb:(s==([]:List UInt8))=false:=by simpa using hn
  have h:=aqa s.length 0 s (by omega) (azi hf) (Or.inr fun p hp=>az3 (List.all_eq_true.1 hparts p hp))
  simp only [Bool.not_true,cond_false,afr]
  rw [show (0:Int)=((0:Nat):Int) from rfl,h,hnb]
  cases (aa2 46 s).all fun x=>!alo x<;>rfl
end Go.Ab
namespace Go.Ab
open Go
set_option maxRecDepth 100000
noncomputable def ajx (t:PV):List UInt8:=
 bif as9 (t.fld 0).asInt&&((t.fld 1).asStr==[]) then kw (t.fld 0).asInt else
 bif (((t.fld 0).asInt==0)||((t.fld 0).asInt==9)||((t.fld 0).asInt==10))&&ayd (t.fld 1).asStr then (t.fld 1).asStr else []
theorem aye (t:PV) (hs:(t.fld 1).asStr.length<=1048576):F212 0 t=some (ajx t):=by
 grind [F212,ajx,az4,a2g,awu,as9,asInt,ayd]
theorem ap9 (t:PV) (hs:(t.fld 1).asStr.length<=1048576):(ajx t).length<=1048576:=by
 have:=aw2 (t.fld 0).asInt
 unfold ajx
 grind
noncomputable def litT (v:PV):List UInt8:=
 bif awx v then ack v else bif !ade (aa4 v) v then [] else bif (aa4 v==6)||(aa4 v==8) then anv (ajw v) else ajw v
theorem ax7 {v:PV} (hs:adi v) (h:ade (aa4 v) v=true) (h2:((aa4 v==6)||(aa4 v==8))=true):(ajw v).length<=100000:=by
 unfold ajw
 rw [h]
 simp only [cond_true]
 cases h6:aa4 v==6 with
 | true=>
  simp only [cond_true]
  grind [ait,asu,abv,afn,decide]
 | false=>
  rw [h6,Bool.false_or] at h2
  have h4:=aiw h (by simpa using h2)
  have hq:=agi ((ack v).flatMap fun b=>hex2 b.toNat)
  rw [aj4] at hq
  grind
theorem a4h (v:PV) (hs:adi v):F250 0 v=some (litT v):=by
 have e0:(v.fld 0).asInt=aa4 v:=rfl
 have e2:(v.fld 2).asStr=ack v:=rfl
 unfold F250 litT
 simp only [e0,e2,azz _ hs,aj2 _ _ hs,a0s _ hs,Option.bind_some]
 cases awx v with
 | true=>rfl
 | false=>
  cases hf:ade (aa4 v) v with
  | false=>rfl
  | true=>
   rw [a3v]
   cases h2:((aa4 v==6)||(aa4 v==8)) with
   | false=>rfl
   | true=>
    have:=ax7 hs hf h2
    simp only [cond_true,cond_false,Bool.not_true,anw _ (show (ajw v).length<=1048576 by omega),Option.bind_some]
theorem azx (v:PV) (hs:adi v):(litT v).length<=5000000:=by
 have h1:=ax8 v hs.2.1
 have h2:=hs.2.1
 unfold litT
 cases awx v with
 | true=>grind
 | false=>
  simp only [cond_false]
  cases hf:ade (aa4 v) v with
  | false=>simp
  | true=>
   simp only [Bool.not_true,cond_false]
   cases h2:((aa4 v==6)||(aa4 v==8)) with
   | false=>grind
   | true=>
    have h3:=ax7 hs hf h2
    have h4:=agi (ajw v)
    grind
end Go.Ab
