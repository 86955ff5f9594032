/- The numbers, texts, annotations and counts of a file: the same in the program and the specification. -/
import Derived.Test.YthokbeimbdnnoaaGreatDoorPEveryT
import Derived.Test.YthokbeimbdnnoaaGreatDoorPName0T
set_option linter.unusedVariables false
set_option linter.unusedSimpArgs false
set_option linter.unnecessarySimpa false
namespace Go.Ab
open Go
set_option maxRecDepth 100000
theorem axr (v:PV) (hs:vLists v<=1048576):IntKind.wrap .i64 ((IntKind.wrap .i64 ((IntKind.wrap .i64 ((((v.fld 3).asList).length:Int)+(((v.fld 4).asList).length:Int)))+(((v.fld 5).asList).length:Int)))+(((v.fld 6).asList).length:Int))=((vLists v:Nat):Int):=by
 unfold vLists at hs ⊢
 have w1:IntKind.wrap .i64 (((v.fld 3).asList.length:Int)+((v.fld 4).asList.length:Int))=(((v.fld 3).asList.length+(v.fld 4).asList.length:Nat):Int):=wadd (by omega)
 have w2:IntKind.wrap .i64 ((((v.fld 3).asList.length+(v.fld 4).asList.length:Nat):Int)+((v.fld 5).asList.length:Int))=(((v.fld 3).asList.length+(v.fld 4).asList.length+(v.fld 5).asList.length:Nat):Int):=wadd (by omega)
 have w3:IntKind.wrap .i64 ((((v.fld 3).asList.length+(v.fld 4).asList.length+(v.fld 5).asList.length:Nat):Int)+((v.fld 6).asList.length:Int))=(((v.fld 3).asList.length+(v.fld 4).asList.length+(v.fld 5).asList.length+(v.fld 6).asList.length:Nat):Int):=wadd (by omega)
 rw [w1,w2,w3]
noncomputable def axe (v:PV):Bool:=(aa3 v==9)&&asa (acm v)&&(abx v==0)&&decide (vLists v=0)
theorem a0m (v:PV) (hs:adm v):F282 0 v=some (axe v):=by
 have e:(((vLists v:Nat):Int)==(0:Int))=decide (vLists v=0):=nbeq _ 0
 have e0:(v.fld 0).asInt=aa3 v:=rfl
 have e1:(v.fld 1).asInt=abx v:=rfl
 have e2:(v.fld 2).asStr=acm v:=rfl
 unfold F282 axe
 simp only [axr v hs.1,e,e0,e1,e2,au0]
 grind
theorem azo {v:PV} (hs:adm v):∃ u:Nat,abx v=(u:Int)/\u<18446744073709551616:=by
 obtain ⟨_,_,h0,h1⟩:=hs
 exact ⟨(abx v).toNat,(Int.toNat_of_nonneg h0).symm,by omega⟩
def un (l:List PV) (i:Nat):List UInt8:=((l.getD i .bad).fld 5).asStr
end Go.Ab
namespace Go.Ab
open Go
set_option maxRecDepth 100000
theorem aqo (s:List UInt8) (hs:s.length<=1048576):F142 0 s=some (asa s):=by
 unfold F142 asa
 rw [ahb s (by omega)]
 cases ad8 s with
 | true=>simp only [Option.bind_some,cond_true,aji,Bool.true_and]
 | false=>simp only [Option.bind_some,cond_false,Bool.false_and]
theorem az5 {s:List UInt8} (h:aj7 s=true):s.length<=120:=by
 unfold aj7 at h
 grind
theorem aqn:∀ (m i:Nat) (s:List UInt8),s.length<=m->s.length+i<=120->(s=[]∨∀ p,p∈aa1 46 s->p≠[])->
 aba (S141_5step 0) (s,(i:Int))=some (bif s==[]||(aa1 46 s).all fun x=>!al1 x then .inr () else .inl false):=by
 intro m
 induction m with
 | zero=>
  intro i s hm _ _
  have:s=[]:=List.eq_nil_of_length_eq_zero (by omega)
  subst this
  exact aag (by simp only [S141_5step,S141_5];cases decide ((i:Int)<120)<;>rfl)
 | succ m ih=>
  intro i s hm hs hp
  cases s with
  | nil=>exact aag (by simp only [S141_5step,S141_5];cases decide ((i:Int)<120)<;>rfl)
  | cons c r=>
   have hne:((c::r)==([]:List UInt8))=false:=rfl
   have hi:decide ((i:Int)<120)=true:=decide_eq_true (by simp only [List.length_cons] at hs;omega)
   obtain ⟨up,last,h1,h2⟩:=ar4 (c::r) (by omega)
   have hp':∀ p,p∈aa1 46 (c::r)->p≠[]:=by
    rcases hp with h | h
    ·cases h
    ·exact h
   have hstep:S141_5step 0 (c::r,(i:Int))=some (bif al1 last then .inr (.inl false) else .inl (up,((i+1:Nat):Int))):=by
    simp only [S141_5step,S141_5,hne,hi,Bool.not_false,cond_true,h1,Option.bind_some,aji,avt (show i<=9223372036854775000 by omega)]
    cases al1 last<;>rfl
   rcases h2 with ⟨h2,h3⟩ | ⟨rfl,rfl,h3⟩
   ·have hlen:up.length<(c::r).length:=by rw [h2];simp
    have hsp:aa1 46 (c::r)=aa1 46 up++[last]:=by rw [h2,avl,aqf _ _ h3]
    have hup:up≠[]:=by
     intro e
     exact hp' [] (by rw [hsp,e];simp [aa1]) rfl
    have hupb:(up==([]:List UInt8))=false:=by simpa using hup
    have hpu:∀ p,p∈aa1 46 up->p≠[]:=fun p h=>hp' p (by rw [hsp];simp [h])
    have hi:=ih (i+1) up (by omega) (by omega) (Or.inr hpu)
    rw [hsp,List.all_append,hne]
    rw [hupb] at hi
    cases hw:al1 last with
    | true=>
     rw [hw] at hstep
     rw [aag hstep]
     simp [hw]
    | false=>
     rw [hw] at hstep
     rw [aas hstep,hi]
     simp [hw]
   ·rw [aqf _ _ h3,hne]
    cases hw:al1 (c::r) with
    | true=>
     rw [hw] at hstep
     rw [aag hstep]
     simp [hw]
    | false=>
     rw [hw] at hstep
     rw [aas hstep,aag (y:=.inr ()) (by simp only [S141_5step,S141_5];cases decide (((i+1:Nat):Int)<120)<;>rfl)]
     simp [hw]
theorem avs (s:List UInt8) (hs:s.length<=1048576):F141 0 s=some (defP s):=by
 unfold F141 defP
 rw [avd s hs,Option.bind_some]
 cases hf:aj7 s with
 | false=>rfl
 | true=>
  have hparts:(aa1 46 s).all ad8=true:=by
   unfold aj7 at hf
   simp only [Bool.and_eq_true] at hf
   exact hf.2
  have hn:s≠[]:=by
   intro e;subst e
   simp [aa1,ad8] at hparts
  have hnb:(s==([]:List UInt8))=false:=by simpa using hn
  have h:=aqn s.length 0 s (by omega) (az5 hf) (Or.inr fun p hp=>a0q (List.all_eq_true.1 hparts p hp))
  simp only [Bool.not_true,cond_false,af0]
  rw [show (0:Int)=((0:Nat):Int) from rfl,h,hnb]
  cases (aa1 46 s).all fun x=>!al1 x<;>rfl
end Go.Ab
namespace Go.Ab
open Go
set_option maxRecDepth 100000
noncomputable def aj9 (t:PV):List UInt8:=
 bif atr (t.fld 0).asInt&&((t.fld 1).asStr==[]) then kw (t.fld 0).asInt else
 bif (((t.fld 0).asInt==0)||((t.fld 0).asInt==9)||((t.fld 0).asInt==10))&&ay0 (t.fld 1).asStr then (t.fld 1).asStr else []
theorem ay1 (t:PV) (hs:(t.fld 1).asStr.length<=1048576):F212 0 t=some (aj9 t):=by
 grind [F212,aj9,a0r,a3e,axb,atr,asInt,ay0]
theorem aqm (t:PV) (hs:(t.fld 1).asStr.length<=1048576):(aj9 t).length<=1048576:=by
 have:=axm (t.fld 0).asInt
 unfold aj9
 grind
noncomputable def litT (v:PV):List UInt8:=
 bif axe v then acm v else bif !adg (aa3 v) v then [] else bif (aa3 v==6)||(aa3 v==8) then aoc (aj8 v) else aj8 v
theorem ayw {v:PV} (hs:adm v) (h:adg (aa3 v) v=true) (h2:((aa3 v==6)||(aa3 v==8))=true):(aj8 v).length<=100000:=by
 unfold aj8
 rw [h]
 simp only [cond_true]
 cases h6:aa3 v==6 with
 | true=>
  simp only [cond_true]
  grind [ai5,atc,abx,afw,decide]
 | false=>
  rw [h6,Bool.false_or] at h2
  have h4:=ai8 h (by simpa using h2)
  have hq:=ags ((acm v).flatMap fun b=>hex2 b.toNat)
  rw [akf] at hq
  grind
theorem a5g (v:PV) (hs:adm v):F250 0 v=some (litT v):=by
 have e0:(v.fld 0).asInt=aa3 v:=rfl
 have e2:(v.fld 2).asStr=acm v:=rfl
 unfold F250 litT
 simp only [e0,e2,a0m _ hs,akd _ _ hs,a1e _ hs,Option.bind_some]
 cases axe v with
 | true=>rfl
 | false=>
  cases hf:adg (aa3 v) v with
  | false=>rfl
  | true=>
   rw [a4t]
   cases h2:((aa3 v==6)||(aa3 v==8)) with
   | false=>rfl
   | true=>
    have:=ayw hs hf h2
    simp only [cond_true,cond_false,Bool.not_true,aod _ (show (aj8 v).length<=1048576 by omega),Option.bind_some]
theorem a0k (v:PV) (hs:adm v):(litT v).length<=5000000:=by
 have h1:=ayx v hs.2.1
 have h2:=hs.2.1
 unfold litT
 cases axe v with
 | true=>grind
 | false=>
  simp only [cond_false]
  cases hf:adg (aa3 v) v with
  | false=>simp
  | true=>
   simp only [Bool.not_true,cond_false]
   cases h2:((aa3 v==6)||(aa3 v==8)) with
   | false=>grind
   | true=>
    have h3:=ayw hs hf h2
    have h4:=ags (aj8 v)
    grind
end Go.Ab
