/- The numbers, texts, annotations and counts of a file: the same in the program and the specification. -/
import Derived.Test.YtjogoleiodbfdaaGreatDoorPEveryT
set_option linter.unusedVariables false
set_option linter.unusedSimpArgs false
set_option linter.unnecessarySimpa false
namespace Go.Ab
open Go
set_option maxRecDepth 100000
theorem a03 (v:PV) (h:vLists v<=1048576):IntKind.wrap .i64 ((IntKind.wrap .i64 ((IntKind.wrap .i64 ((((v.fld 3).asList).length:Int)+(((v.fld 4).asList).length:Int)))+(((v.fld 5).asList).length:Int)))+(((v.fld 6).asList).length:Int))=((vLists v:Nat):Int):=by unfold vLists at h ⊢;have o:IntKind.wrap .i64 (((v.fld 3).asList.length:Int)+((v.fld 4).asList.length:Int))=(((v.fld 3).asList.length+(v.fld 4).asList.length:Nat):Int):=wadd (by omega);have H:IntKind.wrap .i64 ((((v.fld 3).asList.length+(v.fld 4).asList.length:Nat):Int)+((v.fld 5).asList.length:Int))=(((v.fld 3).asList.length+(v.fld 4).asList.length+(v.fld 5).asList.length:Nat):Int):=wadd (by omega);have I:IntKind.wrap .i64 ((((v.fld 3).asList.length+(v.fld 4).asList.length+(v.fld 5).asList.length:Nat):Int)+((v.fld 6).asList.length:Int))=(((v.fld 3).asList.length+(v.fld 4).asList.length+(v.fld 5).asList.length+(v.fld 6).asList.length:Nat):Int):=wadd (by omega);rw [o,H,I]
theorem a02 (a b c d:List PV):(bif (bif (bif ((a.length:Int)==(([]:List PV).length:Int)) then ((b.length:Int)==(([]:List PV).length:Int)) else false) then ((c.length:Int)==(([]:List PV).length:Int)) else false) then ((d.length:Int)==(([]:List PV).length:Int)) else false)=decide (a.length+b.length+c.length+d.length=0):=by cases a<;>cases b<;>cases c<;>cases d<;>simp<;>omega
def isV (k b:Int) (s:Bt) (v:PV):Bool:=(aav v==k)&&(abp v==b)&&(abu v==s)&&decide (vLists v=0)
theorem a5l (v:PV) (k b:Int) (s:Bt):F204 0 v (PV.agg [(PV.int k),(PV.int b),(PV.str s),(PV.slice []),(PV.slice []),(PV.slice []),(PV.slice [])])=some (isV k b s v):=by unfold F204 isV vLists aav abp abu;rw [<-a02];show some (bif (bif (bif (bif (bif (bif ((v.fld 0).asInt==k) then ((v.fld 1).asInt==b) else false) then ((v.fld 2).asStr==s) else false) then _ else false) then _ else false) then _ else false) then _ else false)=_;generalize ((v.fld 0).asInt==k)=q1;generalize ((v.fld 1).asInt==b)=q2;generalize ((v.fld 2).asStr==s)=q3;cases q1<;>cases q2<;>cases q3<;>rfl
noncomputable def ar1 (v:PV):Bool:=(aav v==9)&&aj3 (abu v)&&(abp v==0)&&decide (vLists v=0)
theorem a5a (v:PV) (I:ac3 v):F196 0 v=some (ar1 v):=by have e:(((vLists v:Nat):Int)==(0:Int))=decide (vLists v=0):=nbeq _ 0;have h:(v.fld 0).asInt=aav v:=rfl;have o:(v.fld 1).asInt=abp v:=rfl;have H:(v.fld 2).asStr=abu v:=rfl;unfold F196 ar1;simp only [a03 v I.1,e,h,o,H,axy];grind
theorem a4r (v:PV) (H:ac3 v):F184 0 v=some (ar1 v):=by have h:(v.fld 0).asInt=aav v:=rfl;have o:(v.fld 2).asStr=abu v:=rfl;unfold F184 ar1;simp only [h,o,a2b (abu v) (by have:=H.2.1;omega),a5l];unfold isV;simp only [Br,Bool.true_and];cases (aav v==(9:Int))<;>cases aj3 (abu v)<;>cases (abp v==(0:Int))<;>rfl
theorem a3l {v:PV} (o:ac3 v):∃ u:Nat,abp v=(u:Int)/\u<18446744073709551616:=by obtain ⟨_,_,h,H⟩:=o;exact ⟨(abp v).toNat,(Int.toNat_of_nonneg h).symm,by omega⟩
def un (l:List PV) (i:Nat):Bt:=((l.getD i .bad).fld 5).asStr
end Go.Ab
namespace Go.Ab
open Go
set_option maxRecDepth 100000
theorem as9 (s:Bt) (h:s.length<=1048576):F85 0 s=some (aj3 s):=by
 unfold F85 aj3;rw [af1 s (by omega)];cases adz s with
 | true=>simp only [Aa,Af,aia,Bool.true_and]
 | false=>simp only [Aa,Ah,Bool.false_and]
theorem av8 {s:Bt} (h:aiv s=true):s.length<=120:=by unfold aiv at h;grind
theorem as8:∀ (m i:Nat) (s:Bt),s.length<=m->s.length+i<=120->(s=[]\/∀ p,p∈aa2 46 s->p≠[])->
 aa9 (S84_5step 0) (s,(i:Int))=some (bif s==[]||(aa2 46 s).all λx=>!anx x then .inr () else .inl false):=by
 intro m
 induction m with
 | zero=>
  intro i s hm _ _
  have:s=[]:=Bc (by omega)
  subst this
  exact aah (by simp only [S84_5step,S84_5];cases decide ((i:Int)<120)<;>rfl)
 | succ m ih=>
  intro i s hm hs hp
  cases s with
  | nil=>exact aah (by simp only [S84_5step,S84_5];cases decide ((i:Int)<120)<;>rfl)
  | cons c r=>
   have J:((c::r)==([]:Bt))=false:=rfl
   have hi:decide ((i:Int)<120)=true:=Ag (by simp only [Am] at hs;omega)
   obtain ⟨O,H,h1,h2⟩:=auu (c::r) (by omega)
   have Z:∀ p,p∈aa2 46 (c::r)->p≠[]:=by
    rcases hp with h | h
    ·cases h
    ·exact h
   have o:S84_5step 0 (c::r,(i:Int))=some (bif anx H then .inr (.inl false) else .inl (O,((i+1:Nat):Int))):=by simp only [S84_5step,S84_5,J,hi,Ay,Af,h1,Aa,aia,ayy (show i<=9223372036854775000 by omega)];cases anx H<;>rfl
   rcases h2 with ⟨h2,h3⟩ | ⟨rfl,rfl,h3⟩
   ·have ae:O.length<(c::r).length:=by rw [h2];simp
    have M:aa2 46 (c::r)=aa2 46 O++[H]:=by rw [h2,ayq,asx _ _ h3]
    have ad:O≠[]:=by intro e;exact Z [] (by rw [M,e];simp [aa2]) rfl
    have aa:(O==([]:Bt))=false:=by simpa using ad
    have ab:∀ p,p∈aa2 46 O->p≠[]:=λp h=>Z p (by rw [M];simp [h]);have hi:=ih (i+1) O (by omega) (by omega) (Or.inr ab);rw [M,List.all_append,J];rw [aa] at hi;cases I:anx H with
    | true=>rw [I] at o;rw [aah o];simp [I]
    | false=>rw [I] at o;rw [aaq o,hi];simp [I]
   ·rw [asx _ _ h3,J];cases I:anx (c::r) with
    | true=>rw [I] at o;rw [aah o];simp [I]
    | false=>rw [I] at o;rw [aaq o,aah (y:=.inr ()) (by simp only [S84_5step,S84_5];cases decide (((i+1:Nat):Int)<120)<;>rfl)];simp [I]
theorem ayx (s:Bt) (O:s.length<=1048576):F84 0 s=some (defP s):=by
 unfold F84 defP;rw [ah9 s O,Aa];cases H:aiv s with
 | false=>rfl
 | true=>
  have o:(aa2 46 s).all adz=true:=by unfold aiv at H;simp only [Aj] at H;exact H.2
  have J:s≠[]:=by intro e;subst e;simp [aa2,adz] at o
  have I:(s==([]:Bt))=false:=by simpa using J
  have h:=as8 s.length 0 s (by omega) (av8 H) (Or.inr λp M=>a5f (Bs.1 o p M));simp only [Az,Ah,adq];rw [show (0:Int)=((0:Nat):Int) from rfl,h,I];cases (aa2 46 s).all λx=>!anx x<;>rfl
end Go.Ab
namespace Go.Ab
open Go
set_option maxRecDepth 100000
noncomputable def agy (t:PV):Bt:=
 bif ane (t.fld 0).asInt&&((t.fld 1).asStr==[]) then kw (t.fld 0).asInt else
 bif (((t.fld 0).asInt==0)||((t.fld 0).asInt==9)||((t.fld 0).asInt==10))&&as6 (t.fld 1).asStr then (t.fld 1).asStr else []
theorem a2r (t:PV) (h:(t.fld 1).asStr.length<=1048576):F130 0 t=some (agy t):=by grind [F130,agy,a5g,a8p,a0l,ane,asInt,as6]
theorem ao2 (t:PV) (h:(t.fld 1).asStr.length<=1048576):F109 0 t=some (agy t):=by unfold F109 agy;simp only [a5k,bao,a6i _ h,Aa];cases ane (t.fld 0).asInt<;>cases ((t.fld 1).asStr==([]:Bt))<;>cases ((t.fld 0).asInt==(0:Int))<;>cases ((t.fld 0).asInt==(9:Int))<;>cases ((t.fld 0).asInt==(10:Int))<;>cases as6 (t.fld 1).asStr<;>rfl
theorem as7 (t:PV) (h:(t.fld 1).asStr.length<=1048576):(agy t).length<=1048576:=by have:=a0v (t.fld 0).asInt;unfold agy;grind
noncomputable def litT (v:PV):Bt:=
 bif ar1 v then abu v else bif !adh (aav v) v then [] else bif (aav v==6)||(aav v==8) then aku (ahs v) else ahs v
theorem avd {v:PV} (M:ac3 v) (h:adh (aav v) v=true) (o:((aav v==6)||(aav v==8))=true):(ahs v).length<=100000:=by
 unfold ahs;rw [h];simp only [Af];cases H:aav v==6 with
 | true=>simp only [Af];grind [air,apy,abp,aez,decide]
 | false=>rw [H,Bool.false_or] at o;have J:=ahx h (by simpa using o);have I:=afz ((abu v).flatMap λb=>hex2 b.toNat);rw [ah0] at I;grind
theorem bar (v:PV) (h:ac3 v):F178 0 v=some (litT v):=by
 have o:(v.fld 0).asInt=aav v:=rfl;have H:(v.fld 2).asStr=abu v:=rfl;unfold F178 litT;simp only [o,H,a5a _ h,alu _ _ h,a6f _ h,Aa];cases ar1 v with
 | true=>rfl
 | false=>
  cases J:adh (aav v) v with
  | false=>rfl
  | true=>
   rw [a6p];cases I:((aav v==6)||(aav v==8)) with
   | false=>rfl
   | true=>have:=avd h J I;simp only [Af,Ah,Az,aqg _ (show (ahs v).length<=1048576 by omega),Aa]
theorem a1p (v:PV) (h:ac3 v):F144 0 v=some (litT v):=by
 have o:(v.fld 0).asInt=aav v:=rfl;have H:(v.fld 2).asStr=abu v:=rfl;unfold F144 litT;simp only [o,H,a4r _ h,adv _ _ h,auv _ h,Aa];cases ar1 v with
 | true=>rfl
 | false=>
  cases J:adh (aav v) v with
  | false=>rfl
  | true=>
   rw [a6p];cases I:((aav v==6)||(aav v==8)) with
   | false=>rfl
   | true=>have:=avd h J I;simp only [Af,Ah,Az,ai3 _ (show (ahs v).length<=1048576 by omega),Aa]
theorem a4y (v:PV) (h:ac3 v):(litT v).length<=5000000:=by
 have I:=a2n v h.2.1;have o:=h.2.1;unfold litT;cases ar1 v with
 | true=>grind
 | false=>
  simp only [Ah];cases H:adh (aav v) v with
  | false=>simp
  | true=>
   simp only [Az,Ah];cases o:((aav v==6)||(aav v==8)) with
   | false=>grind
   | true=>have J:=avd h H o;have M:=afz (ahs v);grind
end Go.Ab
