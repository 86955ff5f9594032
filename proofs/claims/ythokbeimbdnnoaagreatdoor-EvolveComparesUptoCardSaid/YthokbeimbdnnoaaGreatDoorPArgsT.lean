/- The numbers, texts, annotations and counts of a file: the same in the program and the specification. -/
import Derived.Test.YthokbeimbdnnoaaGreatDoorPEveryT
set_option linter.unusedVariables false
set_option linter.unusedSimpArgs false
set_option linter.unnecessarySimpa false
namespace Go.Ab
open Go
set_option maxRecDepth 100000
theorem ay1 (v:PV) (h:vLists v<=1048576):IntKind.wrap .i64 ((IntKind.wrap .i64 ((IntKind.wrap .i64 ((((v.fld 3).asList).length:Int)+(((v.fld 4).asList).length:Int)))+(((v.fld 5).asList).length:Int)))+(((v.fld 6).asList).length:Int))=((vLists v:Nat):Int):=by unfold vLists at h ⊢;have o:IntKind.wrap .i64 (((v.fld 3).asList.length:Int)+((v.fld 4).asList.length:Int))=(((v.fld 3).asList.length+(v.fld 4).asList.length:Nat):Int):=wadd (by omega);have z:IntKind.wrap .i64 ((((v.fld 3).asList.length+(v.fld 4).asList.length:Nat):Int)+((v.fld 5).asList.length:Int))=(((v.fld 3).asList.length+(v.fld 4).asList.length+(v.fld 5).asList.length:Nat):Int):=wadd (by omega);have H:IntKind.wrap .i64 ((((v.fld 3).asList.length+(v.fld 4).asList.length+(v.fld 5).asList.length:Nat):Int)+((v.fld 6).asList.length:Int))=(((v.fld 3).asList.length+(v.fld 4).asList.length+(v.fld 5).asList.length+(v.fld 6).asList.length:Nat):Int):=wadd (by omega);rw [o,z,H]
theorem ay0 (a b c d:List PV):(bif (bif (bif ((a.length:Int)==(([]:List PV).length:Int)) then ((b.length:Int)==(([]:List PV).length:Int)) else false) then ((c.length:Int)==(([]:List PV).length:Int)) else false) then ((d.length:Int)==(([]:List PV).length:Int)) else false)=decide (a.length+b.length+c.length+d.length=0):=by cases a<;>cases b<;>cases c<;>cases d<;>simp<;>omega
def isV (k b:Int) (s:Bq) (v:PV):Bool:=(aav v==k)&&(abn v==b)&&(abr v==s)&&decide (vLists v=0)
theorem a2p (v:PV) (k b:Int) (s:Bq):F287 0 v (PV.agg [(PV.int k),(PV.int b),(PV.str s),(PV.slice []),(PV.slice []),(PV.slice []),(PV.slice [])])=some (isV k b s v):=by unfold F287 isV vLists aav abn abr;rw [<-ay0];show some (bif (bif (bif (bif (bif (bif ((v.fld 0).asInt==k) then ((v.fld 1).asInt==b) else false) then ((v.fld 2).asStr==s) else false) then _ else false) then _ else false) then _ else false) then _ else false)=_;generalize ((v.fld 0).asInt==k)=q1;generalize ((v.fld 1).asInt==b)=q2;generalize ((v.fld 2).asStr==s)=q3;cases q1<;>cases q2<;>cases q3<;>rfl
noncomputable def aqs (v:PV):Bool:=(aav v==9)&&aje (abr v)&&(abn v==0)&&decide (vLists v=0)
theorem a2c (v:PV) (H:acv v):F282 0 v=some (aqs v):=by have e:(((vLists v:Nat):Int)==(0:Int))=decide (vLists v=0):=nbeq _ 0;have h:(v.fld 0).asInt=aav v:=rfl;have o:(v.fld 1).asInt=abn v:=rfl;have z:(v.fld 2).asStr=abr v:=rfl;unfold F282 aqs;simp only [ay1 v H.1,e,h,o,z,av5];grind
theorem a1t (v:PV) (z:acv v):F252 0 v=some (aqs v):=by have h:(v.fld 0).asInt=aav v:=rfl;have o:(v.fld 2).asStr=abr v:=rfl;unfold F252 aqs;simp only [h,o,azx (abr v) (by have:=z.2.1;omega),a2p];unfold isV;simp only [beq_self_eq_true,Bool.true_and];cases (aav v==(9:Int))<;>cases aje (abr v)<;>cases (abn v==(0:Int))<;>rfl
theorem a0x {v:PV} (o:acv v):∃ u:Nat,abn v=(u:Int)/\u<18446744073709551616:=by obtain ⟨_,_,h,z⟩:=o;exact ⟨(abn v).toNat,(Int.toNat_of_nonneg h).symm,by omega⟩
def un (l:List PV) (i:Nat):Bq:=((l.getD i .bad).fld 5).asStr
end Go.Ab
namespace Go.Ab
open Go
set_option maxRecDepth 100000
theorem arx (s:Bq) (h:s.length<=1048576):F142 0 s=some (aje s):=by
 unfold F142 aje;rw [afm s (by omega)];cases adz s with
 | true=>simp only [Ae,Af,ahs,Bool.true_and]
 | false=>simp only [Ae,Ah,Bool.false_and]
theorem a1i {s:Bq} (h:akp s=true):s.length<=120:=by unfold akp at h;grind
theorem arw:∀ (m i:Nat) (s:Bq),s.length<=m->s.length+i<=120->(s=[]\/∀ p,p∈aa6 46 s->p≠[])->
 aba (S141_5step 0) (s,(i:Int))=some (bif s==[]||(aa6 46 s).all λx=>!amu x then .inr () else .inl false):=by
 intro m
 induction m with
 | zero=>
  intro i s hm _ _
  have:s=[]:=Bc (by omega)
  subst this
  exact aai (by simp only [S141_5step,S141_5];cases decide ((i:Int)<120)<;>rfl)
 | succ m ih=>
  intro i s hm hs hp
  cases s with
  | nil=>exact aai (by simp only [S141_5step,S141_5];cases decide ((i:Int)<120)<;>rfl)
  | cons c r=>
   have I:((c::r)==([]:Bq))=false:=rfl
   have hi:decide ((i:Int)<120)=true:=Ag (by simp only [Am] at hs;omega)
   obtain ⟨M,z,h1,h2⟩:=atc (c::r) (by omega)
   have O:∀ p,p∈aa6 46 (c::r)->p≠[]:=by
    rcases hp with h | h
    ·cases h
    ·exact h
   have o:S141_5step 0 (c::r,(i:Int))=some (bif amu z then .inr (.inl false) else .inl (M,((i+1:Nat):Int))):=by simp only [S141_5step,S141_5,I,hi,Az,Af,h1,Ae,ahs,aw0 (show i<=9223372036854775000 by omega)];cases amu z<;>rfl
   rcases h2 with ⟨h2,h3⟩ | ⟨rfl,rfl,h3⟩
   ·have ad:M.length<(c::r).length:=by rw [h2];simp
    have J:aa6 46 (c::r)=aa6 46 M++[z]:=by rw [h2,aws,arm _ _ h3]
    have ab:M≠[]:=by intro e;exact O [] (by rw [J,e];simp [aa6]) rfl
    have Z:(M==([]:Bq))=false:=by simpa using ab
    have aa:∀ p,p∈aa6 46 M->p≠[]:=λp h=>O p (by rw [J];simp [h]);have hi:=ih (i+1) M (by omega) (by omega) (Or.inr aa);rw [J,List.all_append,I];rw [Z] at hi;cases H:amu z with
    | true=>rw [H] at o;rw [aai o];simp [H]
    | false=>rw [H] at o;rw [aat o,hi];simp [H]
   ·rw [arm _ _ h3,I];cases H:amu (c::r) with
    | true=>rw [H] at o;rw [aai o];simp [H]
    | false=>rw [H] at o;rw [aat o,aai (y:=.inr ()) (by simp only [S141_5step,S141_5];cases decide (((i+1:Nat):Int)<120)<;>rfl)];simp [H]
theorem awz (s:Bq) (M:s.length<=1048576):F141 0 s=some (defP s):=by
 unfold F141 defP;rw [ahr s M,Ae];cases z:akp s with
 | false=>rfl
 | true=>
  have o:(aa6 46 s).all adz=true:=by unfold akp at z;simp only [Ai] at z;exact z.2
  have I:s≠[]:=by intro e;subst e;simp [aa6,adz] at o
  have H:(s==([]:Bq))=false:=by simpa using I
  have h:=arw s.length 0 s (by omega) (a1i z) (Or.inr λp J=>a2h (List.all_eq_true.1 o p J));simp only [A3,Ah,adw];rw [show (0:Int)=((0:Nat):Int) from rfl,h,H];cases (aa6 46 s).all λx=>!amu x<;>rfl
end Go.Ab
namespace Go.Ab
open Go
set_option maxRecDepth 100000
noncomputable def agl (t:PV):Bq:=
 bif ame (t.fld 0).asInt&&((t.fld 1).asStr==[]) then kw (t.fld 0).asInt else
 bif (((t.fld 0).asInt==0)||((t.fld 0).asInt==9)||((t.fld 0).asInt==10))&&aru (t.fld 1).asStr then (t.fld 1).asStr else []
theorem a0f (t:PV) (h:(t.fld 1).asStr.length<=1048576):F212 0 t=some (agl t):=by grind [F212,agl,a2i,a5u,ayk,ame,asInt,aru]
theorem an1 (t:PV) (h:(t.fld 1).asStr.length<=1048576):F159 0 t=some (agl t):=by unfold F159 agl;simp only [a2m,a7r,a3m _ h,Ae];cases ame (t.fld 0).asInt<;>cases ((t.fld 1).asStr==([]:Bq))<;>cases ((t.fld 0).asInt==(0:Int))<;>cases ((t.fld 0).asInt==(9:Int))<;>cases ((t.fld 0).asInt==(10:Int))<;>cases aru (t.fld 1).asStr<;>rfl
theorem arv (t:PV) (h:(t.fld 1).asStr.length<=1048576):(agl t).length<=1048576:=by have:=ayu (t.fld 0).asInt;unfold agl;grind
noncomputable def litT (v:PV):Bq:=
 bif aqs v then abr v else bif !ac4 (aav v) v then [] else bif (aav v==6)||(aav v==8) then aj0 (ahb v) else ahb v
theorem atu {v:PV} (J:acv v) (h:ac4 (aav v) v=true) (o:((aav v==6)||(aav v==8))=true):(ahb v).length<=100000:=by
 unfold ahb;rw [h];simp only [Af];cases z:aav v==6 with
 | true=>simp only [Af];grind [ah8,aov,abn,aen,decide]
 | false=>rw [z,Bool.false_or] at o;have I:=ahg h (by simpa using o);have H:=afl ((abr v).flatMap λb=>hex2 b.toNat);rw [ahi] at H;grind
theorem a7u (v:PV) (h:acv v):F250 0 v=some (litT v):=by
 have o:(v.fld 0).asInt=aav v:=rfl;have z:(v.fld 2).asStr=abr v:=rfl;unfold F250 litT;simp only [o,z,a2c _ h,akx _ _ h,a3j _ h,Ae];cases aqs v with
 | true=>rfl
 | false=>
  cases I:ac4 (aav v) v with
  | false=>rfl
  | true=>
   rw [a3v];cases H:((aav v==6)||(aav v==8)) with
   | false=>rfl
   | true=>have:=atu h I H;simp only [Af,Ah,A3,apd _ (show (ahb v).length<=1048576 by omega),Ae]
theorem azl (v:PV) (h:acv v):F221 0 v=some (litT v):=by
 have o:(v.fld 0).asInt=aav v:=rfl;have z:(v.fld 2).asStr=abr v:=rfl;unfold F221 litT;simp only [o,z,a1t _ h,adg _ _ h,atd _ h,Ae];cases aqs v with
 | true=>rfl
 | false=>
  cases I:ac4 (aav v) v with
  | false=>rfl
  | true=>
   rw [a3v];cases H:((aav v==6)||(aav v==8)) with
   | false=>rfl
   | true=>have:=atu h I H;simp only [Af,Ah,A3,aih _ (show (ahb v).length<=1048576 by omega),Ae]
theorem a2a (v:PV) (h:acv v):(litT v).length<=5000000:=by
 have H:=a0b v h.2.1;have o:=h.2.1;unfold litT;cases aqs v with
 | true=>grind
 | false=>
  simp only [Ah];cases z:ac4 (aav v) v with
  | false=>simp
  | true=>
   simp only [A3,Ah];cases o:((aav v==6)||(aav v==8)) with
   | false=>grind
   | true=>have I:=atu h z o;have J:=afl (ahb v);grind
end Go.Ab
