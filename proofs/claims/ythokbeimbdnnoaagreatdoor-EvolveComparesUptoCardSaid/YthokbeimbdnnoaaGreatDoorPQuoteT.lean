/- Quoting: the program's and the specification's are the same. -/
import Derived.Test.YthokbeimbdnnoaaGreatDoorPName0T
set_option linter.unusedVariables false
set_option linter.unusedSimpArgs false
set_option linter.unnecessarySimpa false
namespace Go.Ab
open Go
set_option maxRecDepth 100000
theorem nbeq (a b:Nat):((a:Int)==(b:Int))=decide (a=b):=by
 by_cases h:a=b
 ·simp [h]
 ·simp [h];omega
theorem ajt {n:Nat} (h:n<=4611686018427387904):decide (n<=aan)=true:=Ag h
theorem avm:((List.range 256).all λb=>F167 0 (b:Int)==some (92::120::hex2 b))=true:=by kernel_rfl
theorem axz {b:Nat} (h:b<256):F167 0 (b:Int)=some (92::120::hex2 b):=by have:=List.all_eq_true.1 avm b (List.mem_range.2 h);simpa using this
theorem a2g:((List.range 256).all λb=>F110 0 (b:Int)==some (hex2 b))=true:=by kernel_rfl
theorem azf {b:Nat} (h:b<256):F110 0 (b:Int)=some (hex2 b):=by have:=List.all_eq_true.1 a2g b (List.mem_range.2 h);simpa using this
theorem a5k (s:Bq) (i:Nat) (H:i<s.length):F103 0 s (i:Int) ((aap s i).1:Int)=some (ah4 s i):=by
 unfold F103 ah4;have hw:=au4 s i H;have hb:((s.getD ((i:Int)).toNat 0).toNat:Int)=(byteAt s i:Int):=rfl;have he:=axz (abz s i);have hr:aaa (i:Int) s.length=true:=by rw [aab,Ag H]
 have Z:(((aap s i).1:Int)==(34:Int))=decide ((aap s i).1=34):=nbeq _ 34;have aa:(((aap s i).1:Int)==(92:Int))=decide ((aap s i).1=92):=nbeq _ 92;have J:(((aap s i).1:Int)==(10:Int))=decide ((aap s i).1=10):=nbeq _ 10;have k9:(((aap s i).1:Int)==(9:Int))=decide ((aap s i).1=9):=nbeq _ 9;have M:(((aap s i).1:Int)==(13:Int))=decide ((aap s i).1=13):=nbeq _ 13;have z:(((aap s i).1:Int)==(127:Int))=decide ((aap s i).1=127):=nbeq _ 127;have O:decide (((aap s i).1:Int)<(32:Int))=decide ((aap s i).1<32):=adp _ 32;simp only [Z,aa,J,k9,M,z,O,hw,hr,hb,he,Af,Ae];by_cases h:byteAt s i<128
 ·rw [aep s i h,aj2 s i h];have o:=aio s i H (by rw [aj2 s i h];decide);rw [aep s i h,aj2 s i h] at o;simp only [o];by_cases c1:byteAt s i=34
  ·simp [c1]
  by_cases c2:byteAt s i=92
  ·simp [c2]
  by_cases c3:byteAt s i=10
  ·simp [c3]
  by_cases c4:byteAt s i=9
  ·simp [c4]
  by_cases c5:byteAt s i=13
  ·simp [c5]
  simp only [c1,c2,c3,c4,c5,decide_false,Ah,A8];by_cases c6:byteAt s i<32
  ·simp [c6]
  ·by_cases c7:byteAt s i=127
   ·simp [c7]
   ·simp [c6,c7]
 ·have hh:=aln s i (by omega);have d1:decide ((aap s i).1=34)=false:=An (by omega);have d2:decide ((aap s i).1=92)=false:=An (by omega);have d3:decide ((aap s i).1=10)=false:=An (by omega);have d4:decide ((aap s i).1=9)=false:=An (by omega);have d5:decide ((aap s i).1=13)=false:=An (by omega);have d6:decide ((aap s i).1=127)=false:=An (by omega);have d7:decide ((aap s i).1<32)=false:=An (by omega);have e1:¬byteAt s i=34:=by omega
  have e2:¬byteAt s i=92:=by omega
  have e3:¬byteAt s i=10:=by omega
  have e4:¬byteAt s i=9:=by omega
  have e5:¬byteAt s i=13:=by omega
  have e6:¬byteAt s i=127:=by omega
  have e7:¬byteAt s i<32:=by omega
  simp only [d1,d2,d3,d4,d5,d6,d7,e1,e2,e3,e4,e5,e6,e7,Ah,Az,Af,Ae,A8,false_or];by_cases I:sizeAt s i=0
  ·simp [I]
  ·simp only [I,decide_false,Ah,A8];rw [aio s i H I]
theorem awh (s:Bq):∀ (m i:Nat) (acc:Bq),s.length-i<=m->i<=s.length->acc.length+4*(s.length-i)<=140737488355328->
 ∃ z,aba (S53_5step 0) (s,(),(),acc,s,(i:Int))=some ((),acc++abt s i,s,z):=by
 intro m
 induction m with
 | zero=>
  intro i acc M I H
  have h:¬i<s.length:=by omega
  rw [abt,if_neg h]
  refine ⟨(i:Int),aai ?_⟩
  simp only [S53_5step,S53_5,Aj,h,decide_false,Ah,List.append_nil]
 | succ m ih=>
  intro i acc M I H
  by_cases h:i<s.length
  ·have hp:=amc s i h;have hl:=aj4 s i h;have J:=af5 s i;obtain ⟨z,Z⟩:=ih (i+ac1 s i) (acc++ah4 s i) (by omega) (by omega) (by rw [Ak];omega);refine ⟨z,?_⟩;rw [abt,if_pos h,<-Ap,<-Z];refine aat ?_;have O:Nat.ble (acc.length+(ah4 s i).length) 140737488355328=true:=by rw [Nat.ble_eq];omega
   simp only [S53_5step,S53_5,Aj,h,decide_true,Af,agt,a5k s i h,a3q s i h,Ae,abo,O]
  ·have o:¬i<s.length:=h;rw [abt,if_neg h];refine ⟨(i:Int),aai ?_⟩;simp only [S53_5step,S53_5,Aj,h,decide_false,Ah,List.append_nil]
theorem afl (s:Bq):(aj0 s).length<=4*s.length+2:=by have:=af2 s s.length 0 (by omega);simp [aj0];omega
theorem apd (s:Bq) (J:s.length<=1048576):F53 0 s=some (aj0 s):=by
 obtain ⟨z,h⟩:=awh s s.length 0 [34] (by omega) (by omega) (by simp;omega);have I:=af2 s s.length 0 (by omega);unfold F53;have o:abo 0 ([34]:Bq) []=some (1,.nilIface,[34]):=rfl;have H:Nat.ble (([34]++abt s 0).length+1) 140737488355328=true:=by rw [Nat.ble_eq];simp;omega
 simp only [o,Ae,adw,h];simp only [abo,Am,Ao,Nat.zero_add,H,Af,Ae,aoa];simp [aj0]
theorem apg (s:Bq) (hs:s.length<=9223372036854775000) (i:Nat) (acc:Bq) (H:i<s.length) (hb:acc.length<=4611686018427380000):
 S57_4step 0 (s,acc,(i:Int))=some (.inl (s,acc++ah4 s i,((i+ac1 s i:Nat):Int))):=by
 have hz:=amp s i H
 have M:((s.getD i 0).toNat:Int)=(byteAt s i:Int):=rfl
 have hr:aaa (i:Int) s.length=true:=by rw [aab,Ag H]
 have af:((byteAt s i:Int)==(34:Int))=decide (byteAt s i=34):=nbeq _ 34
 have ag:((byteAt s i:Int)==(92:Int))=decide (byteAt s i=92):=nbeq _ 92
 have ab:((byteAt s i:Int)==(10:Int))=decide (byteAt s i=10):=nbeq _ 10
 have k9:((byteAt s i:Int)==(9:Int))=decide (byteAt s i=9):=nbeq _ 9
 have ad:((byteAt s i:Int)==(13:Int))=decide (byteAt s i=13):=nbeq _ 13
 have z:((byteAt s i:Int)==(127:Int))=decide (byteAt s i=127):=nbeq _ 127
 have ae:decide ((byteAt s i:Int)<(32:Int))=decide (byteAt s i<32):=adp _ 32
 have k0:((sizeAt s i:Int)==(0:Int))=decide (sizeAt s i=0):=nbeq _ 0
 have w1:IntKind.wrap .i64 ((i:Int)+(1:Int))=((i+1:Nat):Int):=arz (by omega)
 have w2:IntKind.wrap .i64 ((i:Int)+(sizeAt s i:Int))=((i+sizeAt s i:Nat):Int):=wadd (by omega)
 have O:decide ((0:Int)<=(i:Int)/\(i:Int)<=((i+sizeAt s i:Nat):Int)/\((i+sizeAt s i:Nat):Int)<=(s.length:Int))=true:=Ag (by omega)
 have aa:(s.take (i+sizeAt s i)).drop i=(s.drop i).take (sizeAt s i):=by rw [List.drop_take];congr 1;omega
 have Z:(bif decide (sizeAt s i=0) then ((i+1:Nat):Int) else ((i+sizeAt s i:Nat):Int))=((i+ac1 s i:Nat):Int):=by
  unfold ac1;by_cases h:sizeAt s i=0
  ·simp [h]
  ·simp [h]
 have o:∀ t:Bq,(bif decide (sizeAt s i=0) then some (Sum.inl (s,t,((i+1:Nat):Int))) else some (Sum.inl (s,t,((i+sizeAt s i:Nat):Int))))=(some (.inl (s,t,((i+ac1 s i:Nat):Int))):Option ((Bq×Bq×Int)⊕((Bq)))):=by intro t;rw [<-Z];cases decide (sizeAt s i=0)<;>rfl
 simp only [S57_4step,S57_4,adp,H,decide_true,Af,azy s i H hs,Ae,hr,M,af,ag,ab,k9,ad,z,ae,k0,w1,w2,O,Aj,aa,azf (abz s i)]
 unfold ah4
 have l2:∀ a b:UInt8,decide (acc.length+[a,b].length<=aan)=true:=λa b=>ajt (by simp;omega)
 have l4:∀ a b c d:UInt8,decide ((acc++[a,b]).length+[c,d].length<=aan)=true:=λa b c d=>ajt (by simp;omega)
 have ls:decide (acc.length+((s.drop i).take (sizeAt s i)).length<=aan)=true:=ajt (by simp;omega)
 have l5:decide (acc.length+2+2<=aan)=true:=ajt (by omega)
 simp only [l2,ls,hex2,l4,Af,o]
 by_cases c1:byteAt s i=34
 ·simp [c1]
 by_cases c2:byteAt s i=92
 ·simp [c2]
 by_cases c3:byteAt s i=10
 ·simp [c3]
 by_cases c4:byteAt s i=9
 ·simp [c4]
 by_cases c5:byteAt s i=13
 ·simp [c5]
 simp only [c1,c2,c3,c4,c5,decide_false,Ah,A8]
 by_cases I:byteAt s i<32
 ·simp [I,l5]
 ·by_cases J:byteAt s i=127
  ·simp [J,l5]
  ·by_cases c8:sizeAt s i=0
   ·simp [I,J,c8,l5]
   ·simp [I,J,c8]
theorem apf (s:Bq) (Z:s.length<=1048576):∀ (m i:Nat) (acc:Bq),s.length-i<=m->i<=s.length->acc.length+4*(s.length-i)<=140737488355328->
 aba (S57_4step 0) (s,acc,(i:Int))=some (acc++abt s i):=by
 intro m
 induction m with
 | zero=>
  intro i acc I z o
  have h:¬i<s.length:=by omega
  rw [abt,if_neg h]
  refine aai ?_
  simp only [S57_4step,S57_4,adp,h,decide_false,Ah,List.append_nil]
 | succ m J=>
  intro i acc I z o
  by_cases h:i<s.length
  ·have O:=amc s i h;have M:=aj4 s i h;have H:=af5 s i;rw [abt,if_pos h,<-Ap,<-J (i+ac1 s i) (acc++ah4 s i) (by omega) (by omega) (by rw [Ak];omega)];exact aat (apg s (by omega) i acc h (by omega))
  ·rw [abt,if_neg h];refine aai ?_;simp only [S57_4step,S57_4,adp,h,decide_false,Ah,List.append_nil]
theorem aih (s:Bq) (h:s.length<=1048576):F57 0 s=some (aj0 s):=by have o:=apf s h s.length 0 [34] (by omega) (by omega) (by simp;omega);have z:=af2 s s.length 0 (by omega);unfold F57;rw [adw,show (0:Int)=((0:Nat):Int) from rfl,o,Ae,ajt (by simp;omega)];simp [aj0]
end Go.Ab
namespace Go.Ab
open Go
theorem beqI {a b:Int} (h:a≠b):(a==b)=false:=by simp [h]
theorem beqT {a b:Int} (h:a=b):(a==b)=true:=by simp [h]
theorem aq5 {h:Type} (b:Bool) (x y:h):(bif b then some x else some y)=some (bif b then x else y):=by cases b<;>rfl
noncomputable def ag0 (h:Bq):Int:=(F244 0 h).getD 0
theorem anz (h:Bq):F244 0 h=some (ag0 h):=by unfold ag0;simp only [F244,aq5,Option.getD_some]
noncomputable def auh (o:Bq) (h:Int):Bool:=(F245 0 o h).getD false
theorem awi (o:Bq) (h:Int):F245 0 o h=some (auh o h):=by unfold auh;simp only [F245,aq5,Option.getD_some]
def aav (v:PV):Int:=(v.fld 0).asInt
def abn (v:PV):Int:=(v.fld 1).asInt
def abr (v:PV):Bq:=(v.fld 2).asStr
def vLists (v:PV):Nat:=(v.fld 3).asList.length+(v.fld 4).asList.length+(v.fld 5).asList.length+(v.fld 6).asList.length
def acv (v:PV):Prop:=vLists v<=1048576/\(abr v).length<=1048576/\0<=abn v/\abn v<18446744073709551616
def alw (k:Int):Bool:=decide (1<=k/\k<=9)
def aev (k:Int):Bool:=k==7||k==8
def amg (k h:Int):Bool:=
 if k=1 then decide (h<=1) else if k=2 then decide (-2147483648<=IntKind.wrap .i64 h/\IntKind.wrap .i64 h<=2147483647) else if k=4 then decide (h<4294967296) else if k=9 then decide (h<2147483648) else true
def ac4 (k:Int) (v:PV):Bool:=
 alw k&&(aav v==k)&&decide (vLists v=0)&&(if aev k then (abn v==0)&&decide ((abr v).length<=4096)&&((k==8)||valid (abr v)) else (abr v==[])&&amg k (abn v))
theorem a7t (a b c d:List PV):(bif (bif (bif ((a.length:Int)==(0:Int)) then ((b.length:Int)==(0:Int)) else false) then ((c.length:Int)==(0:Int)) else false) then ((d.length:Int)==(0:Int)) else false)=decide (a.length+b.length+c.length+d.length=0):=by cases a<;>cases b<;>cases c<;>cases d<;>simp<;>omega
theorem adg (k:Int) (v:PV) (hs:acv v):F104 0 k v=some (ac4 k v):=by
 have hv:F150 0 (abr v)=some (valid (abr v)):=amm _ (by have:=hs.2.1;omega);have e0:(v.fld 0).asInt=aav v:=rfl;have e1:(v.fld 1).asInt=abn v:=rfl;have e2:(v.fld 2).asStr=abr v:=rfl;have i1:(bif decide (k>=(1:Int)) then decide (k<=(9:Int)) else false)=alw k:=by unfold alw;by_cases h:k>=1<;>simp [h]<;>omega
 have i2:(bif (k==(7:Int)) then true else (k==(8:Int)))=aev k:=by unfold aev;cases (k==7)<;>rfl
 unfold F104 F168 F169 F170;simp only [Ae,a7t,i1,i2,e0,e1,e2,hv,gb];unfold ac4;have eL:(v.fld 3).asList.length+(v.fld 4).asList.length+(v.fld 5).asList.length+(v.fld 6).asList.length=vLists v:=rfl;simp only [eL];cases h1:alw k
 ·simp
 cases h2:(aav v==k)
 ·have:(aav v != k)=true:=by simp [bne,h2]
  simp [this]
 have o:(aav v != k)=false:=by simp [bne,h2]
 simp only [o,A3,Ah,Az,Bool.true_and,Af];cases h3:decide (vLists v=0)
 ·simp
 simp only [A3,Ah,Bool.true_and];cases h4:aev k
 ·simp only [Ah,A7,A8];cases h5:(abr v==[])
  ·simp
  simp only [A3,Ah,Bool.true_and];unfold amg;by_cases z:k=1
  ·subst z;simp
  have H:(k==1)=false:=by simp [z]
  simp only [H,Ah,if_neg z];by_cases I:k=2
  ·subst I;simp only [beq_self_eq_true,Af,Ba,ge_iff_le,Bool.decide_and];cases decide (-2147483648<=IntKind.wrap .i64 (abn v))<;>rfl
  have J:(k==2)=false:=by simp [I]
  simp only [J,Ah,if_neg I];by_cases M:k=4
  ·subst M;simp
  have O:(k==4)=false:=by simp [M]
  simp only [O,Ah,if_neg M];by_cases Z:k=9
  ·subst Z;simp
  have aa:(k==9)=false:=by simp [Z]
  simp only [aa,Ah,if_neg Z]
 ·simp only [Af,Ba];have hl:decide (((abr v).length:Int)<=4096)=decide ((abr v).length<=4096):=by simp;omega
  simp only [hl];cases (abn v==0)<;>cases decide ((abr v).length<=4096)<;>cases (k==8)<;>simp
theorem akx (k:Int) (v:PV) (hs:acv v):F283 0 k v=some (ac4 k v):=by
 have hv:F306 0 (abr v)=some (valid (abr v)):=a3o _;have Z:(v.fld 0).asInt=aav v:=rfl;have e1:(v.fld 1).asInt=abn v:=rfl;have e2:(v.fld 2).asStr=abr v:=rfl;have i1:(bif decide (k>=(1:Int)) then decide (k<=(9:Int)) else false)=alw k:=by grind [alw]
 have eL:(v.fld 3).asList.length+(v.fld 4).asList.length+(v.fld 5).asList.length+(v.fld 6).asList.length=vLists v:=rfl;have hL:=hs.1;have w1:IntKind.wrap .i64 (((v.fld 3).asList.length:Int)+((v.fld 4).asList.length:Int))=(((v.fld 3).asList.length+(v.fld 4).asList.length:Nat):Int):=wadd (by grind);have w2:IntKind.wrap .i64 ((((v.fld 3).asList.length+(v.fld 4).asList.length:Nat):Int)+((v.fld 5).asList.length:Int))=(((v.fld 3).asList.length+(v.fld 4).asList.length+(v.fld 5).asList.length:Nat):Int):=wadd (by grind);have w3:IntKind.wrap .i64 ((((v.fld 3).asList.length+(v.fld 4).asList.length+(v.fld 5).asList.length:Nat):Int)+((v.fld 6).asList.length:Int))=(((v.fld 3).asList.length+(v.fld 4).asList.length+(v.fld 5).asList.length+(v.fld 6).asList.length:Nat):Int):=wadd (by grind);have tk:∀ k:Int,(bif (k==(7:Int)) then true else (k==(8:Int)))=aev k:=λk=>by grind [aev]
 unfold F283 F303 F304 F305 F317;simp only [Ae,i1,tk,Z,e1,e2,hv,gb,w1,w2,w3,eL];have h:(bif (k==(1:Int)) then some (decide (abn v<=1)) else bif (k==(2:Int)) then some (bif decide (IntKind.wrap .i64 (abn v)>=-2147483648) then decide (IntKind.wrap .i64 (abn v)<=2147483647) else false) else
  bif (k==(9:Int)) then some (decide (abn v<=2147483647)) else bif (k==(4:Int)) then some (decide (abn v<=4294967295)) else some true)=some (amg k (abn v)):=by
  unfold amg
  by_cases I:k=1
  ·subst I;simp
  have J:(k==1)=false:=by simp [I]
  simp only [J,Ah,if_neg I]
  by_cases k2:k=2
  ·grind
  grind
 rw [h];unfold ac4;cases h1:alw k
 ·simp
 cases O:(aav v==k)
 ·grind
 have aa:(aav v != k)=false:=by simp [bne,O]
 have o:aav v=k:=by simpa using O
 rw [o];have z:(k != k)=false:=by simp
 simp only [z,A3,Ah,Az,Bool.true_and,Af];by_cases h3:vLists v=0
 ·have H:decide ((vLists v:Int)>0)=false:=by simp;omega
  simp only [H,Ah,h3,decide_true,Bool.true_and];have hl:decide (((abr v).length:Int)>4096)=!decide ((abr v).length<=4096):=by grind
  cases h4:aev k
  ·simp only [Ah,A7,A8,Ae];have k7:(k != 7)=true:=by
    grind
   all_goals grind
  ·simp only [Af,Ba,Ae];have hr:amg k (abn v)=true:=by
    all_goals grind
   simp only [hr,hl];have M:k=7\/k=8:=by all_goals grind
   rcases M with rfl | rfl;all_goals grind
 grind
def ael (n:PV):Bq:=(n.fld 0).asStr
def nVal (n:PV):PV:=n.fld 1
noncomputable def auy (n:PV):Bool:=(ag0 (ael n) != 0)&&ac4 (ag0 (ael n)) (nVal n)
def agd (n:PV):Prop:=acv (nVal n)/\(ael n).length<=1048576
theorem avv {k:Int}{v:PV} (h:(aav v==k)=false):ac4 k v=false:=by grind [ac4]
theorem atb (n:PV) (H:agd n):F246 0 n=some (auy n):=by
 unfold F246;have e:(n.fld 0).asStr=ael n:=rfl;have o:n.fld 1=nVal n:=rfl;have z:((nVal n).fld 0).asInt=aav (nVal n):=rfl;simp only [e,o,z,anz,Ae,adg _ _ H.1,gb];unfold auy;cases h:(aav (nVal n)==ag0 (ael n))
 ·rw [avv h];cases (ag0 (ael n) != 0)<;>rfl
 ·cases (ag0 (ael n) != 0)<;>rfl
noncomputable def chk1 (n:PV) (t:Int) (h:Bq) (o:Bool):Int:=
 if ag0 (ael n)=0 then 8 else if auh (ael n) t=false then 1 else if auy n=false then 12 else if o&&Op.bytesLess (ael n) h then 11 else if o&&(ael n==h) then 9 else 0
noncomputable def chkL (t:Int):List PV->Bq->Bool->Int
 | [],_,_=>0
 | n::r,last,ok=>if chk1 n t last ok=0 then chkL t r (ael n) true else chk1 n t last ok
noncomputable def aua (l:List PV) (t:Int):Int:=if l.length>8 then 3 else chkL t l [] false
theorem ape (l:List PV) (t:Int) (hl:l.length<=1048576) (hs:∀ n,n∈l->agd n):∀ (m i:Nat) (h:Bq),l.length-i<=m->i<=l.length->(0<i->h=ael (l.getD (i-1) .bad))->
 aba (S210_5step 0) (l,t,(i:Int))=some (bif decide (chkL t (l.drop i) h (decide (0<i))=0) then .inr () else .inl (chkL t (l.drop i) h (decide (0<i)))):=by
 intro m
 induction m with
 | zero=>
  intro i h hm hi _
  have o:¬i<l.length:=by omega
  rw [Bb (by omega)]
  exact aai (by simp only [S210_5step,S210_5,adp,o,decide_false,Ah];rfl)
 | succ m ih=>
  intro i h hm hi z
  by_cases o:i<l.length
  ·rw [abc o .bad,chkL];have I:l.getD i .bad∈l:=by rw [aaf o];exact List.getElem_mem _
   have hg:decide ((i:Int)>0)=decide (0<i):=by rw [decide_eq_decide];omega
   have hr:=atb (l.getD i .bad) (hs _ I);have en:((l.getD i .bad).fld 0).asStr=ael (l.getD i .bad):=rfl;have step:S210_5step 0 (l,t,(i:Int))=some (if chk1 (l.getD i .bad) t h (decide (0<i))=0 then .inl (l,t,((i+1:Nat):Int)) else .inr (.inl (chk1 (l.getD i .bad) t h (decide (0<i))))):=by
    simp only [S210_5step,S210_5,adp,aab,o,decide_true,Af,Aj,hg,en,anz,awi,hr,Ae,arz (i:=i) (by omega)];unfold chk1;by_cases J:ag0 (ael (l.getD i .bad))=0
    ·have:(ag0 (ael (l.getD i .bad))==(0:Int))=true:=beqT J;rw [this,Af,if_pos J];rfl
    ·have:(ag0 (ael (l.getD i .bad))==(0:Int))=false:=beqI J;rw [this,Ah,if_neg J];cases auh (ael (l.getD i .bad)) t
     ·rfl
     ·simp only [A3,Ah,Bool.true_eq_false,A8];cases auy (l.getD i .bad)
      ·rfl
      ·simp only [A3,Ah,Bool.true_eq_false,A8];by_cases Z:0<i
       ·have w:IntKind.wrap .i64 ((i:Int)-(1:Int))=((i-1:Nat):Int):=by
         rw [show (i:Int)-1=((i-1:Nat):Int) by omega];exact aa9 (by omega)
        have H:i-1<l.length:=by omega
        have el:ael (l.getD (i-1) .bad)=h:=(z Z).symm;have M:((l.getD (i-1) .bad).fld 0).asStr=h:=el;simp only [Z,decide_true,imp,Af,w,aab,H,Aj,M,Bool.true_and];cases Op.bytesLess (ael (l.getD i .bad)) h<;>cases (ael (l.getD i .bad)==h)<;>rfl
       ·simp only [Z,decide_false,imp,Ah,Az,Af,aqb,Bool.false_and,A7,A8,Ba]
   by_cases O:chk1 (l.getD i .bad) t h (decide (0<i))=0
   ·rw [if_pos O] at step ⊢;rw [aat step,ih (i+1) (ael (l.getD i .bad)) (by omega) (by omega) (λ_=>rfl),Ag (show 0<i+1 by omega)]
   ·rw [if_neg O] at step ⊢;rw [An O];exact aai step
  ·rw [Bb (by omega)];exact aai (by simp only [S210_5step,S210_5,adp,o,decide_false,Ah];rfl)
theorem ata (l:List PV) (t:Int) (I:l.length<=1048576) (J:∀ n,n∈l->agd n):F210 0 l t=some (aua l t):=by
 have h:=ape l t I J l.length 0 [] (by omega) (by omega) (λh=>by omega);unfold F210 aua;have H:decide ((l.length:Int)>8)=decide (l.length>8):=by rw [decide_eq_decide];omega
 rw [H,adw,show (0:Int)=((0:Nat):Int) from rfl,h];by_cases z:l.length>8
 ·simp [z]
 ·simp only [z,decide_false,Ah,A8,As,Nat.lt_irrefl];by_cases o:chkL t l [] false=0
  ·rw [o];rfl
  ·rw [An o];rfl
end Go.Ab
namespace Go.Ab
open Go
set_option maxRecDepth 100000
theorem dig (d:Nat) (h:d<10):[PV.int (IntKind.wrap .u8 (IntKind.wrap .u64 ((48:Int)+(d:Int))))].map aax=[UInt8.ofNat (48+d)]:=by
 have:IntKind.wrap .u8 (IntKind.wrap .u64 ((48:Int)+(d:Int)))=((48+d:Nat):Int):=by rw [IntKind.wrap_u64,IntKind.wrap_u8];omega
 rw [this];rfl
def preD (u:Nat):Bq:=if u<10 then [] else Lib.decDigits (u / 10)
theorem azi (u:Nat):preD u++[UInt8.ofNat (48+u%10)]=Lib.decDigits u:=by
 have e:=Lib.decDigits.eq_1 u;unfold preD;rw [e];by_cases h:u<10
 ·rw [if_pos h,dif_pos h,Nat.mod_eq_of_lt h];rfl
 ·rw [if_neg h,dif_neg h]
theorem aqe:∀ (k u:Nat) (acc:Bq),u<10^(k+1)->u<18446744073709551616->acc.length+k<=1000->aba (S105_3step 0) ((u:Int),acc)=some (preD u++acc):=by
 intro k;induction k with
 | zero=>intro u acc z _ _;have o:decide ((u:Int)>=(10:Int))=false:=An (by omega);rw [preD,if_pos (by omega)];exact aai (by simp only [S105_3step,S105_3,o,Ah];rfl)
 | succ k Z=>
  intro u acc z H hb;by_cases h:u<10
  ·have o:decide ((u:Int)>=(10:Int))=false:=An (by omega);rw [preD,if_pos h];exact aai (by simp only [S105_3step,S105_3,o,Ah];rfl)
  ·have o:decide ((u:Int)>=(10:Int))=true:=Ag (by omega);have O:IntKind.wrap .u64 ((u:Int).tdiv (10:Int))=((u / 10:Nat):Int):=by
    rw [show (u:Int).tdiv (10:Int)=((u / 10:Nat):Int) from rfl,IntKind.wrap_u64];omega
   have J:((u / 10:Nat):Int).tmod (10:Int)=((u / 10%10:Nat):Int):=rfl;have M:preD u++acc=preD (u / 10)++(UInt8.ofNat (48+u / 10%10)::acc):=by have:=azi (u / 10);rw [show preD u=Lib.decDigits (u / 10) by rw [preD,if_neg h],<-this,Ap];rfl
   rw [M,<-Z (u / 10) (UInt8.ofNat (48+u / 10%10)::acc) (by rw [Nat.pow_succ] at z;omega) (by omega) (by simp;omega)];refine aat ?_;have I:decide ([UInt8.ofNat (48+u / 10%10)].length+acc.length<=aan)=true:=ajt (by simp;omega);simp only [S105_3step,S105_3,o,O,J,dig _ (Nat.mod_lt _ (by decide:0<10)),I,Af];rfl
theorem ann (u:Nat) (o:u<18446744073709551616):F105 0 (u:Int)=some (decB u):=by unfold F105;have h:((u:Nat):Int).tmod (10:Int)=((u%10:Nat):Int):=rfl;rw [h,dig _ (Nat.mod_lt _ (by decide:0<10)),adw,aqe 19 u _ (by omega) o (by simp),azi,aok (by omega)];rfl
theorem a08:∀ (f u:Nat),(decF f u).length<=f:=by
 intro f;induction f with
 | zero=>intro u;simp [decF]
 | succ f h=>
  intro u;unfold decF;cases Nat.ble u 9 with
  | true=>simp
  | false=>have:=h (u / 10);simp;omega
theorem akv (u:Nat):(decB u).length<=20:=a08 20 u
theorem ayp (n:Int):(akq n).length<=21:=by
 unfold akq;have h:=akv n.natAbs;have o:=akv n.toNat;cases decide (n<0) with
 | true=>simp;omega
 | false=>simp;omega
def aps (v:PV):Bq:=
 bif ac4 (aav v) v then
  (bif aav v==1 then (bif abn v==1 then [116,114,117,101] else [102,97,108,115,101])
  else bif aav v==2 then akq (IntKind.wrap .i64 (abn v)) else bif aav v==3 then akq (IntKind.wrap .i64 (abn v)) else bif aav v==7 then aj0 (abr v) else decB (abn v).toNat)
 else []
theorem a2b (n:Int) (h:-9223372036854775808<=n) (o:n<=9223372036854775807):apy 0 n=some (akq n):=by unfold apy;rw [Ag h,Ag o];rfl
theorem wrapI (u:Nat) (h:u<18446744073709551616):-9223372036854775808<=IntKind.wrap .i64 (u:Int)/\IntKind.wrap .i64 (u:Int)<=9223372036854775807:=by rw [IntKind.wrap_i64];omega
theorem a6q (v:PV) (hs:acv v) (h6:aav v≠6) (h8:aav v≠8):F284 0 v=some (aps v):=by
 obtain ⟨_,J,h,z⟩:=hs;obtain ⟨u,hu⟩:∃ u:Nat,abn v=(u:Int):=⟨(abn v).toNat,(Int.toNat_of_nonneg h).symm⟩;have o:u<18446744073709551616:=by omega
 have I:=wrapI u o;have M:(v.fld 0).asInt=aav v:=rfl;have O:(v.fld 1).asInt=abn v:=rfl;have Z:(v.fld 2).asStr=abr v:=rfl;have k6:(aav v==(6:Int))=false:=beqI h6;have k8:(aav v==(8:Int))=false:=beqI h8;have H:au8 0 (u:Int) (10:Int)=some (decB u):=by unfold au8;rw [Ag (by omega),Ag (by omega)];simp
 have hf:Lfmt 0 (u:Int) (10:Int)=some (decB u):=H;unfold F284 aps;simp only [M,O,Z,akx _ _ ⟨by assumption,J,h,z⟩,Ae,k6,k8,Ah,apd _ J,hu,a2b _ I.1 I.2,F310,hf,Aj,F307,F319];generalize akq (IntKind.wrap .i64 (u:Int))=x1;generalize aj0 (abr v)=x2;generalize decB u=x3;generalize ac4 (aav v) v=q0;generalize (aav v==(1:Int))=q1;generalize (aav v==(2:Int))=q2;generalize (aav v==(3:Int))=q3;generalize (aav v==(7:Int))=q7;generalize ((u:Int)==(1:Int))=q;cases q0<;>cases q1<;>cases q2<;>cases q3<;>cases q7<;>cases q<;>rfl
theorem awj (v:PV) (hs:acv v) (h6:aav v≠6) (h8:aav v≠8):F56 0 v=some (aps v):=by
 obtain ⟨_,ht,o,O⟩:=hs;obtain ⟨u,hu⟩:∃ u:Nat,abn v=(u:Int):=⟨(abn v).toNat,(Int.toNat_of_nonneg o).symm⟩;have z:u<18446744073709551616:=by omega
 have e0:(v.fld 0).asInt=aav v:=rfl;have e1:(v.fld 1).asInt=abn v:=rfl;have e2:(v.fld 2).asStr=abr v:=rfl;have k6:(aav v==(6:Int))=false:=beqI h6;have k8:(aav v==(8:Int))=false:=beqI h8;have Z:(bif decide ((u:Int)>=(9223372036854775808:Int)) then (F105 0 (IntKind.wrap .u64 (0-(u:Int)))).bind λH=>bif decide (([45]:Bq).length+H.length<=aan) then some (([45]:Bq)++H) else none
  else some (decB u))=some (akq (IntKind.wrap .i64 (u:Int))):=by
  unfold akq
  by_cases h:u<9223372036854775808
  ·have I:decide ((u:Int)>=(9223372036854775808:Int))=false:=An (by omega);have J:IntKind.wrap .i64 (u:Int)=(u:Int):=by rw [IntKind.wrap_i64];omega
   have M:decide ((u:Int)<0)=false:=An (by omega);simp only [I,J,M,Ah,Aj]
  ·have hw:IntKind.wrap .u64 (0-(u:Int))=((18446744073709551616-u:Nat):Int):=by rw [IntKind.wrap_u64];omega
   have hl:=akv (18446744073709551616-u);have I:decide ((u:Int)>=(9223372036854775808:Int))=true:=Ag (by omega);have J:IntKind.wrap .i64 (u:Int)=(u:Int)-18446744073709551616:=by rw [IntKind.wrap_i64];omega
   have M:decide ((u:Int)-18446744073709551616<0)=true:=Ag (by omega);have d4:((u:Int)-18446744073709551616).natAbs=18446744073709551616-u:=by omega
   have d5:=ann (18446744073709551616-u) (by omega);simp only [I,J,M,d4,hw,d5,Af,Ae];generalize decB (18446744073709551616-u)=x at hl;rw [ajt (by simp;omega)];rfl
 unfold F56 aps;simp only [e0,e1,e2,adg _ _ ⟨by assumption,ht,o,O⟩,Ae,k6,k8,Ah,aih _ ht,hu,Z,ann u z,Aj];generalize akq (IntKind.wrap .i64 (u:Int))=x1;generalize aj0 (abr v)=x2;generalize decB u=x3;generalize ac4 (aav v) v=q0;generalize (aav v==(1:Int))=q1;generalize (aav v==(2:Int))=q2;generalize (aav v==(3:Int))=q3;generalize (aav v==(7:Int))=q7;generalize ((u:Int)==(1:Int))=q;cases q0<;>cases q1<;>cases q2<;>cases q3<;>cases q7<;>cases q<;>rfl
theorem a0a (v:PV) (H:(abr v).length<=1048576):(aps v).length<=4194400:=by have h:=afl (abr v);have o:=akv (abn v).toNat;have z:=ayp (IntKind.wrap .i64 (abn v));unfold aps;cases ac4 (aav v) v<;>cases (aav v==(1:Int))<;>cases (aav v==(2:Int))<;>cases (aav v==(3:Int))<;>cases (aav v==(7:Int))<;>cases (abn v==(1:Int))<;>simp only [Af,Ah,Am,Ao]<;>omega
end Go.Ab
