/- Quoting: the program's and the specification's are the same. -/
import Derived.Test.YtjogoleiodbfdaaGreatDoorPName0T
set_option linter.unusedVariables false
set_option linter.unusedSimpArgs false
set_option linter.unnecessarySimpa false
namespace Go.Ab
open Go
set_option maxRecDepth 100000
theorem nbeq (a b:Nat):((a:Int)==(b:Int))=decide (a=b):=by
 by_cases h:a=b
 ·simp [h]
 ·simp [h];omega
theorem akm {n:Nat} (h:n<=4611686018427387904):decide (n<=aao)=true:=Ag h
theorem axe:((List.range 256).all λb=>F234 0 (b:Int)==some (92::120::hex2 b))=true:=by kernel_rfl
theorem azv {b:Nat} (h:b<256):F234 0 (b:Int)=some (92::120::hex2 b):=by have:=Bs.1 axe b (List.mem_range.2 h);simpa using this
theorem a5e:((List.range 256).all λb=>F205 0 (b:Int)==some (hex2 b))=true:=by kernel_rfl
theorem a1i {b:Nat} (h:b<256):F205 0 (b:Int)=some (hex2 b):=by have:=Bs.1 a5e b (List.mem_range.2 h);simpa using this
theorem a8e (s:Bt) (i:Nat) (I:i<s.length):F219 0 s (i:Int) ((aap s i).1:Int)=some (ain s i):=by
 unfold F219 ain;have hw:=awx s i I;have hb:((s.getD ((i:Int)).toNat 0).toNat:Int)=(byteAt s i:Int):=rfl;have he:=azv (ab5 s i);have hr:aaa (i:Int) s.length=true:=by rw [aab,Ag I]
 have aa:(((aap s i).1:Int)==(34:Int))=decide ((aap s i).1=34):=nbeq _ 34;have ab:(((aap s i).1:Int)==(92:Int))=decide ((aap s i).1=92):=nbeq _ 92;have M:(((aap s i).1:Int)==(10:Int))=decide ((aap s i).1=10):=nbeq _ 10;have k9:(((aap s i).1:Int)==(9:Int))=decide ((aap s i).1=9):=nbeq _ 9;have O:(((aap s i).1:Int)==(13:Int))=decide ((aap s i).1=13):=nbeq _ 13;have H:(((aap s i).1:Int)==(127:Int))=decide ((aap s i).1=127):=nbeq _ 127;have Z:decide (((aap s i).1:Int)<(32:Int))=decide ((aap s i).1<32):=ac0 _ 32;simp only [aa,ab,M,k9,O,H,Z,hw,hr,hb,he,Af,Aa];by_cases h:byteAt s i<128
 ·rw [ae1 s i h,akw s i h];have o:=ajd s i I (by rw [akw s i h];decide);rw [ae1 s i h,akw s i h] at o;simp only [o];by_cases c1:byteAt s i=34
  ·simp [c1]
  by_cases c2:byteAt s i=92
  ·simp [c2]
  by_cases c3:byteAt s i=10
  ·simp [c3]
  by_cases c4:byteAt s i=9
  ·simp [c4]
  by_cases c5:byteAt s i=13
  ·simp [c5]
  simp only [c1,c2,c3,c4,c5,decide_false,Ah,A8];by_cases c6:byteAt s i<32
  ·simp [c6]
  ·by_cases c7:byteAt s i=127
   ·simp [c7]
   ·simp [c6,c7]
 ·have hh:=ami s i (by omega);have d1:decide ((aap s i).1=34)=false:=An (by omega);have d2:decide ((aap s i).1=92)=false:=An (by omega);have d3:decide ((aap s i).1=10)=false:=An (by omega);have d4:decide ((aap s i).1=9)=false:=An (by omega);have d5:decide ((aap s i).1=13)=false:=An (by omega);have d6:decide ((aap s i).1=127)=false:=An (by omega);have d7:decide ((aap s i).1<32)=false:=An (by omega);have e1:¬byteAt s i=34:=by omega
  have e2:¬byteAt s i=92:=by omega
  have e3:¬byteAt s i=10:=by omega
  have e4:¬byteAt s i=9:=by omega
  have e5:¬byteAt s i=13:=by omega
  have e6:¬byteAt s i=127:=by omega
  have e7:¬byteAt s i<32:=by omega
  simp only [d1,d2,d3,d4,d5,d6,d7,e1,e2,e3,e4,e5,e6,e7,Ah,Ay,Af,Aa,A8,false_or];by_cases J:sizeAt s i=0
  ·simp [J]
  ·simp only [J,decide_false,Ah,A8];rw [ajd s i I J]
theorem aye (s:Bt):∀ (m i:Nat) (acc:Bt),s.length-i<=m->i<=s.length->acc.length+4*(s.length-i)<=140737488355328->
 ∃ z,aa9 (S198_5step 0) (s,(),(),acc,s,(i:Int))=some ((),acc++abz s i,s,z):=by
 intro m
 induction m with
 | zero=>
  intro i acc M I H
  have h:¬i<s.length:=by omega
  rw [abz,if_neg h]
  refine ⟨(i:Int),aah ?_⟩
  simp only [S198_5step,S198_5,Ai,h,decide_false,Ah,List.append_nil]
 | succ m ih=>
  intro i acc M I H
  by_cases h:i<s.length
  ·have hp:=ana s i h;have hl:=aky s i h;have J:=agk s i;obtain ⟨z,Z⟩:=ih (i+adb s i) (acc++ain s i) (by omega) (by omega) (by rw [Ak];omega);refine ⟨z,?_⟩;rw [abz,if_pos h,<-Ar,<-Z];refine aaq ?_;have O:Nat.ble (acc.length+(ain s i).length) 140737488355328=true:=by rw [Nat.ble_eq];omega
   simp only [S198_5step,S198_5,Ai,h,decide_true,Af,ag3,a8e s i h,a6l s i h,Aa,abw,O]
  ·have o:¬i<s.length:=h;rw [abz,if_neg h];refine ⟨(i:Int),aah ?_⟩;simp only [S198_5step,S198_5,Ai,h,decide_false,Ah,List.append_nil]
theorem afz (s:Bt):(aku s).length<=4*s.length+2:=by have:=agh s s.length 0 (by omega);simp [aku];omega
theorem aqg (s:Bt) (J:s.length<=1048576):F198 0 s=some (aku s):=by
 obtain ⟨z,h⟩:=aye s s.length 0 [34] (by omega) (by omega) (by simp;omega);have I:=agh s s.length 0 (by omega);unfold F198;have o:abw 0 ([34]:Bt) []=some (1,.nilIface,[34]):=rfl;have H:Nat.ble (([34]++abz s 0).length+1) 140737488355328=true:=by rw [Nat.ble_eq];simp;omega
 simp only [o,Aa,adq,h];simp only [abw,Am,Ao,Nat.zero_add,H,Af,Aa,atb];simp [aku]
theorem aqk (s:Bt) (hs:s.length<=9223372036854775000) (i:Nat) (acc:Bt) (I:i<s.length) (hb:acc.length<=4611686018427380000):
 S185_4step 0 (s,acc,(i:Int))=some (.inl (s,acc++ain s i,((i+adb s i:Nat):Int))):=by
 have hz:=anq s i I
 have O:((s.getD i 0).toNat:Int)=(byteAt s i:Int):=rfl
 have hr:aaa (i:Int) s.length=true:=by rw [aab,Ag I]
 have ag:((byteAt s i:Int)==(34:Int))=decide (byteAt s i=34):=nbeq _ 34
 have ah:((byteAt s i:Int)==(92:Int))=decide (byteAt s i=92):=nbeq _ 92
 have ad:((byteAt s i:Int)==(10:Int))=decide (byteAt s i=10):=nbeq _ 10
 have k9:((byteAt s i:Int)==(9:Int))=decide (byteAt s i=9):=nbeq _ 9
 have ae:((byteAt s i:Int)==(13:Int))=decide (byteAt s i=13):=nbeq _ 13
 have H:((byteAt s i:Int)==(127:Int))=decide (byteAt s i=127):=nbeq _ 127
 have af:decide ((byteAt s i:Int)<(32:Int))=decide (byteAt s i<32):=ac0 _ 32
 have k0:((sizeAt s i:Int)==(0:Int))=decide (sizeAt s i=0):=nbeq _ 0
 have w1:IntKind.wrap .i64 ((i:Int)+(1:Int))=((i+1:Nat):Int):=aof (by omega)
 have w2:IntKind.wrap .i64 ((i:Int)+(sizeAt s i:Int))=((i+sizeAt s i:Nat):Int):=wadd (by omega)
 have Z:decide ((0:Int)<=(i:Int)/\(i:Int)<=((i+sizeAt s i:Nat):Int)/\((i+sizeAt s i:Nat):Int)<=(s.length:Int))=true:=Ag (by omega)
 have ab:(s.take (i+sizeAt s i)).drop i=(s.drop i).take (sizeAt s i):=by rw [List.drop_take];congr 1;omega
 have aa:(bif decide (sizeAt s i=0) then ((i+1:Nat):Int) else ((i+sizeAt s i:Nat):Int))=((i+adb s i:Nat):Int):=by
  unfold adb;by_cases h:sizeAt s i=0
  ·simp [h]
  ·simp [h]
 have o:∀ t:Bt,(bif decide (sizeAt s i=0) then some (Sum.inl (s,t,((i+1:Nat):Int))) else some (Sum.inl (s,t,((i+sizeAt s i:Nat):Int))))=(some (.inl (s,t,((i+adb s i:Nat):Int))):Option ((Bt×Bt×Int)⊕((Bt)))):=by intro t;rw [<-aa];cases decide (sizeAt s i=0)<;>rfl
 simp only [S185_4step,S185_4,ac0,I,decide_true,Af,a2c s i I hs,Aa,hr,O,ag,ah,ad,k9,ae,H,af,k0,w1,w2,Z,Ai,ab,a1i (ab5 s i)]
 unfold ain
 have l2:∀ a b:UInt8,decide (acc.length+[a,b].length<=aao)=true:=λa b=>akm (by simp;omega)
 have l4:∀ a b c d:UInt8,decide ((acc++[a,b]).length+[c,d].length<=aao)=true:=λa b c d=>akm (by simp;omega)
 have ls:decide (acc.length+((s.drop i).take (sizeAt s i)).length<=aao)=true:=akm (by simp;omega)
 have l5:decide (acc.length+2+2<=aao)=true:=akm (by omega)
 simp only [l2,ls,hex2,l4,Af,o]
 by_cases c1:byteAt s i=34
 ·simp [c1]
 by_cases c2:byteAt s i=92
 ·simp [c2]
 by_cases c3:byteAt s i=10
 ·simp [c3]
 by_cases c4:byteAt s i=9
 ·simp [c4]
 by_cases c5:byteAt s i=13
 ·simp [c5]
 simp only [c1,c2,c3,c4,c5,decide_false,Ah,A8]
 by_cases J:byteAt s i<32
 ·simp [J,l5]
 ·by_cases M:byteAt s i=127
  ·simp [M,l5]
  ·by_cases c8:sizeAt s i=0
   ·simp [J,M,c8,l5]
   ·simp [J,M,c8]
theorem aqj (s:Bt) (hs:s.length<=1048576):∀ (m i:Nat) (acc:Bt),s.length-i<=m->i<=s.length->acc.length+4*(s.length-i)<=140737488355328->
 aa9 (S185_4step 0) (s,acc,(i:Int))=some (acc++abz s i):=by
 intro m
 induction m with
 | zero=>
  intro i acc J H o
  have h:¬i<s.length:=by omega
  rw [abz,if_neg h]
  refine aah ?_
  simp only [S185_4step,S185_4,ac0,h,decide_false,Ah,List.append_nil]
 | succ m M=>
  intro i acc J H o
  by_cases h:i<s.length
  ·have Z:=ana s i h;have O:=aky s i h;have I:=agk s i;rw [abz,if_pos h,<-Ar,<-M (i+adb s i) (acc++ain s i) (by omega) (by omega) (by rw [Ak];omega)];exact aaq (aqk s (by omega) i acc h (by omega))
  ·rw [abz,if_neg h];refine aah ?_;simp only [S185_4step,S185_4,ac0,h,decide_false,Ah,List.append_nil]
theorem ai3 (s:Bt) (h:s.length<=1048576):F185 0 s=some (aku s):=by have o:=aqj s h s.length 0 [34] (by omega) (by omega) (by simp;omega);have H:=agh s s.length 0 (by omega);unfold F185;rw [adq,show (0:Int)=((0:Nat):Int) from rfl,o,Aa,akm (by simp;omega)];simp [aku]
end Go.Ab
namespace Go.Ab
open Go
theorem beqI {a b:Int} (h:a≠b):(a==b)=false:=by simp [h]
theorem beqT {a b:Int} (h:a=b):(a==b)=true:=by simp [h]
theorem asg {h:Type} (b:Bool) (x y:h):(bif b then some x else some y)=some (bif b then x else y):=by cases b<;>rfl
noncomputable def ahf (h:Bt):Int:=(F171 0 h).getD 0
theorem ao0 (h:Bt):F171 0 h=some (ahf h):=by unfold ahf;simp only [F171,asg,Option.getD_some]
noncomputable def av5 (o:Bt) (h:Int):Bool:=(F172 0 o h).getD false
theorem ayg (o:Bt) (h:Int):F172 0 o h=some (av5 o h):=by unfold av5;simp only [F172,asg,Option.getD_some]
def aav (v:PV):Int:=(v.fld 0).asInt
def abp (v:PV):Int:=(v.fld 1).asInt
def abu (v:PV):Bt:=(v.fld 2).asStr
def vLists (v:PV):Nat:=(v.fld 3).asList.length+(v.fld 4).asList.length+(v.fld 5).asList.length+(v.fld 6).asList.length
def ac3 (v:PV):Prop:=vLists v<=1048576/\(abu v).length<=1048576/\0<=abp v/\abp v<18446744073709551616
def amt (k:Int):Bool:=decide (1<=k/\k<=9)
def ae6 (k:Int):Bool:=k==7||k==8
def ang (k h:Int):Bool:=
 if k=1 then decide (h<=1) else if k=2 then decide (-2147483648<=IntKind.wrap .i64 h/\IntKind.wrap .i64 h<=2147483647) else if k=4 then decide (h<4294967296) else if k=9 then decide (h<2147483648) else true
def adh (k:Int) (v:PV):Bool:=
 amt k&&(aav v==k)&&decide (vLists v=0)&&(if ae6 k then (abp v==0)&&decide ((abu v).length<=4096)&&((k==8)||valid (abu v)) else (abu v==[])&&ang k (abp v))
theorem baq (a b c d:List PV):(bif (bif (bif ((a.length:Int)==(0:Int)) then ((b.length:Int)==(0:Int)) else false) then ((c.length:Int)==(0:Int)) else false) then ((d.length:Int)==(0:Int)) else false)=decide (a.length+b.length+c.length+d.length=0):=by cases a<;>cases b<;>cases c<;>cases d<;>simp<;>omega
theorem adv (k:Int) (v:PV) (hs:ac3 v):F126 0 k v=some (adh k v):=by
 have hv:F93 0 (abu v)=some (valid (abu v)):=ann _ (by have:=hs.2.1;omega);have e0:(v.fld 0).asInt=aav v:=rfl;have e1:(v.fld 1).asInt=abp v:=rfl;have e2:(v.fld 2).asStr=abu v:=rfl;have i1:(bif decide (k>=(1:Int)) then decide (k<=(9:Int)) else false)=amt k:=by unfold amt;by_cases h:k>=1<;>simp [h]<;>omega
 have i2:(bif (k==(7:Int)) then true else (k==(8:Int)))=ae6 k:=by unfold ae6;cases (k==7)<;>rfl
 unfold F126 F167 F168 F169;simp only [Aa,baq,i1,i2,e0,e1,e2,hv,gb];unfold adh;have eL:(v.fld 3).asList.length+(v.fld 4).asList.length+(v.fld 5).asList.length+(v.fld 6).asList.length=vLists v:=rfl;simp only [eL];cases h1:amt k
 ·simp
 cases h2:(aav v==k)
 ·have:(aav v != k)=true:=by simp [bne,h2]
  simp [this]
 have o:(aav v != k)=false:=by simp [bne,h2]
 simp only [o,Az,Ah,Ay,Bool.true_and,Af];cases h3:decide (vLists v=0)
 ·simp
 simp only [Az,Ah,Bool.true_and];cases h4:ae6 k
 ·simp only [Ah,A6,A8];cases h5:(abu v==[])
  ·simp
  simp only [Az,Ah,Bool.true_and];unfold ang;by_cases H:k=1
  ·subst H;simp
  have I:(k==1)=false:=by simp [H]
  simp only [I,Ah,if_neg H];by_cases J:k=2
  ·subst J;simp only [Br,Af,A9,ge_iff_le,Bool.decide_and];cases decide (-2147483648<=IntKind.wrap .i64 (abp v))<;>rfl
  have M:(k==2)=false:=by simp [J]
  simp only [M,Ah,if_neg J];by_cases O:k=4
  ·subst O;simp
  have Z:(k==4)=false:=by simp [O]
  simp only [Z,Ah,if_neg O];by_cases k9:k=9
  ·subst k9;simp
  have aa:(k==9)=false:=by simp [k9]
  simp only [aa,Ah,if_neg k9]
 ·simp only [Af,A9];have hl:decide (((abu v).length:Int)<=4096)=decide ((abu v).length<=4096):=by simp;omega
  simp only [hl];cases (abp v==0)<;>cases decide ((abu v).length<=4096)<;>cases (k==8)<;>simp
theorem alu (k:Int) (v:PV) (hs:ac3 v):F197 0 k v=some (adh k v):=by
 have hv:F217 0 (abu v)=some (valid (abu v)):=a6k _;have e0:(v.fld 0).asInt=aav v:=rfl;have e1:(v.fld 1).asInt=abp v:=rfl;have e2:(v.fld 2).asStr=abu v:=rfl;have i1:(bif decide (k>=(1:Int)) then decide (k<=(9:Int)) else false)=amt k:=by grind [amt]
 have eL:(v.fld 3).asList.length+(v.fld 4).asList.length+(v.fld 5).asList.length+(v.fld 6).asList.length=vLists v:=rfl;have hL:=hs.1;have w1:IntKind.wrap .i64 (((v.fld 3).asList.length:Int)+((v.fld 4).asList.length:Int))=(((v.fld 3).asList.length+(v.fld 4).asList.length:Nat):Int):=wadd (by grind);have w2:IntKind.wrap .i64 ((((v.fld 3).asList.length+(v.fld 4).asList.length:Nat):Int)+((v.fld 5).asList.length:Int))=(((v.fld 3).asList.length+(v.fld 4).asList.length+(v.fld 5).asList.length:Nat):Int):=wadd (by grind);have w3:IntKind.wrap .i64 ((((v.fld 3).asList.length+(v.fld 4).asList.length+(v.fld 5).asList.length:Nat):Int)+((v.fld 6).asList.length:Int))=(((v.fld 3).asList.length+(v.fld 4).asList.length+(v.fld 5).asList.length+(v.fld 6).asList.length:Nat):Int):=wadd (by grind);have tk:∀ k:Int,(bif (k==(7:Int)) then true else (k==(8:Int)))=ae6 k:=λk=>by grind [ae6]
 unfold F197 F214 F215 F216 F230;simp only [Aa,i1,tk,e0,e1,e2,hv,gb,w1,w2,w3,eL];have h:(bif (k==(1:Int)) then some (decide (abp v<=1)) else bif (k==(2:Int)) then some (bif decide (IntKind.wrap .i64 (abp v)>=-2147483648) then decide (IntKind.wrap .i64 (abp v)<=2147483647) else false) else
  bif (k==(9:Int)) then some (decide (abp v<=2147483647)) else bif (k==(4:Int)) then some (decide (abp v<=4294967295)) else some true)=some (ang k (abp v)):=by
  unfold ang
  by_cases J:k=1
  ·subst J;simp
  have M:(k==1)=false:=by simp [J]
  simp only [M,Ah,if_neg J]
  by_cases k2:k=2
  ·grind
  grind
 rw [h];unfold adh;cases h1:amt k
 ·simp
 cases Z:(aav v==k)
 ·grind
 have aa:(aav v != k)=false:=by simp [bne,Z]
 have o:aav v=k:=by simpa using Z
 rw [o];have H:(k != k)=false:=by simp
 simp only [H,Az,Ah,Ay,Bool.true_and,Af];by_cases h3:vLists v=0
 ·have I:decide ((vLists v:Int)>0)=false:=by simp;omega
  simp only [I,Ah,h3,decide_true,Bool.true_and];have hl:decide (((abu v).length:Int)>4096)=!decide ((abu v).length<=4096):=by grind
  cases h4:ae6 k
  ·simp only [Ah,A6,A8,Aa];have k7:(k != 7)=true:=by
    grind
   all_goals grind
  ·simp only [Af,A9,Aa];have hr:ang k (abp v)=true:=by
    all_goals grind
   simp only [hr,hl];have O:k=7\/k=8:=by all_goals grind
   rcases O with rfl | rfl;all_goals grind
 grind
def aeu (n:PV):Bt:=(n.fld 0).asStr
def nVal (n:PV):PV:=n.fld 1
noncomputable def aws (n:PV):Bool:=(ahf (aeu n) != 0)&&adh (ahf (aeu n)) (nVal n)
def agt (n:PV):Prop:=ac3 (nVal n)/\(aeu n).length<=1048576
theorem axn {k:Int}{v:PV} (h:(aav v==k)=false):adh k v=false:=by grind [adh]
theorem aut (n:PV) (I:agt n):F173 0 n=some (aws n):=by
 unfold F173;have e:(n.fld 0).asStr=aeu n:=rfl;have o:n.fld 1=nVal n:=rfl;have H:((nVal n).fld 0).asInt=aav (nVal n):=rfl;simp only [e,o,H,ao0,Aa,adv _ _ I.1,gb];unfold aws;cases h:(aav (nVal n)==ahf (aeu n))
 ·rw [axn h];cases (ahf (aeu n) != 0)<;>rfl
 ·cases (ahf (aeu n) != 0)<;>rfl
noncomputable def chk1 (n:PV) (t:Int) (h:Bt) (o:Bool):Int:=
 if ahf (aeu n)=0 then 8 else if av5 (aeu n) t=false then 1 else if aws n=false then 12 else if o&&Op.bytesLess (aeu n) h then 11 else if o&&(aeu n==h) then 9 else 0
noncomputable def chkL (t:Int):List PV->Bt->Bool->Int
 | [],_,_=>0
 | n::r,last,ok=>if chk1 n t last ok=0 then chkL t r (aeu n) true else chk1 n t last ok
noncomputable def avu (l:List PV) (t:Int):Int:=if l.length>8 then 3 else chkL t l [] false
theorem aqh (l:List PV) (t:Int) (hl:l.length<=1048576) (hs:∀ n,n∈l->agt n):∀ (m i:Nat) (h:Bt),l.length-i<=m->i<=l.length->(0<i->h=aeu (l.getD (i-1) .bad))->
 aa9 (S128_5step 0) (l,t,(i:Int))=some (bif decide (chkL t (l.drop i) h (decide (0<i))=0) then .inr () else .inl (chkL t (l.drop i) h (decide (0<i)))):=by
 intro m
 induction m with
 | zero=>
  intro i h hm hi _
  have o:¬i<l.length:=by omega
  rw [A7 (by omega)]
  exact aah (by simp only [S128_5step,S128_5,ac0,o,decide_false,Ah];rfl)
 | succ m ih=>
  intro i h hm hi H
  by_cases o:i<l.length
  ·rw [aa8 o .bad,chkL];have J:l.getD i .bad∈l:=by rw [aae o];exact List.getElem_mem _
   have hg:decide ((i:Int)>0)=decide (0<i):=by rw [decide_eq_decide];omega
   have hr:=aut (l.getD i .bad) (hs _ J);have en:((l.getD i .bad).fld 0).asStr=aeu (l.getD i .bad):=rfl;have step:S128_5step 0 (l,t,(i:Int))=some (if chk1 (l.getD i .bad) t h (decide (0<i))=0 then .inl (l,t,((i+1:Nat):Int)) else .inr (.inl (chk1 (l.getD i .bad) t h (decide (0<i))))):=by
    simp only [S128_5step,S128_5,ac0,aab,o,decide_true,Af,Ai,hg,en,ao0,ayg,hr,Aa,aof (i:=i) (by omega)];unfold chk1;by_cases M:ahf (aeu (l.getD i .bad))=0
    ·have:(ahf (aeu (l.getD i .bad))==(0:Int))=true:=beqT M;rw [this,Af,if_pos M];rfl
    ·have:(ahf (aeu (l.getD i .bad))==(0:Int))=false:=beqI M;rw [this,Ah,if_neg M];cases av5 (aeu (l.getD i .bad)) t
     ·rfl
     ·simp only [Az,Ah,Bool.true_eq_false,A8];cases aws (l.getD i .bad)
      ·rfl
      ·simp only [Az,Ah,Bool.true_eq_false,A8];by_cases hp:0<i
       ·have w:IntKind.wrap .i64 ((i:Int)-(1:Int))=((i-1:Nat):Int):=by
         rw [show (i:Int)-1=((i-1:Nat):Int) by omega];exact abb (by omega)
        have I:i-1<l.length:=by omega
        have el:aeu (l.getD (i-1) .bad)=h:=(H hp).symm;have O:((l.getD (i-1) .bad).fld 0).asStr=h:=el;simp only [hp,decide_true,imp,Af,w,aab,I,Ai,O,Bool.true_and];cases Op.bytesLess (aeu (l.getD i .bad)) h<;>cases (aeu (l.getD i .bad)==h)<;>rfl
       ·simp only [hp,decide_false,imp,Ah,Ay,Af,ard,Bool.false_and,A6,A8,A9]
   by_cases Z:chk1 (l.getD i .bad) t h (decide (0<i))=0
   ·rw [if_pos Z] at step ⊢;rw [aaq step,ih (i+1) (aeu (l.getD i .bad)) (by omega) (by omega) (λ_=>rfl),Ag (show 0<i+1 by omega)]
   ·rw [if_neg Z] at step ⊢;rw [An Z];exact aah step
  ·rw [A7 (by omega)];exact aah (by simp only [S128_5step,S128_5,ac0,o,decide_false,Ah];rfl)
theorem auq (l:List PV) (t:Int) (J:l.length<=1048576) (M:∀ n,n∈l->agt n):F128 0 l t=some (avu l t):=by
 have h:=aqh l t J M l.length 0 [] (by omega) (by omega) (λh=>by omega);unfold F128 avu;have I:decide ((l.length:Int)>8)=decide (l.length>8):=by rw [decide_eq_decide];omega
 rw [I,adq,show (0:Int)=((0:Nat):Int) from rfl,h];by_cases H:l.length>8
 ·simp [H]
 ·simp only [H,decide_false,Ah,A8,Ap,Nat.lt_irrefl];by_cases o:chkL t l [] false=0
  ·rw [o];rfl
  ·rw [An o];rfl
end Go.Ab
namespace Go.Ab
open Go
set_option maxRecDepth 100000
theorem dig (d:Nat) (h:d<10):[PV.int (IntKind.wrap .u8 (IntKind.wrap .u64 ((48:Int)+(d:Int))))].map aa0=[UInt8.ofNat (48+d)]:=by
 have:IntKind.wrap .u8 (IntKind.wrap .u64 ((48:Int)+(d:Int)))=((48+d:Nat):Int):=by rw [IntKind.wrap_u64,IntKind.wrap_u8];omega
 rw [this];rfl
def preD (u:Nat):Bt:=if u<10 then [] else Lib.decDigits (u / 10)
theorem a1l (u:Nat):preD u++[UInt8.ofNat (48+u%10)]=Lib.decDigits u:=by
 have e:=Lib.decDigits.eq_1 u;unfold preD;rw [e];by_cases h:u<10
 ·rw [if_pos h,dif_pos h,Nat.mod_eq_of_lt h];rfl
 ·rw [if_neg h,dif_neg h]
theorem ari:∀ (k u:Nat) (acc:Bt),u<10^(k+1)->u<18446744073709551616->acc.length+k<=1000->aa9 (S206_3step 0) ((u:Int),acc)=some (preD u++acc):=by
 intro k;induction k with
 | zero=>intro u acc H _ _;have o:decide ((u:Int)>=(10:Int))=false:=An (by omega);rw [preD,if_pos (by omega)];exact aah (by simp only [S206_3step,S206_3,o,Ah];rfl)
 | succ k ih=>
  intro u acc H I hb;by_cases h:u<10
  ·have o:decide ((u:Int)>=(10:Int))=false:=An (by omega);rw [preD,if_pos h];exact aah (by simp only [S206_3step,S206_3,o,Ah];rfl)
  ·have o:decide ((u:Int)>=(10:Int))=true:=Ag (by omega);have Z:IntKind.wrap .u64 ((u:Int).tdiv (10:Int))=((u / 10:Nat):Int):=by
    rw [show (u:Int).tdiv (10:Int)=((u / 10:Nat):Int) from rfl,IntKind.wrap_u64];omega
   have M:((u / 10:Nat):Int).tmod (10:Int)=((u / 10%10:Nat):Int):=rfl;have O:preD u++acc=preD (u / 10)++(UInt8.ofNat (48+u / 10%10)::acc):=by have:=a1l (u / 10);rw [show preD u=Lib.decDigits (u / 10) by rw [preD,if_neg h],<-this,Ar];rfl
   rw [O,<-ih (u / 10) (UInt8.ofNat (48+u / 10%10)::acc) (by rw [Nat.pow_succ] at H;omega) (by omega) (by simp;omega)];refine aaq ?_;have J:decide ([UInt8.ofNat (48+u / 10%10)].length+acc.length<=aao)=true:=akm (by simp;omega);simp only [S206_3step,S206_3,o,Z,M,dig _ (Nat.mod_lt _ (by decide:0<10)),J,Af];rfl
theorem aoo (u:Nat) (o:u<18446744073709551616):F206 0 (u:Int)=some (decB u):=by unfold F206;have h:((u:Nat):Int).tmod (10:Int)=((u%10:Nat):Int):=rfl;rw [h,dig _ (Nat.mod_lt _ (by decide:0<10)),adq,ari 19 u _ (by omega) o (by simp),a1l,apm (by omega)];rfl
theorem a3w:∀ (f u:Nat),(decF f u).length<=f:=by
 intro f;induction f with
 | zero=>intro u;simp [decF]
 | succ f h=>
  intro u;unfold decF;cases Nat.ble u 9 with
  | true=>simp
  | false=>have:=h (u / 10);simp;omega
theorem als (u:Nat):(decB u).length<=20:=a3w 20 u
theorem a0q (n:Int):(alp n).length<=21:=by
 unfold alp;have h:=als n.natAbs;have o:=als n.toNat;cases decide (n<0) with
 | true=>simp;omega
 | false=>simp;omega
def aqu (v:PV):Bt:=
 bif adh (aav v) v then
  (bif aav v==1 then (bif abp v==1 then [116,114,117,101] else [102,97,108,115,101])
  else bif aav v==2 then alp (IntKind.wrap .i64 (abp v)) else bif aav v==3 then alp (IntKind.wrap .i64 (abp v)) else bif aav v==7 then aku (abu v) else decB (abp v).toNat)
 else []
theorem a4z (n:Int) (h:-9223372036854775808<=n) (o:n<=9223372036854775807):ata 0 n=some (alp n):=by unfold ata;rw [Ag h,Ag o];rfl
theorem wrapI (u:Nat) (h:u<18446744073709551616):-9223372036854775808<=IntKind.wrap .i64 (u:Int)/\IntKind.wrap .i64 (u:Int)<=9223372036854775807:=by rw [IntKind.wrap_i64];omega
theorem a9k (v:PV) (hs:ac3 v) (h6:aav v≠6) (h8:aav v≠8):F199 0 v=some (aqu v):=by
 obtain ⟨_,M,h,H⟩:=hs;obtain ⟨u,hu⟩:∃ u:Nat,abp v=(u:Int):=⟨(abp v).toNat,(Int.toNat_of_nonneg h).symm⟩;have o:u<18446744073709551616:=by omega
 have J:=wrapI u o;have O:(v.fld 0).asInt=aav v:=rfl;have Z:(v.fld 1).asInt=abp v:=rfl;have e2:(v.fld 2).asStr=abu v:=rfl;have k6:(aav v==(6:Int))=false:=beqI h6;have k8:(aav v==(8:Int))=false:=beqI h8;have I:aw1 0 (u:Int) (10:Int)=some (decB u):=by unfold aw1;rw [Ag (by omega),Ag (by omega)];simp
 have hf:Lfmt 0 (u:Int) (10:Int)=some (decB u):=I;unfold F199 aqu;simp only [O,Z,e2,alu _ _ ⟨by assumption,M,h,H⟩,Aa,k6,k8,Ah,aqg _ M,hu,a4z _ J.1 J.2,F225,hf,Ai,F221,F235];generalize alp (IntKind.wrap .i64 (u:Int))=x1;generalize aku (abu v)=x2;generalize decB u=x3;generalize adh (aav v) v=q0;generalize (aav v==(1:Int))=q1;generalize (aav v==(2:Int))=q2;generalize (aav v==(3:Int))=q3;generalize (aav v==(7:Int))=q7;generalize ((u:Int)==(1:Int))=q;cases q0<;>cases q1<;>cases q2<;>cases q3<;>cases q7<;>cases q<;>rfl
theorem ayh (v:PV) (hs:ac3 v) (h6:aav v≠6) (h8:aav v≠8):F186 0 v=some (aqu v):=by
 obtain ⟨_,ht,o,Z⟩:=hs;obtain ⟨u,hu⟩:∃ u:Nat,abp v=(u:Int):=⟨(abp v).toNat,(Int.toNat_of_nonneg o).symm⟩;have H:u<18446744073709551616:=by omega
 have e0:(v.fld 0).asInt=aav v:=rfl;have e1:(v.fld 1).asInt=abp v:=rfl;have e2:(v.fld 2).asStr=abu v:=rfl;have k6:(aav v==(6:Int))=false:=beqI h6;have k8:(aav v==(8:Int))=false:=beqI h8;have aa:(bif decide ((u:Int)>=(9223372036854775808:Int)) then (F206 0 (IntKind.wrap .u64 (0-(u:Int)))).bind λI=>bif decide (([45]:Bt).length+I.length<=aao) then some (([45]:Bt)++I) else none
  else some (decB u))=some (alp (IntKind.wrap .i64 (u:Int))):=by
  unfold alp
  by_cases h:u<9223372036854775808
  ·have J:decide ((u:Int)>=(9223372036854775808:Int))=false:=An (by omega);have M:IntKind.wrap .i64 (u:Int)=(u:Int):=by rw [IntKind.wrap_i64];omega
   have O:decide ((u:Int)<0)=false:=An (by omega);simp only [J,M,O,Ah,Ai]
  ·have hw:IntKind.wrap .u64 (0-(u:Int))=((18446744073709551616-u:Nat):Int):=by rw [IntKind.wrap_u64];omega
   have hl:=als (18446744073709551616-u);have J:decide ((u:Int)>=(9223372036854775808:Int))=true:=Ag (by omega);have M:IntKind.wrap .i64 (u:Int)=(u:Int)-18446744073709551616:=by rw [IntKind.wrap_i64];omega
   have O:decide ((u:Int)-18446744073709551616<0)=true:=Ag (by omega);have d4:((u:Int)-18446744073709551616).natAbs=18446744073709551616-u:=by omega
   have d5:=aoo (18446744073709551616-u) (by omega);simp only [J,M,O,d4,hw,d5,Af,Aa];generalize decB (18446744073709551616-u)=x at hl;rw [akm (by simp;omega)];rfl
 unfold F186 aqu;simp only [e0,e1,e2,adv _ _ ⟨by assumption,ht,o,Z⟩,Aa,k6,k8,Ah,ai3 _ ht,hu,aa,aoo u H,Ai];generalize alp (IntKind.wrap .i64 (u:Int))=x1;generalize aku (abu v)=x2;generalize decB u=x3;generalize adh (aav v) v=q0;generalize (aav v==(1:Int))=q1;generalize (aav v==(2:Int))=q2;generalize (aav v==(3:Int))=q3;generalize (aav v==(7:Int))=q7;generalize ((u:Int)==(1:Int))=q;cases q0<;>cases q1<;>cases q2<;>cases q3<;>cases q7<;>cases q<;>rfl
theorem a2m (v:PV) (I:(abu v).length<=1048576):(aqu v).length<=4194400:=by have h:=afz (abu v);have o:=als (abp v).toNat;have H:=a0q (IntKind.wrap .i64 (abp v));unfold aqu;cases adh (aav v) v<;>cases (aav v==(1:Int))<;>cases (aav v==(2:Int))<;>cases (aav v==(3:Int))<;>cases (aav v==(7:Int))<;>cases (abp v==(1:Int))<;>simp only [Af,Ah,Am,Ao]<;>omega
end Go.Ab
