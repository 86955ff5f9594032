/- Quoting: the program's and the specification's are the same. -/
import Derived.Test.YtodichgnoiaanaaGreatDoorPName0T
set_option linter.unusedVariables false
set_option linter.unusedSimpArgs false
set_option linter.unnecessarySimpa false
namespace Go.Ab
open Go
set_option maxRecDepth 100000
theorem nbeq (a b:Nat):((a:Int)==(b:Int))=decide (a=b):=by grind
theorem alh {n:Nat} (h:n<=4611686018427387904):decide (n<=aam)=true:=Ag h
theorem azy:((List.range 256).all λb=>F138 0 (b:Int)==some (92::120::hex2 b))=true:=by kernel_rfl
theorem a2r {b:Nat} (h:b<256):F138 0 (b:Int)=some (92::120::hex2 b):=by grind [List.all_eq_true,azy]
theorem a9h:((List.range 256).all λb=>F210 0 (b:Int)==some (hex2 b))=true:=by kernel_rfl
theorem a5f {b:Nat} (h:b<256):F210 0 (b:Int)=some (hex2 b):=by grind [List.all_eq_true,a9h]
theorem bb6 (s:Bo) (i:Nat) (z:i<s.length):F84 0 s (i:Int) ((aan s i).1:Int)=some (aja s i):=by
 unfold F84 aja;have hw:=azf s i z;have hb:((s.getD ((i:Int)).toNat 0).toNat:Int)=(byteAt s i:Int):=rfl;have he:=a2r (ab6 s i);have hr:aab (i:Int) s.length=true:=by rw [aaa,Ag z]
 have O:(((aan s i).1:Int)==(34:Int))=decide ((aan s i).1=34):=nbeq _ 34;have Z:(((aan s i).1:Int)==(92:Int))=decide ((aan s i).1=92):=nbeq _ 92;have I:(((aan s i).1:Int)==(10:Int))=decide ((aan s i).1=10):=nbeq _ 10;have k9:(((aan s i).1:Int)==(9:Int))=decide ((aan s i).1=9):=nbeq _ 9;have J:(((aan s i).1:Int)==(13:Int))=decide ((aan s i).1=13):=nbeq _ 13;have h:(((aan s i).1:Int)==(127:Int))=decide ((aan s i).1=127):=nbeq _ 127;have M:decide (((aan s i).1:Int)<(32:Int))=decide ((aan s i).1<32):=afq _ 32;simp only [O,Z,I,k9,J,h,M,hw,hr,hb,he,Af,Aa];by_cases o:byteAt s i<128
 ·rw [afh s i o,als s i o];have H:=aj4 s i z (by grind [als]);rw [afh s i o,als s i o] at H;grind
 ·have hh:=anw s i (by omega);have d1:decide ((aan s i).1=34)=false:=An (by omega);have d2:decide ((aan s i).1=92)=false:=An (by omega);have d3:decide ((aan s i).1=10)=false:=An (by omega);have d4:decide ((aan s i).1=9)=false:=An (by omega);have d5:decide ((aan s i).1=13)=false:=An (by omega);have d6:decide ((aan s i).1=127)=false:=An (by omega);have d7:decide ((aan s i).1<32)=false:=An (by omega);have e1:¬byteAt s i=34:=by omega
  have e2:¬byteAt s i=92:=by omega
  have e3:¬byteAt s i=10:=by omega
  have e4:¬byteAt s i=9:=by omega
  have e5:¬byteAt s i=13:=by omega
  have e6:¬byteAt s i=127:=by omega
  have e7:¬byteAt s i<32:=by omega
  simp only [d1,d2,d3,d4,d5,d6,d7,e1,e2,e3,e4,e5,e6,e7,Ah,Av,Af,Aa,Bb,false_or];by_cases h0:sizeAt s i=0
  ·simp [h0]
  ·simp only [h0,decide_false,Ah,Bb];grind [aj4]
theorem a0v (s:Bo):∀ (m i:Nat) (acc:Bo),s.length-i<=m->i<=s.length->acc.length+4*(s.length-i)<=140737488355328->
 ∃ z,aa3 (S38_5step 0) (s,(),(),acc,s,(i:Int))=some ((),acc++ack s i,s,z):=by
 intro m
 induction m with
 | zero=>
  intro i acc J H o
  have h:¬i<s.length:=by omega
  rw [ack,if_neg h]
  refine ⟨(i:Int),aai ?_⟩
  simp only [S38_5step,S38_5,Ai,h,decide_false,Ah,List.append_nil]
 | succ m Z=>
  intro i acc J H o
  by_cases h:i<s.length
  ·have hp:=aon s i h;have hl:=aqp s i h;have I:=ag6 s i;obtain ⟨z,O⟩:=Z (i+ady s i) (acc++aja s i) (by omega) (by omega) (by grind);refine ⟨z,?_⟩;rw [ack,if_pos h,<-As,<-O];refine aao ?_;have M:Nat.ble (acc.length+(aja s i).length) 140737488355328=true:=by rw [Nat.ble_eq];omega
   simp only [S38_5step,S38_5,Ai,h,decide_true,Af,ahp,bb6 s i h,baz s i h,Aa,abr,M]
  grind
theorem agk (s:Bo):(aor s).length<=4*s.length+2:=by have:=ag3 s s.length 0 (by omega);simp [aor];omega
theorem asa (s:Bo) (J:s.length<=1048576):F38 0 s=some (aor s):=by
 obtain ⟨z,h⟩:=a0v s s.length 0 [34] (by omega) (by omega) (by simp;omega);have I:=ag3 s s.length 0 (by omega);unfold F38;have o:abr 0 ([34]:Bo) []=some (1,.nilIface,[34]):=rfl;have H:Nat.ble (([34]++ack s 0).length+1) 140737488355328=true:=by grind [Nat.ble_eq]
 simp only [o,Aa,aec,h];simp only [abr,Ax,Aw,Nat.zero_add,H,Af,Aa,aqw];simp [aor]
theorem asd (s:Bo) (hs:s.length<=9223372036854775000) (i:Nat) (acc:Bo) (z:i<s.length) (hb:acc.length<=4611686018427380000):
 S197_4step 0 (s,acc,(i:Int))=some (.inl (s,acc++aja s i,((i+ady s i:Nat):Int))):=by
 have hz:=ao2 s i z
 have H:((s.getD i 0).toNat:Int)=(byteAt s i:Int):=rfl
 have hr:aab (i:Int) s.length=true:=by rw [aaa,Ag z]
 have aa:((byteAt s i:Int)==(34:Int))=decide (byteAt s i=34):=nbeq _ 34
 have ab:((byteAt s i:Int)==(92:Int))=decide (byteAt s i=92):=nbeq _ 92
 have M:((byteAt s i:Int)==(10:Int))=decide (byteAt s i=10):=nbeq _ 10
 have k9:((byteAt s i:Int)==(9:Int))=decide (byteAt s i=9):=nbeq _ 9
 have O:((byteAt s i:Int)==(13:Int))=decide (byteAt s i=13):=nbeq _ 13
 have o:((byteAt s i:Int)==(127:Int))=decide (byteAt s i=127):=nbeq _ 127
 have Z:decide ((byteAt s i:Int)<(32:Int))=decide (byteAt s i<32):=afq _ 32
 have k0:((sizeAt s i:Int)==(0:Int))=decide (sizeAt s i=0):=nbeq _ 0
 have w1:IntKind.wrap .i64 ((i:Int)+(1:Int))=((i+1:Nat):Int):=avp (by omega)
 have w2:IntKind.wrap .i64 ((i:Int)+(sizeAt s i:Int))=((i+sizeAt s i:Nat):Int):=wadd (by omega)
 have I:decide ((0:Int)<=(i:Int)/\(i:Int)<=((i+sizeAt s i:Nat):Int)/\((i+sizeAt s i:Nat):Int)<=(s.length:Int))=true:=Ag (by omega)
 have J:(s.take (i+sizeAt s i)).drop i=(s.drop i).take (sizeAt s i):=by grind
 have ad:(bif decide (sizeAt s i=0) then ((i+1:Nat):Int) else ((i+sizeAt s i:Nat):Int))=((i+ady s i:Nat):Int):=by grind [ady,sizeAt]
 have h:∀ t:Bo,(bif decide (sizeAt s i=0) then some (Sum.inl (s,t,((i+1:Nat):Int))) else some (Sum.inl (s,t,((i+sizeAt s i:Nat):Int))))=(some (.inl (s,t,((i+ady s i:Nat):Int))):Option ((Bo×Bo×Int)⊕((Bo)))):=by grind
 simp only [S197_4step,S197_4,afq,z,decide_true,Af,a5z s i z hs,Aa,hr,H,aa,ab,M,k9,O,o,Z,k0,w1,w2,I,Ai,J,a5f (ab6 s i)]
 unfold aja
 have l2:∀ a b:UInt8,decide (acc.length+[a,b].length<=aam)=true:=λa b=>alh (by simp;omega)
 have l4:∀ a b c d:UInt8,decide ((acc++[a,b]).length+[c,d].length<=aam)=true:=λa b c d=>alh (by simp;omega)
 have ls:decide (acc.length+((s.drop i).take (sizeAt s i)).length<=aam)=true:=alh (by simp;omega)
 have l5:decide (acc.length+2+2<=aam)=true:=alh (by omega)
 simp only [l2,ls,hex2,l4,Af,h]
 by_cases c1:byteAt s i=34
 ·simp [c1]
 by_cases c2:byteAt s i=92
 ·simp [c2]
 by_cases c3:byteAt s i=10
 ·simp [c3]
 by_cases c4:byteAt s i=9
 ·simp [c4]
 by_cases c5:byteAt s i=13
 ·simp [c5]
 simp only [c1,c2,c3,c4,c5,decide_false,Ah,Bb]
 by_cases c6:byteAt s i<32
 ·simp [c6,l5]
 ·by_cases c7:byteAt s i=127
  ·simp [c7,l5]
  ·by_cases c8:sizeAt s i=0;all_goals grind
theorem asc (s:Bo) (Z:s.length<=1048576):∀ (m i:Nat) (acc:Bo),s.length-i<=m->i<=s.length->acc.length+4*(s.length-i)<=140737488355328->
 aa3 (S197_4step 0) (s,acc,(i:Int))=some (acc++ack s i):=by
 intro m
 induction m with
 | zero=>
  intro i acc I z o
  have h:¬i<s.length:=by omega
  rw [ack,if_neg h]
  refine aai ?_
  simp only [S197_4step,S197_4,afq,h,decide_false,Ah,List.append_nil]
 | succ m J=>
  intro i acc I z o
  by_cases h:i<s.length
  ·have O:=aon s i h;have M:=aqp s i h;have H:=ag6 s i;rw [ack,if_pos h,<-As,<-J (i+ady s i) (acc++aja s i) (by omega) (by omega) (by grind)];grind [aao,asd]
  grind
theorem ajp (s:Bo) (h:s.length<=1048576):F197 0 s=some (aor s):=by have o:=asc s h s.length 0 [34] (by omega) (by omega) (by simp;omega);have z:=ag3 s s.length 0 (by omega);unfold F197;rw [aec,show (0:Int)=((0:Nat):Int) from rfl,o,Aa,alh (by simp;omega)];simp [aor]
end Go.Ab
namespace Go.Ab
open Go
theorem beqI {a b:Int} (h:a≠b):(a==b)=false:=by simp [h]
theorem aur {h:Type} (b:Bool) (x y:h):(bif b then some x else some y)=some (bif b then x else y):=by cases b<;>rfl
noncomputable def amd (name:Bo):Int:=(F156 0 name).getD 0
theorem aqj (name:Bo):F156 0 name=some (amd name):=by unfold amd;simp only [F156,aur,Option.getD_some]
noncomputable def ayl (name:Bo) (h:Int):Bool:=(F157 0 name h).getD false
theorem a0w (name:Bo) (h:Int):F157 0 name h=some (ayl name h):=by unfold ayl;simp only [F157,aur,Option.getD_some]
def aa5 (v:PV):Int:=(v.fld 0).asInt
def ab4 (v:PV):Int:=(v.fld 1).asInt
def acs (v:PV):Bo:=(v.fld 2).asStr
def vLists (v:PV):Nat:=(v.fld 3).asList.length+(v.fld 4).asList.length+(v.fld 5).asList.length+(v.fld 6).asList.length
def ac7 (v:PV):Prop:=vLists v<=1048576/\(acs v).length<=1048576/\0<=ab4 v/\ab4 v<18446744073709551616
def an7 (k:Int):Bool:=decide (1<=k/\k<=9)
def ag7 (k:Int):Bool:=k==7||k==8
def aos (k h:Int):Bool:=
 if k=1 then decide (h<=1) else if k=2 then decide (-2147483648<=IntKind.wrap .i64 h/\IntKind.wrap .i64 h<=2147483647) else if k=4 then decide (h<4294967296) else if k=9 then decide (h<2147483648) else true
def ad8 (k:Int) (v:PV):Bool:=
 an7 k&&(aa5 v==k)&&decide (vLists v=0)&&(if ag7 k then (ab4 v==0)&&decide ((acs v).length<=4096)&&((k==8)||valid (acs v)) else (acs v==[])&&aos k (ab4 v))
theorem bd4 (a b c d:List PV):(bif (bif (bif ((a.length:Int)==(0:Int)) then ((b.length:Int)==(0:Int)) else false) then ((c.length:Int)==(0:Int)) else false) then ((d.length:Int)==(0:Int)) else false)=decide (a.length+b.length+c.length+d.length=0):=by cases a<;>cases b<;>cases c<;>cases d<;>simp<;>omega
theorem ad0 (k:Int) (v:PV) (M:ac7 v):F116 0 k v=some (ad8 k v):=by
 have O:F67 0 (acs v)=some (valid (acs v)):=aoz _ (by have:=M.2.1;omega);have o:(v.fld 0).asInt=aa5 v:=rfl;have z:(v.fld 1).asInt=ab4 v:=rfl;have H:(v.fld 2).asStr=acs v:=rfl;have Z:(bif decide (k>=(1:Int)) then decide (k<=(9:Int)) else false)=an7 k:=by grind [an7]
 have i2:(bif (k==(7:Int)) then true else (k==(8:Int)))=ag7 k:=by grind [ag7]
 unfold F116 F152 F153 F154;simp only [Aa,bd4,Z,i2,o,z,H,O,gb];unfold ad8;have I:(v.fld 3).asList.length+(v.fld 4).asList.length+(v.fld 5).asList.length+(v.fld 6).asList.length=vLists v:=rfl;simp only [I];cases h1:an7 k
 ·simp
 cases J:(aa5 v==k)
 ·grind
 have h:(aa5 v != k)=false:=by simp [bne,J]
 simp only [h,Ay,Ah,Av,Bool.true_and,Af];cases h3:decide (vLists v=0)
 ·simp
 simp only [Ay,Ah,Bool.true_and];cases h4:ag7 k
 ·simp only [Ah,A8,Bb];cases h5:(acs v==[])
  ·simp
  simp only [Ay,Ah,Bool.true_and];unfold aos;grind
 grind
theorem am0 (k:Int) (v:PV) (hs:ac7 v):F202 0 k v=some (ad8 k v):=by
 have hv:F221 0 (acs v)=some (valid (acs v)):=baw _;have M:(v.fld 0).asInt=aa5 v:=rfl;have O:(v.fld 1).asInt=ab4 v:=rfl;have Z:(v.fld 2).asStr=acs v:=rfl;have i1:(bif decide (k>=(1:Int)) then decide (k<=(9:Int)) else false)=an7 k:=by grind [an7]
 have eL:(v.fld 3).asList.length+(v.fld 4).asList.length+(v.fld 5).asList.length+(v.fld 6).asList.length=vLists v:=rfl;have hL:=hs.1;have w1:IntKind.wrap .i64 (((v.fld 3).asList.length:Int)+((v.fld 4).asList.length:Int))=(((v.fld 3).asList.length+(v.fld 4).asList.length:Nat):Int):=wadd (by grind);have w2:IntKind.wrap .i64 ((((v.fld 3).asList.length+(v.fld 4).asList.length:Nat):Int)+((v.fld 5).asList.length:Int))=(((v.fld 3).asList.length+(v.fld 4).asList.length+(v.fld 5).asList.length:Nat):Int):=wadd (by grind);have w3:IntKind.wrap .i64 ((((v.fld 3).asList.length+(v.fld 4).asList.length+(v.fld 5).asList.length:Nat):Int)+((v.fld 6).asList.length:Int))=(((v.fld 3).asList.length+(v.fld 4).asList.length+(v.fld 5).asList.length+(v.fld 6).asList.length:Nat):Int):=wadd (by grind);have tk:∀ k:Int,(bif (k==(7:Int)) then true else (k==(8:Int)))=ag7 k:=λk=>by grind [ag7]
 unfold F202 F218 F219 F220 F233;simp only [Aa,i1,tk,M,O,Z,hv,gb,w1,w2,w3,eL];have h:(bif (k==(1:Int)) then some (decide (ab4 v<=1)) else bif (k==(2:Int)) then some (bif decide (IntKind.wrap .i64 (ab4 v)>=-2147483648) then decide (IntKind.wrap .i64 (ab4 v)<=2147483647) else false) else
  bif (k==(9:Int)) then some (decide (ab4 v<=2147483647)) else bif (k==(4:Int)) then some (decide (ab4 v<=4294967295)) else some true)=some (aos k (ab4 v)):=by
  unfold aos
  grind
 rw [h];unfold ad8;cases h1:an7 k
 ·simp
 cases J:(aa5 v==k)
 ·grind
 have aa:(aa5 v != k)=false:=by simp [bne,J]
 have o:aa5 v=k:=by simpa using J
 rw [o];have z:(k != k)=false:=by simp
 simp only [z,Ay,Ah,Av,Bool.true_and,Af];by_cases h3:vLists v=0
 ·have H:decide ((vLists v:Int)>0)=false:=by simp;omega
  simp only [H,Ah,h3,decide_true,Bool.true_and];have hl:decide (((acs v).length:Int)>4096)=!decide ((acs v).length<=4096):=by grind
  cases h4:ag7 k
  ·simp only [Ah,A8,Bb,Aa];have k7:(k != 7)=true:=by
    grind
   all_goals grind
  ·simp only [Af,A9,Aa];have hr:aos k (ab4 v)=true:=by
    all_goals grind
   simp only [hr,hl];have I:k=7\/k=8:=by all_goals grind
   rcases I with rfl | rfl;all_goals grind
 grind
def ah0 (n:PV):Bo:=(n.fld 0).asStr
def nVal (n:PV):PV:=n.fld 1
noncomputable def ay6 (n:PV):Bool:=(amd (ah0 n) != 0)&&ad8 (amd (ah0 n)) (nVal n)
def ahe (n:PV):Prop:=ac7 (nVal n)/\(ah0 n).length<=1048576
theorem az6 {k:Int}{v:PV} (h:(aa5 v==k)=false):ad8 k v=false:=by grind [ad8]
theorem aw9 (n:PV) (z:ahe n):F158 0 n=some (ay6 n):=by unfold F158;have e:(n.fld 0).asStr=ah0 n:=rfl;have h:n.fld 1=nVal n:=rfl;have o:((nVal n).fld 0).asInt=aa5 (nVal n):=rfl;simp only [e,h,o,aqj,Aa,ad0 _ _ z.1,gb];grind [ay6,aa5,nVal,amd,ah0,az6]
noncomputable def chk1 (n:PV) (t:Int) (h:Bo) (o:Bool):Int:=
 if amd (ah0 n)=0 then 8 else if ayl (ah0 n) t=false then 1 else if ay6 n=false then 12 else if o&&Op.bytesLess (ah0 n) h then 11 else if o&&(ah0 n==h) then 9 else 0
noncomputable def chkL (t:Int):List PV->Bo->Bool->Int
 | [],_,_=>0
 | n::r,last,ok=>if chk1 n t last ok=0 then chkL t r (ah0 n) true else chk1 n t last ok
noncomputable def ayb (l:List PV) (t:Int):Int:=if l.length>8 then 3 else chkL t l [] false
theorem asb (l:List PV) (t:Int) (hl:l.length<=1048576) (hs:∀ n,n∈l->ahe n):∀ (m i:Nat) (h:Bo),l.length-i<=m->i<=l.length->(0<i->h=ah0 (l.getD (i-1) .bad))->
 aa3 (S118_5step 0) (l,t,(i:Int))=some (bif decide (chkL t (l.drop i) h (decide (0<i))=0) then .inr () else .inl (chkL t (l.drop i) h (decide (0<i)))):=by
 intro m
 induction m with
 | zero=>
  intro i h hm hi _
  have o:¬i<l.length:=by omega
  rw [Be (by omega)]
  exact aai (by simp only [S118_5step,S118_5,afq,o,decide_false,Ah];rfl)
 | succ m ih=>
  intro i h hm hi z
  by_cases o:i<l.length
  ·rw [abg o .bad,chkL];have I:l.getD i .bad∈l:=by grind
   have hg:decide ((i:Int)>0)=decide (0<i):=by grind
   have hr:=aw9 (l.getD i .bad) (hs _ I);have en:((l.getD i .bad).fld 0).asStr=ah0 (l.getD i .bad):=rfl;have step:S118_5step 0 (l,t,(i:Int))=some (if chk1 (l.getD i .bad) t h (decide (0<i))=0 then .inl (l,t,((i+1:Nat):Int)) else .inr (.inl (chk1 (l.getD i .bad) t h (decide (0<i))))):=by
    simp only [S118_5step,S118_5,afq,aaa,o,decide_true,Af,Ai,hg,en,aqj,a0w,hr,Aa,avp (i:=i) (by omega)];unfold chk1;by_cases Z:amd (ah0 (l.getD i .bad))=0
    ·grind
    ·have:(amd (ah0 (l.getD i .bad))==(0:Int))=false:=beqI Z;rw [this,Ah,if_neg Z];cases ayl (ah0 (l.getD i .bad)) t
     ·rfl
     ·simp only [Ay,Ah,Bool.true_eq_false,Bb];cases ay6 (l.getD i .bad)
      ·rfl
      ·simp only [Ay,Ah,Bool.true_eq_false,Bb];by_cases M:0<i
       ·have w:IntKind.wrap .i64 ((i:Int)-(1:Int))=((i-1:Nat):Int):=by
         grind [abe]
        have H:i-1<l.length:=by omega
        have el:ah0 (l.getD (i-1) .bad)=h:=(z M).symm;have J:((l.getD (i-1) .bad).fld 0).asStr=h:=el;simp only [M,decide_true,imp,Af,w,aaa,H,Ai,J,Bool.true_and];grind
       ·simp only [M,decide_false,imp,Ah,Av,Af,atg,Bool.false_and,A8,Bb,A9]
   by_cases O:chk1 (l.getD i .bad) t h (decide (0<i))=0
   ·rw [if_pos O] at step ⊢;rw [aao step,ih (i+1) (ah0 (l.getD i .bad)) (by omega) (by omega) (λ_=>rfl),Ag (show 0<i+1 by omega)]
   ·rw [if_neg O] at step ⊢;grind [decide_eq_false,aai]
  grind
theorem aw8 (l:List PV) (t:Int) (I:l.length<=1048576) (J:∀ n,n∈l->ahe n):F118 0 l t=some (ayb l t):=by
 have h:=asb l t I J l.length 0 [] (by omega) (by omega) (λh=>by omega);unfold F118 ayb;have H:decide ((l.length:Int)>8)=decide (l.length>8):=by grind
 rw [H,aec,show (0:Int)=((0:Nat):Int) from rfl,h];by_cases z:l.length>8
 ·simp [z]
 ·simp only [z,decide_false,Ah,Bb,Ap,Nat.lt_irrefl];by_cases o:chkL t l [] false=0
  ·rw [o];rfl
  ·rw [An o];rfl
end Go.Ab
namespace Go.Ab
open Go
set_option maxRecDepth 100000
theorem dig (d:Nat) (h:d<10):[PV.int (IntKind.wrap .u8 (IntKind.wrap .u64 ((48:Int)+(d:Int))))].map aay=[UInt8.ofNat (48+d)]:=by
 have:IntKind.wrap .u8 (IntKind.wrap .u64 ((48:Int)+(d:Int)))=((48+d:Nat):Int):=by rw [IntKind.wrap_u64,IntKind.wrap_u8];omega
 rw [this];rfl
def preD (u:Nat):Bo:=if u<10 then [] else Lib.decDigits (u / 10)
theorem a5i (u:Nat):preD u++[UInt8.ofNat (48+u%10)]=Lib.decDigits u:=by have e:=Lib.decDigits.eq_1 u;unfold preD;grind
theorem atj:∀ (k u:Nat) (acc:Bo),u<10^(k+1)->u<18446744073709551616->acc.length+k<=1000->aa3 (S211_3step 0) ((u:Int),acc)=some (preD u++acc):=by
 intro k;induction k with
 | zero=>intro u acc M _ _;have o:decide ((u:Int)>=(10:Int))=false:=An (by omega);rw [preD,if_pos (by omega)];exact aai (by simp only [S211_3step,S211_3,o,Ah];rfl)
 | succ k Z=>
  intro u acc M z hb;by_cases h:u<10
  ·grind
  ·have o:decide ((u:Int)>=(10:Int))=true:=Ag (by omega);have O:IntKind.wrap .u64 ((u:Int).tdiv (10:Int))=((u / 10:Nat):Int):=by
    rw [show (u:Int).tdiv (10:Int)=((u / 10:Nat):Int) from rfl,IntKind.wrap_u64];omega
   have I:((u / 10:Nat):Int).tmod (10:Int)=((u / 10%10:Nat):Int):=rfl;have J:preD u++acc=preD (u / 10)++(UInt8.ofNat (48+u / 10%10)::acc):=by have:=a5i (u / 10);rw [show preD u=Lib.decDigits (u / 10) by rw [preD,if_neg h],<-this,As];rfl
   rw [J,<-Z (u / 10) (UInt8.ofNat (48+u / 10%10)::acc) (by grind) (by omega) (by simp;omega)];refine aao ?_;have H:decide ([UInt8.ofNat (48+u / 10%10)].length+acc.length<=aam)=true:=alh (by simp;omega);simp only [S211_3step,S211_3,o,O,I,dig _ (Nat.mod_lt _ (by decide:0<10)),H,Af];rfl
theorem aqd (u:Nat) (o:u<18446744073709551616):F211 0 (u:Int)=some (decB u):=by unfold F211;have h:((u:Nat):Int).tmod (10:Int)=((u%10:Nat):Int):=rfl;rw [h,dig _ (Nat.mod_lt _ (by decide:0<10)),aec,atj 19 u _ (by omega) o (by simp),a5i,aq7 (by omega)];rfl
theorem a7z:∀ (f u:Nat),(decF f u).length<=f:=by
 intro f;induction f with
 | zero=>intro u;simp [decF]
 | succ f h=>grind [decF,Nat.ble]
theorem aq8 (u:Nat):(decB u).length<=20:=a7z 20 u
theorem a4a (n:Int):(apm n).length<=21:=by grind [apm,aq8,decide]
def asm (v:PV):Bo:=
 bif ad8 (aa5 v) v then
  (bif aa5 v==1 then (bif ab4 v==1 then [116,114,117,101] else [102,97,108,115,101])
  else bif aa5 v==2 then apm (IntKind.wrap .i64 (ab4 v)) else bif aa5 v==3 then apm (IntKind.wrap .i64 (ab4 v)) else bif aa5 v==7 then aor (acs v) else decB (ab4 v).toNat)
 else []
theorem a9b (n:Int) (h:-9223372036854775808<=n) (o:n<=9223372036854775807):as2 0 n=some (apm n):=by grind [as2,decide_eq_true]
theorem wrapI (u:Nat) (h:u<18446744073709551616):-9223372036854775808<=IntKind.wrap .i64 (u:Int)/\IntKind.wrap .i64 (u:Int)<=9223372036854775807:=by rw [IntKind.wrap_i64];omega
theorem bc2 (v:PV) (hs:ac7 v) (h6:aa5 v≠6) (h8:aa5 v≠8):F203 0 v=some (asm v):=by
 obtain ⟨_,J,h,z⟩:=hs;obtain ⟨u,hu⟩:∃ u:Nat,ab4 v=(u:Int):=⟨(ab4 v).toNat,(Int.toNat_of_nonneg h).symm⟩;have o:u<18446744073709551616:=by omega
 have I:=wrapI u o;have M:(v.fld 0).asInt=aa5 v:=rfl;have O:(v.fld 1).asInt=ab4 v:=rfl;have Z:(v.fld 2).asStr=acs v:=rfl;have k6:(aa5 v==(6:Int))=false:=beqI h6;have k8:(aa5 v==(8:Int))=false:=beqI h8;have H:azi 0 (u:Int) (10:Int)=some (decB u):=by grind [azi,decide_eq_true]
 have hf:Lfmt 0 (u:Int) (10:Int)=some (decB u):=H;unfold F203 asm;simp only [M,O,Z,am0 _ _ ⟨by assumption,J,h,z⟩,Aa,k6,k8,Ah,asa _ J,hu,a9b _ I.1 I.2,F225,hf,Ai,F222,F235];grind
theorem a0x (v:PV) (hs:ac7 v) (h6:aa5 v≠6) (h8:aa5 v≠8):F198 0 v=some (asm v):=by
 obtain ⟨_,Z,o,I⟩:=hs;obtain ⟨u,hu⟩:∃ u:Nat,ab4 v=(u:Int):=⟨(ab4 v).toNat,(Int.toNat_of_nonneg o).symm⟩;have z:u<18446744073709551616:=by omega
 have e0:(v.fld 0).asInt=aa5 v:=rfl;have e1:(v.fld 1).asInt=ab4 v:=rfl;have e2:(v.fld 2).asStr=acs v:=rfl;have k6:(aa5 v==(6:Int))=false:=beqI h6;have k8:(aa5 v==(8:Int))=false:=beqI h8;have J:(bif decide ((u:Int)>=(9223372036854775808:Int)) then (F211 0 (IntKind.wrap .u64 (0-(u:Int)))).bind λH=>bif decide (([45]:Bo).length+H.length<=aam) then some (([45]:Bo)++H) else none
  else some (decB u))=some (apm (IntKind.wrap .i64 (u:Int))):=by
  unfold apm
  by_cases h:u<9223372036854775808
  ·have M:decide ((u:Int)>=(9223372036854775808:Int))=false:=An (by omega);have O:IntKind.wrap .i64 (u:Int)=(u:Int):=by rw [IntKind.wrap_i64];omega
   grind
  ·have hw:IntKind.wrap .u64 (0-(u:Int))=((18446744073709551616-u:Nat):Int):=by rw [IntKind.wrap_u64];omega
   have hl:=aq8 (18446744073709551616-u);have M:decide ((u:Int)>=(9223372036854775808:Int))=true:=Ag (by omega);have O:IntKind.wrap .i64 (u:Int)=(u:Int)-18446744073709551616:=by rw [IntKind.wrap_i64];omega
   have d3:decide ((u:Int)-18446744073709551616<0)=true:=Ag (by omega);have d4:((u:Int)-18446744073709551616).natAbs=18446744073709551616-u:=by omega
   have d5:=aqd (18446744073709551616-u) (by omega);simp only [M,O,d3,d4,hw,d5,Af,Aa];grind [decB,alh]
 unfold F198 asm;simp only [e0,e1,e2,ad0 _ _ ⟨by assumption,Z,o,I⟩,Aa,k6,k8,Ah,ajp _ Z,hu,J,aqd u z,Ai];grind
theorem a6m (v:PV) (H:(acs v).length<=1048576):(asm v).length<=4194400:=by have h:=agk (acs v);have o:=aq8 (ab4 v).toNat;have z:=a4a (IntKind.wrap .i64 (ab4 v));unfold asm;grind
end Go.Ab
