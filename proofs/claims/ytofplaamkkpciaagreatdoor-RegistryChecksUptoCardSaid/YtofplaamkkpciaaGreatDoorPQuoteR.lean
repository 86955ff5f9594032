/- Quoting: the program's and the specification's are the same. -/
import Derived.Test.YtofplaamkkpciaaGreatDoorPName0R
set_option linter.unusedVariables false
set_option linter.unusedSimpArgs false
set_option linter.unnecessarySimpa false
namespace Go.Ab
open Go
set_option maxRecDepth 100000
theorem nbeq(a b:Nat):((a:Int)==(b:Int))=decide (a=b):=by grind
theorem afe{n:Nat}(h:n<=4611686018427387904):decide (n<=aac)=true:=Ah h
theorem a5e:((List.range 256).all λb=>F399 (b:Int)==some (92::120::hex2 b))=true:=by kernel_rfl
theorem a9d{b:Nat}(h:b<256):F399 (b:Int)=some (92::120::hex2 b):=by grind[List.all_eq_true,a5e]
theorem bfb:((List.range 256).all λb=>F262 (b:Int)==some (hex2 b))=true:=by kernel_rfl
theorem bbc{b:Nat}(h:b<256):F262 (b:Int)=some (hex2 b):=by grind[List.all_eq_true,bfb]
theorem bhv(s:Bn)(i:Nat)(t:i<s.length):F316 s (i:Int) ((aao s i).1:Int)=some (aka s i):=by
 unfold F316 aka;have hw:=a4h s i t;have hb:((s.getD ((i:Int)).toNat 0).toNat:Int)=(byteAt s i:Int):=rfl;have he:=a9d (acj s i);have hr:aab (i:Int) s.length=true:=by rw[aaa,Ah t]
 have J:(((aao s i).1:Int)==(34:Int))=decide ((aao s i).1=34):=nbeq _ 34;have M:(((aao s i).1:Int)==(92:Int))=decide ((aao s i).1=92):=nbeq _ 92;have G:(((aao s i).1:Int)==(10:Int))=decide ((aao s i).1=10):=nbeq _ 10;have k9:(((aao s i).1:Int)==(9:Int))=decide ((aao s i).1=9):=nbeq _ 9;have H:(((aao s i).1:Int)==(13:Int))=decide ((aao s i).1=13):=nbeq _ 13;have m:(((aao s i).1:Int)==(127:Int))=decide ((aao s i).1=127):=nbeq _ 127;have I:decide (((aao s i).1:Int)<(32:Int))=decide ((aao s i).1<32):=aai _ 32;simp only[J,M,G,k9,H,m,I,hw,hr,hb,he,Ad,Aa];by_cases o:byteAt s i<128
 ·rw[afq s i o,ank s i o];have z:=ale s i t (by grind[ank]);rw[afq s i o,ank s i o]at z;grind
 ·have hh:=apy s i (by omega);have U:decide ((aao s i).1=34)=false:=Av (by omega);have V:decide ((aao s i).1=92)=false:=Av (by omega);have W:decide ((aao s i).1=10)=false:=Av (by omega);have X:decide ((aao s i).1=9)=false:=Av (by omega);have Y:decide ((aao s i).1=13)=false:=Av (by omega);have Z:decide ((aao s i).1=127)=false:=Av (by omega);have d7:decide ((aao s i).1<32)=false:=Av (by omega);have e1:¬byteAt s i=34:=by omega
  have e2:¬byteAt s i=92:=by omega
  have e3:¬byteAt s i=10:=by omega
  have e4:¬byteAt s i=9:=by omega
  have e5:¬byteAt s i=13:=by omega
  have e6:¬byteAt s i=127:=by omega
  have e7:¬byteAt s i<32:=by omega
  simp only[U,V,W,X,Y,Z,d7,e1,e2,e3,e4,e5,e6,e7,Af,Ao,Ad,Aa,A9,false_or];by_cases O:sizeAt s i=0
  ·simp[O]
  ·simp only[O,decide_false,Af,A9];grind[ale]
theorem a6n(s:Bn):∀(m i:Nat)(acc:Bn),s.length-i<=m->i<=s.length->acc.length+4*(s.length-i)<=140737488355328->
 ∃z,aap ((Y6 S207_5)) (s,(),(),acc,s,(i:Int))=some ((),acc++acu s i,s,z):=by
 intro m
 induction m with
 |zero=>
  intro i acc I G t
  have o:¬i<s.length:=by omega
  rw[acu,if_neg o]
  refine⟨(i:Int),aae ?_⟩
  simp only[Y6,S207_5,Ae,o,decide_false,Af,List.append_nil]
 |succ m O=>
  intro i acc I G t
  by_cases o:i<s.length
  ·have V:=aq0 s i o;have U:=at3 s i o;have H:=aht s i;obtain⟨z,M⟩:=O (i+ad7 s i) (acc++aka s i) (by omega) (by omega) (by grind);refine⟨z,?_⟩;rw[acu,if_pos o,<-Aq,<-M];refine aan ?_;have J:Nat.ble (acc.length+(aka s i).length) 140737488355328=true:=by rw[Nat.ble_eq];omega
   simp only[Y6,S207_5,Ae,o,decide_true,Ad,aif,bhv s i o,bgg s i o,Aa,aa3,J]
  grind
theorem adj(s:Bn):(akt s).length<=4*s.length+2:=by have:=aho s s.length 0 (by omega);simp[akt];omega
theorem al9(s:Bn)(H:s.length<=1048576):F207 s=some (akt s):=by
 obtain⟨z,m⟩:=a6n s s.length 0 [34] (by omega) (by omega) (by simp;omega);have G:=aho s s.length 0 (by omega);unfold F207;have o:aa3 0 ([34]:Bn) []=some (1,.nilIface,[34]):=rfl;have t:Nat.ble (([34]++acu s 0).length+1) 140737488355328=true:=by grind[Nat.ble_eq]
 simp only[o,Aa,aat,m];simp only[aa3,Al,Am,Nat.zero_add,t,Ad,Aa,ah7];simp[akt]
theorem avu(s:Bn)(hs:s.length<=9223372036854775000)(i:Nat)(acc:Bn)(z:i<s.length)(hb:acc.length<=4611686018427380000):
 (Y3 S178_4) (s,acc,(i:Int))=some (.inl (s,acc++aka s i,((i+ad7 s i:Nat):Int))):=by
 have hz:=arq s i z
 have G:((s.getD i 0).toNat:Int)=(byteAt s i:Int):=rfl
 have hr:aab (i:Int) s.length=true:=by rw[aaa,Ah z]
 have U:((byteAt s i:Int)==(34:Int))=decide (byteAt s i=34):=nbeq _ 34
 have V:((byteAt s i:Int)==(92:Int))=decide (byteAt s i=92):=nbeq _ 92
 have J:((byteAt s i:Int)==(10:Int))=decide (byteAt s i=10):=nbeq _ 10
 have k9:((byteAt s i:Int)==(9:Int))=decide (byteAt s i=9):=nbeq _ 9
 have M:((byteAt s i:Int)==(13:Int))=decide (byteAt s i=13):=nbeq _ 13
 have o:((byteAt s i:Int)==(127:Int))=decide (byteAt s i=127):=nbeq _ 127
 have O:decide ((byteAt s i:Int)<(32:Int))=decide (byteAt s i<32):=aai _ 32
 have k0:((sizeAt s i:Int)==(0:Int))=decide (sizeAt s i=0):=nbeq _ 0
 have w1:IntKind.wrap .i64 ((i:Int)+(1:Int))=((i+1:Nat):Int):=ar4 (by omega)
 have w2:IntKind.wrap .i64 ((i:Int)+(sizeAt s i:Int))=((i+sizeAt s i:Nat):Int):=wadd (by omega)
 have H:decide ((0:Int)<=(i:Int)/\(i:Int)<=((i+sizeAt s i:Nat):Int)/\((i+sizeAt s i:Nat):Int)<=(s.length:Int))=true:=Ah (by omega)
 have I:(s.take (i+sizeAt s i)).drop i=(s.drop i).take (sizeAt s i):=by grind
 have aa:(bif decide (sizeAt s i=0)then((i+1:Nat):Int)else((i+sizeAt s i:Nat):Int))=((i+ad7 s i:Nat):Int):=by grind[ad7,sizeAt]
 have m:∀t:Bn,(bif decide (sizeAt s i=0)then some (Sum.inl (s,t,((i+1:Nat):Int)))else some (Sum.inl (s,t,((i+sizeAt s i:Nat):Int))))=(some (.inl (s,t,((i+ad7 s i:Nat):Int))):Option ((Bn×Bn×Int)⊕((Bn)))):=by grind
 simp only[Y3,S178_4,aai,z,decide_true,Ad,bb9 s i z hs,Aa,hr,G,U,V,J,k9,M,o,O,k0,w1,w2,H,Ae,I,bbc (acj s i)]
 unfold aka
 have l2:∀a b:UInt8,decide (acc.length+[a,b].length<=aac)=true:=λa b=>afe (by simp;omega)
 have l4:∀a b c d:UInt8,decide ((acc++[a,b]).length+[c,d].length<=aac)=true:=λa b c d=>afe (by simp;omega)
 have ls:decide (acc.length+((s.drop i).take (sizeAt s i)).length<=aac)=true:=afe (by simp;omega)
 have l5:decide (acc.length+2+2<=aac)=true:=afe (by omega)
 simp only[l2,ls,hex2,l4,Ad,m]
 by_cases W:byteAt s i=34
 ·simp[W]
 by_cases X:byteAt s i=92
 ·simp[X]
 by_cases Y:byteAt s i=10
 ·simp[Y]
 by_cases Z:byteAt s i=9
 ·simp[Z]
 by_cases c5:byteAt s i=13
 ·simp[c5]
 simp only[W,X,Y,Z,c5,decide_false,Af,A9]
 by_cases c6:byteAt s i<32
 ·simp[c6,l5]
 ·by_cases c7:byteAt s i=127
  ·simp[c7,l5]
  ·by_cases c8:sizeAt s i=0;all_goals grind
theorem avt(s:Bn)(O:s.length<=1048576):∀(m i:Nat)(acc:Bn),s.length-i<=m->i<=s.length->acc.length+4*(s.length-i)<=140737488355328->
 aap ((Y3 S178_4)) (s,acc,(i:Int))=some (acc++acu s i):=by
 intro m
 induction m with
 |zero=>
  intro i acc H z t
  have o:¬i<s.length:=by omega
  rw[acu,if_neg o]
  refine aae ?_
  simp only[Y3,S178_4,aai,o,decide_false,Af,List.append_nil]
 |succ m I=>
  intro i acc H z t
  by_cases o:i<s.length
  ·have M:=aq0 s i o;have J:=at3 s i o;have G:=aht s i;rw[acu,if_pos o,<-Aq,<-I (i+ad7 s i) (acc++aka s i) (by omega) (by omega) (by grind)];grind[aan,avu]
  grind
theorem afj(s:Bn)(m:s.length<=1048576):F178 s=some (akt s):=by have o:=avt s m s.length 0 [34] (by omega) (by omega) (by simp;omega);have t:=aho s s.length 0 (by omega);unfold F178;rw[aat,show(0:Int)=((0:Nat):Int)from rfl,o,Aa,afe (by simp;omega)];simp[akt]
end Go.Ab
namespace Go.Ab
open Go
theorem bneI{a b:Int}(h:a≠b):(a != b)=true:=by simp[h]
theorem beqI{a b:Int}(h:a≠b):(a==b)=false:=by simp[h]
theorem aq1{α:Type}(b:Bool)(x y:α):(bif b then some x else some y)=some (bif b then x else y):=by cases b<;>rfl
def afs:Bn:=[100,101,112,114,101,99,97,116,101,100]
def ao0:Bn:=[115,101,99,114,101,116]
def aft:Bn:=[105,100,101,109,112,111,116,101,110,116]
def be0:Bn:=[100,111,99]
def avg:Bn:=[97,108,105,97,115]
def avi:Bn:=[114,111,117,116,101]
def avh:Bn:=[111,119,110,101,114]
def avj:Bn:=[115,105,110,99,101]
def avk:Bn:=[117,110,116,105,108]
def aoz:Bn:=[108,101,110,103,116,104]
def al3:Bn:=[116,105,109,101,111,117,116]
def be3:Bn:=[109,105,110]
def be2:Bn:=[109,97,120]
def abm:List Bn:=[afs,ao0,aft,be0,avg,avi,avh,avj,avk,aoz,al3,be3,be2]
noncomputable def adb(name:Bn):Int:=(F355 name).getD 0
theorem atw(name:Bn):F355 name=some (adb name):=by unfold adb;simp only[F355,aq1,Option.getD_some]
theorem a1y{name:Bn}(h:name∉abm):(name==afs)=false/\(name==ao0)=false/\(name==aft)=false/\(name==be0)=false/\(name==avg)=false/\(name==avi)=false/\(name==avh)=false/\
 (name==avj)=false/\(name==avk)=false/\(name==aoz)=false/\(name==al3)=false/\(name==be3)=false/\(name==be2)=false:=by
 simp only[abm,Bi,List.not_mem_nil,or_false,not_or]at h
 grind
theorem af2{name:Bn}(h:name∉abm):adb name=0:=by obtain⟨G,H,I,J,M,O,U,V,W,m,o,t,z⟩:=a1y h;unfold afs at G;unfold ao0 at H;unfold aft at I;unfold be0 at J;unfold avg at M;unfold avi at O;unfold avh at U;unfold avj at V;unfold avk at W;unfold aoz at m;unfold al3 at o;unfold be3 at t;unfold be2 at z;simp only[adb,F355,G,H,I,J,M,O,U,V,W,m,o,t,z,Af,Option.getD_some]
theorem axq{name:Bn}(h:name∈abm):adb name≠0:=by
 simp only[abm,Bi,List.not_mem_nil,or_false]at h;have e:∀k:Int,k≠0->some (adb name)=some k->adb name≠0:=λk o m=>by grind
 rcases h with rfl|rfl|rfl|rfl|rfl|rfl|rfl|rfl|rfl|rfl|rfl|rfl|rfl
 ·exact e 1 (by decide) (by kernel_rfl)
 ·exact e 1 (by decide) (by kernel_rfl)
 ·exact e 1 (by decide) (by kernel_rfl)
 ·exact e 7 (by decide) (by kernel_rfl)
 ·exact e 7 (by decide) (by kernel_rfl)
 ·exact e 7 (by decide) (by kernel_rfl)
 ·exact e 7 (by decide) (by kernel_rfl)
 ·exact e 4 (by decide) (by kernel_rfl)
 ·exact e 4 (by decide) (by kernel_rfl)
 ·exact e 4 (by decide) (by kernel_rfl)
 ·exact e 4 (by decide) (by kernel_rfl)
 ·exact e 3 (by decide) (by kernel_rfl)
 ·exact e 3 (by decide) (by kernel_rfl)
noncomputable def alr:List (PV×PV):=(F393).getD []
theorem a3e:F393=some alr:=by kernel_rfl
theorem a0h:alr=[(.str afs,.agg [.int 1,.int 126]),(.str be0,.agg [.int 7,.int 126]),(.str avg,.agg [.int 7,.int 84]),(.str avj,.agg [.int 4,.int 84]),(.str avk,.agg [.int 4,.int 84]),(.str be3,.agg [.int 3,.int 4]),(.str be2,.agg [.int 3,.int 4]),
 (.str aoz,.agg [.int 4,.int 4]),(.str ao0,.agg [.int 1,.int 4]),(.str aft,.agg [.int 1,.int 64]),(.str al3,.agg [.int 4,.int 64]),(.str avi,.agg [.int 7,.int 64]),(.str avh,.agg [.int 7,.int 34])]:=by kernel_rfl
theorem an8{name:Bn}(h:name∉abm):PV.mget alr (.str name)=none:=by obtain⟨G,H,I,J,M,O,U,V,W,m,o,t,z⟩:=a1y h;rw[a0h];simp only[PV.mget,List.find?,ahj,aef,G,H,I,J,M,O,U,V,W,m,o,t,z,Option.map_none]
theorem bh8(name:Bn):F439 name=some (adb name):=by
 by_cases h:name∈abm
 ·simp only[abm,Bi,List.not_mem_nil,or_false]at h;rcases h with rfl|rfl|rfl|rfl|rfl|rfl|rfl|rfl|rfl|rfl|rfl|rfl|rfl;all_goals(refine Eq.trans (b:=_) ?_ rfl;kernel_rfl)
 ·rw[af2 h];unfold F439;rw[a3e,Aa,an8 h];rfl
noncomputable def ap5(name:Bn)(m:Int):Bool:=(F356 name m).getD false
theorem atv(name:Bn)(m:Int):F356 name m=some (ap5 name m):=by unfold ap5;simp only[F356,aq1,Option.getD_some]
theorem bcm{name:Bn}(h:name∈abm)(t:Int):(bif (bif (decide (t<(1:Int)))then true else(decide (t>(6:Int))))then true else((aer .and .i64 (((((PV.mget alr (.str name)).getD (.agg [.int 0,.int 0])).fld 1).asInt).fdiv (2^(min t.toNat (IntKind.bits .i64)))) (1:Int))==(0:Int)))=!(ap5 name t):=by
 have e:∀b:Bool,some (ap5 name t)=some b->ap5 name t=b:=λb h=>by cases h;rfl
 simp only[abm,Bi,List.not_mem_nil,or_false]at h;by_cases m:t<1\/t>6
 ·have M:(bif decide (t<(1:Int))then true else decide (t>(6:Int)))=true:=by
   rcases m with m|m
   ·simp[m]
   ·simp[m]
  rw[M,Ad];have o:(t==1)=false:=by simp;omega
  have z:(t==2)=false:=by simp;omega
  have G:(t==4)=false:=by simp;omega
  have H:(t==5)=false:=by simp;omega
  have I:(t==6)=false:=by simp;omega
  have J:(bif decide (t>=(1:Int))then decide (t<=(6:Int))else false)=false:=by
   by_cases q:t>=1
   ·have:¬t<=6:=by omega
    simp[q,this]
   ·simp[q]
  rw[e false ?_]
  ·rfl
  rw[<-atv];simp only[F356,o,z,G,H,I,J,Af,aq1,agd]
 ·have O:t=1\/t=2\/t=3\/t=4\/t=5\/t=6:=by omega
  rcases h with rfl|rfl|rfl|rfl|rfl|rfl|rfl|rfl|rfl|rfl|rfl|rfl|rfl<;>rcases O with rfl|rfl|rfl|rfl|rfl|rfl;all_goals(refine Eq.trans (b:=_) ?_ rfl;kernel_rfl)
def aa0(v:PV):Int:=(v.fld 0).asInt
def abk(v:PV):Int:=(v.fld 1).asInt
def acv(v:PV):Bn:=(v.fld 2).asStr
def vLists(v:PV):Nat:=(v.fld 3).asList.length+(v.fld 4).asList.length+(v.fld 5).asList.length+(v.fld 6).asList.length
def acp(v:PV):Prop:=vLists v<=1048576/\(acv v).length<=1048576/\0<=abk v/\abk v<18446744073709551616
def aqc(k:Int):Bool:=decide (1<=k/\k<=9)
def ahu(k:Int):Bool:=k==7||k==8
def aq3(k m:Int):Bool:=
 if k=1 then decide (m<=1)else if k=2 then decide (-2147483648<=IntKind.wrap .i64 m/\IntKind.wrap .i64 m<=2147483647)else if k=4 then decide (m<4294967296)else if k=9 then decide (m<2147483648)else true
def ad2(k:Int)(v:PV):Bool:=
 aqc k&&(aa0 v==k)&&decide (vLists v=0)&&(if ahu k then(abk v==0)&&decide ((acv v).length<=4096)&&((k==8)||valid (acv v))else(acv v==[])&&aq3 k (abk v))
theorem bkn(a b c d:List PV):(bif (bif (bif ((a.length:Int)==(0:Int))then((b.length:Int)==(0:Int))else false)then((c.length:Int)==(0:Int))else false)then((d.length:Int)==(0:Int))else false)=decide (a.length+b.length+c.length+d.length=0):=by cases a<;>cases b<;>cases c<;>cases d<;>simp<;>omega
theorem adu(k:Int)(v:PV)(I:acp v):F349 k v=some (ad2 k v):=by
 have J:F250 (acv v)=some (valid (acv v)):=akw _ (by have:=I.2.1;omega);have o:(v.fld 0).asInt=aa0 v:=rfl;have t:(v.fld 1).asInt=abk v:=rfl;have z:(v.fld 2).asStr=acv v:=rfl;have M:(bif decide (k>=(1:Int))then decide (k<=(9:Int))else false)=aqc k:=by grind[aqc]
 have O:(bif (k==(7:Int))then true else(k==(8:Int)))=ahu k:=by grind[ahu]
 unfold F349 F417 F418 F419;simp only[Aa,bkn,M,O,o,t,z,J,gb];unfold ad2;have G:(v.fld 3).asList.length+(v.fld 4).asList.length+(v.fld 5).asList.length+(v.fld 6).asList.length=vLists v:=rfl;simp only[G];cases U:aqc k
 ·simp
 cases H:(aa0 v==k)
 ·grind
 have m:(aa0 v != k)=false:=by simp[bne,H]
 simp only[m,An,Af,Ao,Bool.true_and,Ad];cases V:decide (vLists v=0)
 ·simp
 simp only[An,Af,Bool.true_and];cases W:ahu k
 ·simp only[Af,A3,A9];cases X:(acv v==[])
  ·simp
  simp only[An,Af,Bool.true_and];unfold aq3;grind
 grind
theorem ahg(k:Int)(v:PV)(Y:acp v):F370 k v=some (ad2 k v):=by
 have Z:F193 (acv v)=some (valid (acv v)):=awg _;have I:(v.fld 0).asInt=aa0 v:=rfl;have J:(v.fld 1).asInt=abk v:=rfl;have M:(v.fld 2).asStr=acv v:=rfl;have i1:(bif decide (k>=(1:Int))then decide (k<=(9:Int))else false)=aqc k:=by grind[aqc]
 have O:(v.fld 3).asList.length+(v.fld 4).asList.length+(v.fld 5).asList.length+(v.fld 6).asList.length=vLists v:=rfl;have hL:=Y.1;have w1:IntKind.wrap .i64 (((v.fld 3).asList.length:Int)+((v.fld 4).asList.length:Int))=(((v.fld 3).asList.length+(v.fld 4).asList.length:Nat):Int):=wadd (by grind);have w2:IntKind.wrap .i64 ((((v.fld 3).asList.length+(v.fld 4).asList.length:Nat):Int)+((v.fld 5).asList.length:Int))=(((v.fld 3).asList.length+(v.fld 4).asList.length+(v.fld 5).asList.length:Nat):Int):=wadd (by grind);have w3:IntKind.wrap .i64 ((((v.fld 3).asList.length+(v.fld 4).asList.length+(v.fld 5).asList.length:Nat):Int)+((v.fld 6).asList.length:Int))=(((v.fld 3).asList.length+(v.fld 4).asList.length+(v.fld 5).asList.length+(v.fld 6).asList.length:Nat):Int):=wadd (by grind);have tk:∀k:Int,(bif (k==(7:Int))then true else(k==(8:Int)))=ahu k:=λk=>by grind[ahu]
 unfold F370 F428 F429 F430 F453;simp only[Aa,i1,tk,I,J,M,Z,gb,w1,w2,w3,O];have m:(bif (k==(1:Int))then some (decide (abk v<=1))else bif (k==(2:Int))then some (bif decide (IntKind.wrap .i64 (abk v)>=-2147483648)then decide (IntKind.wrap .i64 (abk v)<=2147483647)else false)else
  bif (k==(9:Int))then some (decide (abk v<=2147483647))else bif (k==(4:Int))then some (decide (abk v<=4294967295))else some true)=some (aq3 k (abk v)):=by
  unfold aq3
  grind
 rw[m];unfold ad2;cases h1:aqc k
 ·simp
 cases H:(aa0 v==k)
 ·grind
 have U:(aa0 v != k)=false:=by simp[bne,H]
 have o:aa0 v=k:=by simpa using H
 rw[o];have t:(k != k)=false:=by simp
 simp only[t,An,Af,Ao,Bool.true_and,Ad];by_cases V:vLists v=0
 ·have z:decide ((vLists v:Int)>0)=false:=by simp;omega
  simp only[z,Af,V,decide_true,Bool.true_and];have W:decide (((acv v).length:Int)>4096)=!decide ((acv v).length<=4096):=by grind
  cases h4:ahu k
  ·simp only[Af,A3,A9,Aa];have k7:(k != 7)=true:=by
    grind
   all_goals grind
  ·simp only[Ad,A8,Aa];have X:aq3 k (abk v)=true:=by
    all_goals grind
   simp only[X,W];have G:k=7\/k=8:=by all_goals grind
   rcases G with rfl|rfl;all_goals grind
 grind
def adg(n:PV):Bn:=(n.fld 0).asStr
def nVal(n:PV):PV:=n.fld 1
noncomputable def adl(n:PV):Bool:=(adb (adg n) != 0)&&ad2 (adb (adg n)) (nVal n)
def ab5(n:PV):Prop:=acp (nVal n)/\(adg n).length<=1048576
theorem a3t(n:PV)(o:ab5 n):F394 n=some (adl n):=by unfold F394;have e:(n.fld 0).asStr=adg n:=rfl;have m:n.fld 1=nVal n:=rfl;simp only[e,m,bh8,Aa,ahg _ _ o.1,gb];grind[adl,adb,adg]
theorem atj{k:Int}{v:PV}(h:(aa0 v==k)=false):ad2 k v=false:=by grind[ad2]
theorem ara(n:PV)(t:ab5 n):F357 n=some (adl n):=by unfold F357;have e:(n.fld 0).asStr=adg n:=rfl;have m:n.fld 1=nVal n:=rfl;have o:((nVal n).fld 0).asInt=aa0 (nVal n):=rfl;simp only[e,m,o,atw,Aa,adu _ _ t.1,gb];grind[adl,aa0,nVal,adb,adg,atj]
noncomputable def chk1(n:PV)(t:Int)(m:Bn)(o:Bool):Int:=
 if adb (adg n)=0 then 8 else if ap5 (adg n) t=false then 1 else if adl n=false then 12 else if o&&Op.bytesLess (adg n) m then 11 else if o&&(adg n==m)then 9 else 0
noncomputable def chkL(t:Int):List PV->Bn->Bool->Int
 |[],_,_=>0
 |n::r,last,ok=>if chk1 n t last ok=0 then chkL t r (adg n) true else chk1 n t last ok
noncomputable def ab3(l:List PV)(t:Int):Int:=if l.length>8 then 3 else chkL t l [] false
theorem bih(name:Bn):PV.mhas alr (.str name)=decide (name∈abm):=by
 by_cases h:name∈abm
 ·rw[Ah h];simp only[abm,Bi,List.not_mem_nil,or_false]at h;rcases h with rfl|rfl|rfl|rfl|rfl|rfl|rfl|rfl|rfl|rfl|rfl|rfl|rfl;all_goals(refine Eq.trans (b:=_) ?_ rfl;kernel_rfl)
 grind[decide_eq_false,PV.mhas,an8]
theorem bk8(n:PV)(t:Int)(m:Bn)(o:Bool)(G:ab5 n):F310 n t m o=some (chk1 n t m o):=by
 unfold F310 chk1;have e:(n.fld 0).asStr=adg n:=rfl;simp only[e,a3e,Aa,bih,a3t n G];by_cases h:adg n∈abm
 ·have z:=axq h;have H:=bcm h t;simp only[h,decide_true,An,Af,if_neg z];rw[H];have I:imp (!(bif decide (t<(1:Int))then true else decide (t>(6:Int)))) (decide (0<=t))=true:=by
   grind[imp]
  grind
 ·rw[af2 h];grind
theorem a4x(l:List PV)(t:Int)(X:l.length<=1048576)(V:∀n,n∈l->ab5 n):∀(m i:Nat)(o:Bn),l.length-i<=m->i<=l.length->
 aap ((Y5 S204_6)) (t,o,l,(l.length:Int),(i:Int))=some (bif decide (chkL t (l.drop i) o (decide (0<i))=0)then .inr ()else .inl (chkL t (l.drop i) o (decide (0<i)))):=by
 intro m
 induction m with
 |zero=>
  intro i o U O
  have z:¬i<l.length:=by omega
  rw[Ba (by omega)]
  exact aae (by simp only[Y5,S204_6,aai,z,decide_false,Af];rfl)
 |succ m W=>
  intro i o U O
  by_cases z:i<l.length
  ·rw[aa2 z .bad,chkL];have H:l.getD i .bad∈l:=by grind
   have J:decide ((i:Int)>0)=decide (0<i):=by grind
   have I:=bk8 (l.getD i .bad) t o (decide (0<i)) (V _ H);by_cases G:chk1 (l.getD i .bad) t o (decide (0<i))=0
   ·rw[if_pos G];rw[aan (x1:=(t,adg (l.getD i .bad),l,(l.length:Int),((i+1:Nat):Int)))]
    ·rw[W (i+1) _ (by omega) (by omega),Ah (show 0<i+1 by omega)]
    ·rw[G]at I;simp only[Y5,S204_6,aai,aaa,z,decide_true,Ad,Ae,J,I,Aa,ar4 (i:=i) (by omega)];rfl
   ·rw[if_neg G,Av G];refine aae ?_;have M:(chk1 (l.getD i .bad) t o (decide (0<i)) != (0:Int))=true:=bneI G;simp only[Y5,S204_6,aai,aaa,z,decide_true,Ad,Ae,J,I,Aa,M];rfl
  grind
theorem a2m(l:List PV)(t:Int)(G:l.length<=1048576)(H:∀n,n∈l->ab5 n):F204 l t=some (ab3 l t):=by
 have h:=a4x l t G H l.length 0 [] (by omega) (by omega);unfold F204 ab3;have z:decide ((l.length:Int)>8)=decide (l.length>8):=by grind
 rw[z,aat,show(0:Int)=((0:Nat):Int)from rfl,h];by_cases o:l.length>8
 ·simp[o]
 ·simp only[o,decide_false,Af,A9,Ar,Nat.lt_irrefl];by_cases m:chkL t l [] false=0
  ·rw[m];rfl
  ·rw[Av m];rfl
theorem avq(l:List PV)(t:Int)(hl:l.length<=1048576)(hs:∀n,n∈l->ab5 n):∀(m i:Nat)(o:Bn),l.length-i<=m->i<=l.length->(0<i->o=adg (l.getD (i-1) .bad))->
 aap ((Y3 S260_5)) (l,t,(i:Int))=some (bif decide (chkL t (l.drop i) o (decide (0<i))=0)then .inr ()else .inl (chkL t (l.drop i) o (decide (0<i)))):=by
 intro m
 induction m with
 |zero=>
  intro i o Z Y _
  have z:¬i<l.length:=by omega
  rw[Ba (by omega)]
  exact aae (by simp only[Y3,S260_5,aai,z,decide_false,Af];rfl)
 |succ m ih=>
  intro i o Z Y G
  by_cases z:i<l.length
  ·rw[aa2 z .bad,chkL];have I:l.getD i .bad∈l:=by grind
   have X:decide ((i:Int)>0)=decide (0<i):=by grind
   have hr:=ara (l.getD i .bad) (hs _ I);have W:((l.getD i .bad).fld 0).asStr=adg (l.getD i .bad):=rfl;have step:(Y3 S260_5) (l,t,(i:Int))=some (if chk1 (l.getD i .bad) t o (decide (0<i))=0 then .inl (l,t,((i+1:Nat):Int))else .inr (.inl (chk1 (l.getD i .bad) t o (decide (0<i))))):=by
    simp only[Y3,S260_5,aai,aaa,z,decide_true,Ad,Ae,X,W,atw,atv,hr,Aa,ar4 (i:=i) (by omega)];unfold chk1;by_cases U:adb (adg (l.getD i .bad))=0
    ·grind
    ·have:(adb (adg (l.getD i .bad))==(0:Int))=false:=beqI U;rw[this,Af,if_neg U];cases ap5 (adg (l.getD i .bad)) t
     ·rfl
     ·simp only[An,Af,Bool.true_eq_false,A9];cases adl (l.getD i .bad)
      ·rfl
      ·simp only[An,Af,Bool.true_eq_false,A9];by_cases M:0<i
       ·have w:IntKind.wrap .i64 ((i:Int)-(1:Int))=((i-1:Nat):Int):=by
         grind[abf]
        have H:i-1<l.length:=by omega
        have V:adg (l.getD (i-1) .bad)=o:=(G M).symm;have J:((l.getD (i-1) .bad).fld 0).asStr=o:=V;simp only[M,decide_true,imp,Ad,w,aaa,H,Ae,J,Bool.true_and];grind
       ·simp only[M,decide_false,imp,Af,Ao,Ad,agd,Bool.false_and,A3,A9,A8]
   by_cases O:chk1 (l.getD i .bad) t o (decide (0<i))=0
   ·rw[if_pos O]at step ⊢;rw[aan step,ih (i+1) (adg (l.getD i .bad)) (by omega) (by omega) (λ_=>rfl),Ah (show 0<i+1 by omega)]
   ·rw[if_neg O]at step ⊢;grind[decide_eq_false,aae]
  grind
theorem adt(l:List PV)(t:Int)(G:l.length<=1048576)(H:∀n,n∈l->ab5 n):F260 l t=some (ab3 l t):=by
 have h:=avq l t G H l.length 0 [] (by omega) (by omega) (λh=>by omega);unfold F260 ab3;have z:decide ((l.length:Int)>8)=decide (l.length>8):=by grind
 rw[z,aat,show(0:Int)=((0:Nat):Int)from rfl,h];by_cases o:l.length>8
 ·simp[o]
 ·simp only[o,decide_false,Af,A9,Ar,Nat.lt_irrefl];by_cases m:chkL t l [] false=0
  ·rw[m];rfl
  ·rw[Av m];rfl
end Go.Ab
namespace Go.Ab
open Go
set_option maxRecDepth 100000
theorem dig(d:Nat)(h:d<10):[PV.int (IntKind.wrap .u8 (IntKind.wrap .u64 ((48:Int)+(d:Int))))].map aa5=[UInt8.ofNat (48+d)]:=by
 have:IntKind.wrap .u8 (IntKind.wrap .u64 ((48:Int)+(d:Int)))=((48+d:Nat):Int):=by rw[IntKind.wrap_u64,IntKind.wrap_u8];omega
 rw[this];rfl
def preD(u:Nat):Bn:=if u<10 then[]else Lib.decDigits (u / 10)
theorem bbg(u:Nat):preD u++[UInt8.ofNat (48+u%10)]=Lib.decDigits u:=by have e:=Lib.decDigits.eq_1 u;unfold preD;grind
theorem aw6:∀(k u:Nat)(acc:Bn),u<10^(k+1)->u<18446744073709551616->acc.length+k<=1000->aap ((Y2 S423_3)) ((u:Int),acc)=some (preD u++acc):=by
 intro k;induction k with
 |zero=>intro u acc H _ _;have m:decide ((u:Int)>=(10:Int))=false:=Av (by omega);rw[preD,if_pos (by omega)];exact aae (by simp only[Y2,S423_3,m,Af];rfl)
 |succ k J=>
  intro u acc H o M;by_cases h:u<10
  ·grind
  ·have m:decide ((u:Int)>=(10:Int))=true:=Ah (by omega);have I:IntKind.wrap .u64 ((u:Int).tdiv (10:Int))=((u / 10:Nat):Int):=by
    rw[show(u:Int).tdiv (10:Int)=((u / 10:Nat):Int)from rfl,IntKind.wrap_u64];omega
   have z:((u / 10:Nat):Int).tmod (10:Int)=((u / 10%10:Nat):Int):=rfl;have G:preD u++acc=preD (u / 10)++(UInt8.ofNat (48+u / 10%10)::acc):=by have:=bbg (u / 10);rw[show preD u=Lib.decDigits (u / 10) by rw[preD,if_neg h],<-this,Aq];rfl
   rw[G,<-J (u / 10) (UInt8.ofNat (48+u / 10%10)::acc) (by grind) (by omega) (by simp;omega)];refine aan ?_;have t:decide ([UInt8.ofNat (48+u / 10%10)].length+acc.length<=aac)=true:=afe (by simp;omega);simp only[Y2,S423_3,m,I,z,dig _ (Nat.mod_lt _ (by decide:0<10)),t,Ad];rfl
theorem ati(u:Nat)(o:u<18446744073709551616):F423 (u:Int)=some (decB u):=by unfold F423;have m:((u:Nat):Int).tmod (10:Int)=((u%10:Nat):Int):=rfl;rw[m,dig _ (Nat.mod_lt _ (by decide:0<10)),aat,aw6 19 u _ (by omega) o (by simp),bbg,aul (by omega)];rfl
theorem bdo:∀(f u:Nat),(decF f u).length<=f:=by
 intro f;induction f with
 |zero=>intro u;simp[decF]
 |succ f m=>grind[decF,Nat.ble]
theorem aot(u:Nat):(decB u).length<=20:=bdo 20 u
theorem bag(n:Int):(aol n).length<=21:=by grind[aol,aot,decide]
def amn(v:PV):Bn:=
 bif ad2 (aa0 v) v then
  (bif aa0 v==1 then(bif abk v==1 then[116,114,117,101]else[102,97,108,115,101])
  else bif aa0 v==2 then aol (IntKind.wrap .i64 (abk v))else bif aa0 v==3 then aol (IntKind.wrap .i64 (abk v))else bif aa0 v==7 then akt (acv v)else decB (abk v).toNat)
 else[]
theorem a3i(n:Int)(m:-9223372036854775808<=n)(o:n<=9223372036854775807):ak4 0 n=some (aol n):=by grind[ak4,decide_eq_true]
theorem wrapI(u:Nat)(m:u<18446744073709551616):-9223372036854775808<=IntKind.wrap .i64 (u:Int)/\IntKind.wrap .i64 (u:Int)<=9223372036854775807:=by rw[IntKind.wrap_i64];omega
theorem bco(v:PV)(W:acp v)(O:aa0 v≠6)(U:aa0 v≠8):F445 v=some (amn v):=by
 obtain⟨_,H,m,t⟩:=W;obtain⟨u,X⟩:∃u:Nat,abk v=(u:Int):=⟨(abk v).toNat,(Int.toNat_of_nonneg m).symm⟩;have o:u<18446744073709551616:=by omega
 have G:=wrapI u o;have I:(v.fld 0).asInt=aa0 v:=rfl;have J:(v.fld 1).asInt=abk v:=rfl;have M:(v.fld 2).asStr=acv v:=rfl;have Y:(aa0 v==(6:Int))=false:=beqI O;have Z:(aa0 v==(8:Int))=false:=beqI U;have z:a4k 0 (u:Int) (10:Int)=some (decB u):=by unfold a4k;rw[Ah (by omega),Ah (by omega)];simp
 have V:Lfmt 0 (u:Int) (10:Int)=some (decB u):=z;unfold F445 amn;simp only[I,J,M,ahg _ _ ⟨by assumption,H,m,t⟩,Aa,Y,Z,Af,al9 _ H,X,a3i _ G.1 G.2,F458,V,Ae,F455,F465];generalize aol (IntKind.wrap .i64 (u:Int))=x1;generalize akt (acv v)=x2;generalize decB u=x3;generalize ad2 (aa0 v) v=q0;generalize(aa0 v==(1:Int))=q1;generalize(aa0 v==(2:Int))=q2;generalize(aa0 v==(3:Int))=q3;generalize(aa0 v==(7:Int))=q7;generalize((u:Int)==(1:Int))=q;cases q0<;>cases q1<;>cases q2<;>cases q3<;>cases q7<;>cases q<;>rfl
theorem atx(v:PV)(hs:acp v)(Y:aa0 v≠6)(Z:aa0 v≠8):F363 v=some (amn v):=by
 obtain⟨_,J,m,z⟩:=hs;obtain⟨u,hu⟩:∃u:Nat,abk v=(u:Int):=⟨(abk v).toNat,(Int.toNat_of_nonneg m).symm⟩;have o:u<18446744073709551616:=by omega
 have V:(v.fld 0).asInt=aa0 v:=rfl;have W:(v.fld 1).asInt=abk v:=rfl;have X:(v.fld 2).asStr=acv v:=rfl;have k6:(aa0 v==(6:Int))=false:=beqI Y;have k8:(aa0 v==(8:Int))=false:=beqI Z;have G:(bif decide ((u:Int)>=(9223372036854775808:Int))then(F423 (IntKind.wrap .u64 (0-(u:Int)))).bind λt=>bif decide (([45]:Bn).length+t.length<=aac)then some (([45]:Bn)++t)else none
  else some (decB u))=some (aol (IntKind.wrap .i64 (u:Int))):=by
  unfold aol
  by_cases h:u<9223372036854775808
  ·have H:decide ((u:Int)>=(9223372036854775808:Int))=false:=Av (by omega);have I:IntKind.wrap .i64 (u:Int)=(u:Int):=by rw[IntKind.wrap_i64];omega
   grind
  ·have hw:IntKind.wrap .u64 (0-(u:Int))=((18446744073709551616-u:Nat):Int):=by rw[IntKind.wrap_u64];omega
   have hl:=aot (18446744073709551616-u);have H:decide ((u:Int)>=(9223372036854775808:Int))=true:=Ah (by omega);have I:IntKind.wrap .i64 (u:Int)=(u:Int)-18446744073709551616:=by rw[IntKind.wrap_i64];omega
   have M:decide ((u:Int)-18446744073709551616<0)=true:=Ah (by omega);have O:((u:Int)-18446744073709551616).natAbs=18446744073709551616-u:=by omega
   have U:=ati (18446744073709551616-u) (by omega);simp only[H,I,M,O,hw,U,Ad,Aa];grind[decB,afe]
 unfold F363 amn;simp only[V,W,X,adu _ _ ⟨by assumption,J,m,z⟩,Aa,k6,k8,Af,afj _ J,hu,G,ati u o,Ae];grind
theorem amo(v:PV)(z:(acv v).length<=1048576):(amn v).length<=4194400:=by have m:=adj (acv v);have o:=aot (abk v).toNat;have t:=bag (IntKind.wrap .i64 (abk v));unfold amn;grind
end Go.Ab
