/- Quoting: the program's and the specification's are the same. -/
import Derived.Test.YticdffgjgfmicaaGreatDoorPName0K
set_option linter.unusedVariables false
set_option linter.unusedSimpArgs false
set_option linter.unnecessarySimpa false
namespace Go.Ab
open Go
set_option maxRecDepth 100000
theorem nbeq(a b:Nat):((a:Int)==(b:Int))=decide (a=b):=by grind
theorem ae8{n:Nat}(h:n<=4611686018427387904):decide (n<=aac)=true:=Ah h
theorem a3v:((List.range 256).all λb=>F368 (b:Int)==some (92::120::hex2 b))=true:=by kernel_rfl
theorem a7x{b:Nat}(h:b<256):F368 (b:Int)=some (92::120::hex2 b):=by grind[List.all_eq_true,a3v]
theorem bed:((List.range 256).all λb=>F322 (b:Int)==some (hex2 b))=true:=by kernel_rfl
theorem bac{b:Nat}(h:b<256):F322 (b:Int)=some (hex2 b):=by grind[List.all_eq_true,bed]
theorem bgz(s:Bn)(i:Nat)(t:i<s.length):F289 s (i:Int) ((aam s i).1:Int)=some (aj1 s i):=by
 unfold F289 aj1;have hw:=a2x s i t;have hb:((s.getD ((i:Int)).toNat 0).toNat:Int)=(byteAt s i:Int):=rfl;have he:=a7x (acg s i);have hr:aab (i:Int) s.length=true:=by rw[aaa,Ah t]
 have J:(((aam s i).1:Int)==(34:Int))=decide ((aam s i).1=34):=nbeq _ 34;have M:(((aam s i).1:Int)==(92:Int))=decide ((aam s i).1=92):=nbeq _ 92;have G:(((aam s i).1:Int)==(10:Int))=decide ((aam s i).1=10):=nbeq _ 10;have k9:(((aam s i).1:Int)==(9:Int))=decide ((aam s i).1=9):=nbeq _ 9;have H:(((aam s i).1:Int)==(13:Int))=decide ((aam s i).1=13):=nbeq _ 13;have m:(((aam s i).1:Int)==(127:Int))=decide ((aam s i).1=127):=nbeq _ 127;have I:decide (((aam s i).1:Int)<(32:Int))=decide ((aam s i).1<32):=aai _ 32;simp only[J,M,G,k9,H,m,I,hw,hr,hb,he,Ad,Aa];by_cases o:byteAt s i<128
 ·rw[afl s i o,am1 s i o];have z:=ak5 s i t (by grind[am1]);rw[afl s i o,am1 s i o]at z;grind
 ·have hh:=apb s i (by omega);have U:decide ((aam s i).1=34)=false:=Au (by omega);have V:decide ((aam s i).1=92)=false:=Au (by omega);have W:decide ((aam s i).1=10)=false:=Au (by omega);have X:decide ((aam s i).1=9)=false:=Au (by omega);have Y:decide ((aam s i).1=13)=false:=Au (by omega);have Z:decide ((aam s i).1=127)=false:=Au (by omega);have d7:decide ((aam s i).1<32)=false:=Au (by omega);have e1:¬byteAt s i=34:=by omega
  have e2:¬byteAt s i=92:=by omega
  have e3:¬byteAt s i=10:=by omega
  have e4:¬byteAt s i=9:=by omega
  have e5:¬byteAt s i=13:=by omega
  have e6:¬byteAt s i=127:=by omega
  have e7:¬byteAt s i<32:=by omega
  simp only[U,V,W,X,Y,Z,d7,e1,e2,e3,e4,e5,e6,e7,Af,Aq,Ad,Aa,A9,false_or];by_cases O:sizeAt s i=0
  ·simp[O]
  ·simp only[O,decide_false,Af,A9];grind[ak5]
theorem a5i(s:Bn):∀(m i:Nat)(acc:Bn),s.length-i<=m->i<=s.length->acc.length+4*(s.length-i)<=140737488355328->
 ∃z,aan ((Y6 S176_5)) (s,(),(),acc,s,(i:Int))=some ((),acc++act s i,s,z):=by
 intro m
 induction m with
 |zero=>
  intro i acc I G t
  have o:¬i<s.length:=by omega
  rw[act,if_neg o]
  refine⟨(i:Int),aae ?_⟩
  simp only[Y6,S176_5,Ae,o,decide_false,Af,List.append_nil]
 |succ m O=>
  intro i acc I G t
  by_cases o:i<s.length
  ·have V:=aqf s i o;have U:=as9 s i o;have H:=ahp s i;obtain⟨z,M⟩:=O (i+ad4 s i) (acc++aj1 s i) (by omega) (by omega) (by grind);refine⟨z,?_⟩;rw[act,if_pos o,<-Ap,<-M];refine aal ?_;have J:Nat.ble (acc.length+(aj1 s i).length) 140737488355328=true:=by rw[Nat.ble_eq];omega
   simp only[Y6,S176_5,Ae,o,decide_true,Ad,ah8,bgz s i o,bfm s i o,Aa,aa2,J]
  grind
theorem adf(s:Bn):(akm s).length<=4*s.length+2:=by have:=ahk s s.length 0 (by omega);simp[akm];omega
theorem alt(s:Bn)(H:s.length<=1048576):F176 s=some (akm s):=by
 obtain⟨z,m⟩:=a5i s s.length 0 [34] (by omega) (by omega) (by simp;omega);have G:=ahk s s.length 0 (by omega);unfold F176;have o:aa2 0 ([34]:Bn) []=some (1,.nilIface,[34]):=rfl;have t:Nat.ble (([34]++act s 0).length+1) 140737488355328=true:=by grind[Nat.ble_eq]
 simp only[o,Aa,aas,m];simp only[aa2,Al,Am,Nat.zero_add,t,Ad,Aa,ah2];simp[akm]
theorem au5(s:Bn)(hs:s.length<=9223372036854775000)(i:Nat)(acc:Bn)(z:i<s.length)(hb:acc.length<=4611686018427380000):
 (Y3 S229_4) (s,acc,(i:Int))=some (.inl (s,acc++aj1 s i,((i+ad4 s i:Nat):Int))):=by
 have hz:=aq2 s i z
 have G:((s.getD i 0).toNat:Int)=(byteAt s i:Int):=rfl
 have hr:aab (i:Int) s.length=true:=by rw[aaa,Ah z]
 have U:((byteAt s i:Int)==(34:Int))=decide (byteAt s i=34):=nbeq _ 34
 have V:((byteAt s i:Int)==(92:Int))=decide (byteAt s i=92):=nbeq _ 92
 have J:((byteAt s i:Int)==(10:Int))=decide (byteAt s i=10):=nbeq _ 10
 have k9:((byteAt s i:Int)==(9:Int))=decide (byteAt s i=9):=nbeq _ 9
 have M:((byteAt s i:Int)==(13:Int))=decide (byteAt s i=13):=nbeq _ 13
 have o:((byteAt s i:Int)==(127:Int))=decide (byteAt s i=127):=nbeq _ 127
 have O:decide ((byteAt s i:Int)<(32:Int))=decide (byteAt s i<32):=aai _ 32
 have k0:((sizeAt s i:Int)==(0:Int))=decide (sizeAt s i=0):=nbeq _ 0
 have w1:IntKind.wrap .i64 ((i:Int)+(1:Int))=((i+1:Nat):Int):=arj (by omega)
 have w2:IntKind.wrap .i64 ((i:Int)+(sizeAt s i:Int))=((i+sizeAt s i:Nat):Int):=wadd (by omega)
 have H:decide ((0:Int)<=(i:Int)/\(i:Int)<=((i+sizeAt s i:Nat):Int)/\((i+sizeAt s i:Nat):Int)<=(s.length:Int))=true:=Ah (by omega)
 have I:(s.take (i+sizeAt s i)).drop i=(s.drop i).take (sizeAt s i):=by grind
 have aa:(bif decide (sizeAt s i=0)then((i+1:Nat):Int)else((i+sizeAt s i:Nat):Int))=((i+ad4 s i:Nat):Int):=by grind[ad4,sizeAt]
 have m:∀t:Bn,(bif decide (sizeAt s i=0)then some (Sum.inl (s,t,((i+1:Nat):Int)))else some (Sum.inl (s,t,((i+sizeAt s i:Nat):Int))))=(some (.inl (s,t,((i+ad4 s i:Nat):Int))):Option ((Bn×Bn×Int)⊕((Bn)))):=by grind
 simp only[Y3,S229_4,aai,z,decide_true,Ad,bba s i z hs,Aa,hr,G,U,V,J,k9,M,o,O,k0,w1,w2,H,Ae,I,bac (acg s i)]
 unfold aj1
 have l2:∀a b:UInt8,decide (acc.length+[a,b].length<=aac)=true:=λa b=>ae8 (by simp;omega)
 have l4:∀a b c d:UInt8,decide ((acc++[a,b]).length+[c,d].length<=aac)=true:=λa b c d=>ae8 (by simp;omega)
 have ls:decide (acc.length+((s.drop i).take (sizeAt s i)).length<=aac)=true:=ae8 (by simp;omega)
 have l5:decide (acc.length+2+2<=aac)=true:=ae8 (by omega)
 simp only[l2,ls,hex2,l4,Ad,m]
 by_cases W:byteAt s i=34
 ·simp[W]
 by_cases X:byteAt s i=92
 ·simp[X]
 by_cases Y:byteAt s i=10
 ·simp[Y]
 by_cases Z:byteAt s i=9
 ·simp[Z]
 by_cases c5:byteAt s i=13
 ·simp[c5]
 simp only[W,X,Y,Z,c5,decide_false,Af,A9]
 by_cases c6:byteAt s i<32
 ·simp[c6,l5]
 ·by_cases c7:byteAt s i=127
  ·simp[c7,l5]
  ·by_cases c8:sizeAt s i=0;all_goals grind
theorem au4(s:Bn)(O:s.length<=1048576):∀(m i:Nat)(acc:Bn),s.length-i<=m->i<=s.length->acc.length+4*(s.length-i)<=140737488355328->
 aan ((Y3 S229_4)) (s,acc,(i:Int))=some (acc++act s i):=by
 intro m
 induction m with
 |zero=>
  intro i acc H z t
  have o:¬i<s.length:=by omega
  rw[act,if_neg o]
  refine aae ?_
  simp only[Y3,S229_4,aai,o,decide_false,Af,List.append_nil]
 |succ m I=>
  intro i acc H z t
  by_cases o:i<s.length
  ·have M:=aqf s i o;have J:=as9 s i o;have G:=ahp s i;rw[act,if_pos o,<-Ap,<-I (i+ad4 s i) (acc++aj1 s i) (by omega) (by omega) (by grind)];grind[aal,au5]
  grind
theorem aff(s:Bn)(m:s.length<=1048576):F229 s=some (akm s):=by have o:=au4 s m s.length 0 [34] (by omega) (by omega) (by simp;omega);have t:=ahk s s.length 0 (by omega);unfold F229;rw[aas,show(0:Int)=((0:Nat):Int)from rfl,o,Aa,ae8 (by simp;omega)];simp[akm]
end Go.Ab
namespace Go.Ab
open Go
theorem bneI{a b:Int}(h:a≠b):(a != b)=true:=by simp[h]
theorem beqI{a b:Int}(h:a≠b):(a==b)=false:=by simp[h]
theorem aqg{α:Type}(b:Bool)(x y:α):(bif b then some x else some y)=some (bif b then x else y):=by cases b<;>rfl
def afn:Bn:=[100,101,112,114,101,99,97,116,101,100]
def aoj:Bn:=[115,101,99,114,101,116]
def afo:Bn:=[105,100,101,109,112,111,116,101,110,116]
def bd4:Bn:=[100,111,99]
def aus:Bn:=[97,108,105,97,115]
def auu:Bn:=[114,111,117,116,101]
def aut:Bn:=[111,119,110,101,114]
def auv:Bn:=[115,105,110,99,101]
def auw:Bn:=[117,110,116,105,108]
def aoi:Bn:=[108,101,110,103,116,104]
def aln:Bn:=[116,105,109,101,111,117,116]
def bd7:Bn:=[109,105,110]
def bd6:Bn:=[109,97,120]
def abl:List Bn:=[afn,aoj,afo,bd4,aus,auu,aut,auv,auw,aoi,aln,bd7,bd6]
noncomputable def ac8(name:Bn):Int:=(F379 name).getD 0
theorem as2(name:Bn):F379 name=some (ac8 name):=by unfold ac8;simp only[F379,aqg,Option.getD_some]
theorem a00{name:Bn}(h:name∉abl):(name==afn)=false/\(name==aoj)=false/\(name==afo)=false/\(name==bd4)=false/\(name==aus)=false/\(name==auu)=false/\(name==aut)=false/\
 (name==auv)=false/\(name==auw)=false/\(name==aoi)=false/\(name==aln)=false/\(name==bd7)=false/\(name==bd6)=false:=by
 simp only[abl,Bi,List.not_mem_nil,or_false,not_or]at h
 grind
theorem afx{name:Bn}(h:name∉abl):ac8 name=0:=by obtain⟨G,H,I,J,M,O,U,V,W,m,o,t,z⟩:=a00 h;unfold afn at G;unfold aoj at H;unfold afo at I;unfold bd4 at J;unfold aus at M;unfold auu at O;unfold aut at U;unfold auv at V;unfold auw at W;unfold aoi at m;unfold aln at o;unfold bd7 at t;unfold bd6 at z;simp only[ac8,F379,G,H,I,J,M,O,U,V,W,m,o,t,z,Af,Option.getD_some]
theorem aw0{name:Bn}(h:name∈abl):ac8 name≠0:=by
 simp only[abl,Bi,List.not_mem_nil,or_false]at h;have e:∀k:Int,k≠0->some (ac8 name)=some k->ac8 name≠0:=λk o m=>by grind
 rcases h with rfl|rfl|rfl|rfl|rfl|rfl|rfl|rfl|rfl|rfl|rfl|rfl|rfl
 ·exact e 1 (by decide) (by kernel_rfl)
 ·exact e 1 (by decide) (by kernel_rfl)
 ·exact e 1 (by decide) (by kernel_rfl)
 ·exact e 7 (by decide) (by kernel_rfl)
 ·exact e 7 (by decide) (by kernel_rfl)
 ·exact e 7 (by decide) (by kernel_rfl)
 ·exact e 7 (by decide) (by kernel_rfl)
 ·exact e 4 (by decide) (by kernel_rfl)
 ·exact e 4 (by decide) (by kernel_rfl)
 ·exact e 4 (by decide) (by kernel_rfl)
 ·exact e 4 (by decide) (by kernel_rfl)
 ·exact e 3 (by decide) (by kernel_rfl)
 ·exact e 3 (by decide) (by kernel_rfl)
noncomputable def alf:List (PV×PV):=(F362).getD []
theorem a1r:F362=some alf:=by kernel_rfl
theorem azn:alf=[(.str afn,.agg [.int 1,.int 126]),(.str bd4,.agg [.int 7,.int 126]),(.str aus,.agg [.int 7,.int 84]),(.str auv,.agg [.int 4,.int 84]),(.str auw,.agg [.int 4,.int 84]),(.str bd7,.agg [.int 3,.int 4]),(.str bd6,.agg [.int 3,.int 4]),
 (.str aoi,.agg [.int 4,.int 4]),(.str aoj,.agg [.int 1,.int 4]),(.str afo,.agg [.int 1,.int 64]),(.str aln,.agg [.int 4,.int 64]),(.str auu,.agg [.int 7,.int 64]),(.str aut,.agg [.int 7,.int 34])]:=by kernel_rfl
theorem ant{name:Bn}(h:name∉abl):PV.mget alf (.str name)=none:=by obtain⟨G,H,I,J,M,O,U,V,W,m,o,t,z⟩:=a00 h;rw[azn];simp only[PV.mget,List.find?,ahf,aeb,G,H,I,J,M,O,U,V,W,m,o,t,z,Option.map_none]
theorem bhd(name:Bn):F407 name=some (ac8 name):=by
 by_cases h:name∈abl
 ·simp only[abl,Bi,List.not_mem_nil,or_false]at h;rcases h with rfl|rfl|rfl|rfl|rfl|rfl|rfl|rfl|rfl|rfl|rfl|rfl|rfl;all_goals(refine Eq.trans (b:=_) ?_ rfl;kernel_rfl)
 ·rw[afx h];unfold F407;rw[a1r,Aa,ant h];rfl
noncomputable def apj(name:Bn)(m:Int):Bool:=(F380 name m).getD false
theorem as0(name:Bn)(m:Int):F380 name m=some (apj name m):=by unfold apj;simp only[F380,aqg,Option.getD_some]
theorem bbk{name:Bn}(h:name∈abl)(t:Int):(bif (bif (decide (t<(1:Int)))then true else(decide (t>(6:Int))))then true else((aen .and .i64 (((((PV.mget alf (.str name)).getD (.agg [.int 0,.int 0])).fld 1).asInt).fdiv (2^(min t.toNat (IntKind.bits .i64)))) (1:Int))==(0:Int)))=!(apj name t):=by
 have e:∀b:Bool,some (apj name t)=some b->apj name t=b:=λb h=>by cases h;rfl
 simp only[abl,Bi,List.not_mem_nil,or_false]at h;by_cases m:t<1\/t>6
 ·have M:(bif decide (t<(1:Int))then true else decide (t>(6:Int)))=true:=by
   rcases m with m|m
   ·simp[m]
   ·simp[m]
  rw[M,Ad];have o:(t==1)=false:=by simp;omega
  have z:(t==2)=false:=by simp;omega
  have G:(t==4)=false:=by simp;omega
  have H:(t==5)=false:=by simp;omega
  have I:(t==6)=false:=by simp;omega
  have J:(bif decide (t>=(1:Int))then decide (t<=(6:Int))else false)=false:=by
   by_cases q:t>=1
   ·have:¬t<=6:=by omega
    simp[q,this]
   ·simp[q]
  rw[e false ?_]
  ·rfl
  rw[<-as0];simp only[F380,o,z,G,H,I,J,Af,aqg,aga]
 ·have O:t=1\/t=2\/t=3\/t=4\/t=5\/t=6:=by omega
  rcases h with rfl|rfl|rfl|rfl|rfl|rfl|rfl|rfl|rfl|rfl|rfl|rfl|rfl<;>rcases O with rfl|rfl|rfl|rfl|rfl|rfl;all_goals(refine Eq.trans (b:=_) ?_ rfl;kernel_rfl)
def aa0(v:PV):Int:=(v.fld 0).asInt
def abj(v:PV):Int:=(v.fld 1).asInt
def acu(v:PV):Bn:=(v.fld 2).asStr
def vLists(v:PV):Nat:=(v.fld 3).asList.length+(v.fld 4).asList.length+(v.fld 5).asList.length+(v.fld 6).asList.length
def acn(v:PV):Prop:=vLists v<=1048576/\(acu v).length<=1048576/\0<=abj v/\abj v<18446744073709551616
def apr(k:Int):Bool:=decide (1<=k/\k<=9)
def ahq(k:Int):Bool:=k==7||k==8
def aqi(k m:Int):Bool:=
 if k=1 then decide (m<=1)else if k=2 then decide (-2147483648<=IntKind.wrap .i64 m/\IntKind.wrap .i64 m<=2147483647)else if k=4 then decide (m<4294967296)else if k=9 then decide (m<2147483648)else true
def ady(k:Int)(v:PV):Bool:=
 apr k&&(aa0 v==k)&&decide (vLists v=0)&&(if ahq k then(abj v==0)&&decide ((acu v).length<=4096)&&((k==8)||valid (acu v))else(acu v==[])&&aqi k (abj v))
theorem bjc(a b c d:List PV):(bif (bif (bif ((a.length:Int)==(0:Int))then((b.length:Int)==(0:Int))else false)then((c.length:Int)==(0:Int))else false)then((d.length:Int)==(0:Int))else false)=decide (a.length+b.length+c.length+d.length=0):=by cases a<;>cases b<;>cases c<;>cases d<;>simp<;>omega
theorem ado(k:Int)(v:PV)(I:acn v):F308 k v=some (ady k v):=by
 have J:F218 (acu v)=some (valid (acu v)):=akp _ (by have:=I.2.1;omega);have o:(v.fld 0).asInt=aa0 v:=rfl;have t:(v.fld 1).asInt=abj v:=rfl;have z:(v.fld 2).asStr=acu v:=rfl;have M:(bif decide (k>=(1:Int))then decide (k<=(9:Int))else false)=apr k:=by grind[apr]
 have O:(bif (k==(7:Int))then true else(k==(8:Int)))=ahq k:=by grind[ahq]
 unfold F308 F375 F376 F377;simp only[Aa,bjc,M,O,o,t,z,J,gb];unfold ady;have G:(v.fld 3).asList.length+(v.fld 4).asList.length+(v.fld 5).asList.length+(v.fld 6).asList.length=vLists v:=rfl;simp only[G];cases U:apr k
 ·simp
 cases H:(aa0 v==k)
 ·grind
 have m:(aa0 v != k)=false:=by simp[bne,H]
 simp only[m,An,Af,Aq,Bool.true_and,Ad];cases V:decide (vLists v=0)
 ·simp
 simp only[An,Af,Bool.true_and];cases W:ahq k
 ·simp only[Af,A5,A9];cases X:(acu v==[])
  ·simp
  simp only[An,Af,Bool.true_and];unfold aqi;grind
 grind
theorem ahb(k:Int)(v:PV)(Y:acn v):F339 k v=some (ady k v):=by
 have Z:F153 (acu v)=some (valid (acu v)):=avq _;have I:(v.fld 0).asInt=aa0 v:=rfl;have J:(v.fld 1).asInt=abj v:=rfl;have M:(v.fld 2).asStr=acu v:=rfl;have i1:(bif decide (k>=(1:Int))then decide (k<=(9:Int))else false)=apr k:=by grind[apr]
 have O:(v.fld 3).asList.length+(v.fld 4).asList.length+(v.fld 5).asList.length+(v.fld 6).asList.length=vLists v:=rfl;have hL:=Y.1;have w1:IntKind.wrap .i64 (((v.fld 3).asList.length:Int)+((v.fld 4).asList.length:Int))=(((v.fld 3).asList.length+(v.fld 4).asList.length:Nat):Int):=wadd (by grind);have w2:IntKind.wrap .i64 ((((v.fld 3).asList.length+(v.fld 4).asList.length:Nat):Int)+((v.fld 5).asList.length:Int))=(((v.fld 3).asList.length+(v.fld 4).asList.length+(v.fld 5).asList.length:Nat):Int):=wadd (by grind);have w3:IntKind.wrap .i64 ((((v.fld 3).asList.length+(v.fld 4).asList.length+(v.fld 5).asList.length:Nat):Int)+((v.fld 6).asList.length:Int))=(((v.fld 3).asList.length+(v.fld 4).asList.length+(v.fld 5).asList.length+(v.fld 6).asList.length:Nat):Int):=wadd (by grind);have tk:∀k:Int,(bif (k==(7:Int))then true else(k==(8:Int)))=ahq k:=λk=>by grind[ahq]
 unfold F339 F396 F397 F398 F420;simp only[Aa,i1,tk,I,J,M,Z,gb,w1,w2,w3,O];have m:(bif (k==(1:Int))then some (decide (abj v<=1))else bif (k==(2:Int))then some (bif decide (IntKind.wrap .i64 (abj v)>=-2147483648)then decide (IntKind.wrap .i64 (abj v)<=2147483647)else false)else
  bif (k==(9:Int))then some (decide (abj v<=2147483647))else bif (k==(4:Int))then some (decide (abj v<=4294967295))else some true)=some (aqi k (abj v)):=by
  unfold aqi
  grind
 rw[m];unfold ady;cases h1:apr k
 ·simp
 cases H:(aa0 v==k)
 ·grind
 have U:(aa0 v != k)=false:=by simp[bne,H]
 have o:aa0 v=k:=by simpa using H
 rw[o];have t:(k != k)=false:=by simp
 simp only[t,An,Af,Aq,Bool.true_and,Ad];by_cases V:vLists v=0
 ·have z:decide ((vLists v:Int)>0)=false:=by simp;omega
  simp only[z,Af,V,decide_true,Bool.true_and];have W:decide (((acu v).length:Int)>4096)=!decide ((acu v).length<=4096):=by grind
  cases h4:ahq k
  ·simp only[Af,A5,A9,Aa];have k7:(k != 7)=true:=by
    grind
   all_goals grind
  ·simp only[Ad,A8,Aa];have X:aqi k (abj v)=true:=by
    all_goals grind
   simp only[X,W];have G:k=7\/k=8:=by all_goals grind
   rcases G with rfl|rfl;all_goals grind
 grind
def adb(n:PV):Bn:=(n.fld 0).asStr
def nVal(n:PV):PV:=n.fld 1
noncomputable def adg(n:PV):Bool:=(ac8 (adb n) != 0)&&ady (ac8 (adb n)) (nVal n)
def ab1(n:PV):Prop:=acn (nVal n)/\(adb n).length<=1048576
theorem a2h(n:PV)(o:ab1 n):F363 n=some (adg n):=by unfold F363;have e:(n.fld 0).asStr=adb n:=rfl;have m:n.fld 1=nVal n:=rfl;simp only[e,m,bhd,Aa,ahb _ _ o.1,gb];grind[adg,ac8,adb]
theorem asr{k:Int}{v:PV}(h:(aa0 v==k)=false):ady k v=false:=by grind[ady]
theorem aqp(n:PV)(t:ab1 n):F381 n=some (adg n):=by unfold F381;have e:(n.fld 0).asStr=adb n:=rfl;have m:n.fld 1=nVal n:=rfl;have o:((nVal n).fld 0).asInt=aa0 (nVal n):=rfl;simp only[e,m,o,as2,Aa,ado _ _ t.1,gb];grind[adg,aa0,nVal,ac8,adb,asr]
noncomputable def chk1(n:PV)(t:Int)(m:Bn)(o:Bool):Int:=
 if ac8 (adb n)=0 then 8 else if apj (adb n) t=false then 1 else if adg n=false then 12 else if o&&Op.bytesLess (adb n) m then 11 else if o&&(adb n==m)then 9 else 0
noncomputable def chkL(t:Int):List PV->Bn->Bool->Int
 |[],_,_=>0
 |n::r,last,ok=>if chk1 n t last ok=0 then chkL t r (adb n) true else chk1 n t last ok
noncomputable def abz(l:List PV)(t:Int):Int:=if l.length>8 then 3 else chkL t l [] false
theorem bhl(name:Bn):PV.mhas alf (.str name)=decide (name∈abl):=by
 by_cases h:name∈abl
 ·rw[Ah h];simp only[abl,Bi,List.not_mem_nil,or_false]at h;rcases h with rfl|rfl|rfl|rfl|rfl|rfl|rfl|rfl|rfl|rfl|rfl|rfl|rfl;all_goals(refine Eq.trans (b:=_) ?_ rfl;kernel_rfl)
 grind[decide_eq_false,PV.mhas,ant]
theorem bjz(n:PV)(t:Int)(m:Bn)(o:Bool)(G:ab1 n):F283 n t m o=some (chk1 n t m o):=by
 unfold F283 chk1;have e:(n.fld 0).asStr=adb n:=rfl;simp only[e,a1r,Aa,bhl,a2h n G];by_cases h:adb n∈abl
 ·have z:=aw0 h;have H:=bbk h t;simp only[h,decide_true,An,Af,if_neg z];rw[H];have I:imp (!(bif decide (t<(1:Int))then true else decide (t>(6:Int)))) (decide (0<=t))=true:=by
   grind[imp]
  grind
 ·rw[afx h];grind
theorem a3n(l:List PV)(t:Int)(X:l.length<=1048576)(V:∀n,n∈l->ab1 n):∀(m i:Nat)(o:Bn),l.length-i<=m->i<=l.length->
 aan ((Y5 S173_6)) (t,o,l,(l.length:Int),(i:Int))=some (bif decide (chkL t (l.drop i) o (decide (0<i))=0)then .inr ()else .inl (chkL t (l.drop i) o (decide (0<i)))):=by
 intro m
 induction m with
 |zero=>
  intro i o U O
  have z:¬i<l.length:=by omega
  rw[Ba (by omega)]
  exact aae (by simp only[Y5,S173_6,aai,z,decide_false,Af];rfl)
 |succ m W=>
  intro i o U O
  by_cases z:i<l.length
  ·rw[aa1 z .bad,chkL];have H:l.getD i .bad∈l:=by grind
   have J:decide ((i:Int)>0)=decide (0<i):=by grind
   have I:=bjz (l.getD i .bad) t o (decide (0<i)) (V _ H);by_cases G:chk1 (l.getD i .bad) t o (decide (0<i))=0
   ·rw[if_pos G];rw[aal (x1:=(t,adb (l.getD i .bad),l,(l.length:Int),((i+1:Nat):Int)))]
    ·rw[W (i+1) _ (by omega) (by omega),Ah (show 0<i+1 by omega)]
    ·rw[G]at I;simp only[Y5,S173_6,aai,aaa,z,decide_true,Ad,Ae,J,I,Aa,arj (i:=i) (by omega)];rfl
   ·rw[if_neg G,Au G];refine aae ?_;have M:(chk1 (l.getD i .bad) t o (decide (0<i)) != (0:Int))=true:=bneI G;simp only[Y5,S173_6,aai,aaa,z,decide_true,Ad,Ae,J,I,Aa,M];rfl
  grind
theorem a1b(l:List PV)(t:Int)(G:l.length<=1048576)(H:∀n,n∈l->ab1 n):F173 l t=some (abz l t):=by
 have h:=a3n l t G H l.length 0 [] (by omega) (by omega);unfold F173 abz;have z:decide ((l.length:Int)>8)=decide (l.length>8):=by grind
 rw[z,aas,show(0:Int)=((0:Nat):Int)from rfl,h];by_cases o:l.length>8
 ·simp[o]
 ·simp only[o,decide_false,Af,A9,Ar,Nat.lt_irrefl];by_cases m:chkL t l [] false=0
  ·rw[m];rfl
  ·rw[Au m];rfl
theorem au1(l:List PV)(t:Int)(hl:l.length<=1048576)(hs:∀n,n∈l->ab1 n):∀(m i:Nat)(o:Bn),l.length-i<=m->i<=l.length->(0<i->o=adb (l.getD (i-1) .bad))->
 aan ((Y3 S310_5)) (l,t,(i:Int))=some (bif decide (chkL t (l.drop i) o (decide (0<i))=0)then .inr ()else .inl (chkL t (l.drop i) o (decide (0<i)))):=by
 intro m
 induction m with
 |zero=>
  intro i o Z Y _
  have z:¬i<l.length:=by omega
  rw[Ba (by omega)]
  exact aae (by simp only[Y3,S310_5,aai,z,decide_false,Af];rfl)
 |succ m ih=>
  intro i o Z Y G
  by_cases z:i<l.length
  ·rw[aa1 z .bad,chkL];have I:l.getD i .bad∈l:=by grind
   have X:decide ((i:Int)>0)=decide (0<i):=by grind
   have hr:=aqp (l.getD i .bad) (hs _ I);have W:((l.getD i .bad).fld 0).asStr=adb (l.getD i .bad):=rfl;have step:(Y3 S310_5) (l,t,(i:Int))=some (if chk1 (l.getD i .bad) t o (decide (0<i))=0 then .inl (l,t,((i+1:Nat):Int))else .inr (.inl (chk1 (l.getD i .bad) t o (decide (0<i))))):=by
    simp only[Y3,S310_5,aai,aaa,z,decide_true,Ad,Ae,X,W,as2,as0,hr,Aa,arj (i:=i) (by omega)];unfold chk1;by_cases U:ac8 (adb (l.getD i .bad))=0
    ·grind
    ·have:(ac8 (adb (l.getD i .bad))==(0:Int))=false:=beqI U;rw[this,Af,if_neg U];cases apj (adb (l.getD i .bad)) t
     ·rfl
     ·simp only[An,Af,Bool.true_eq_false,A9];cases adg (l.getD i .bad)
      ·rfl
      ·simp only[An,Af,Bool.true_eq_false,A9];by_cases M:0<i
       ·have w:IntKind.wrap .i64 ((i:Int)-(1:Int))=((i-1:Nat):Int):=by
         grind[abd]
        have H:i-1<l.length:=by omega
        have V:adb (l.getD (i-1) .bad)=o:=(G M).symm;have J:((l.getD (i-1) .bad).fld 0).asStr=o:=V;simp only[M,decide_true,imp,Ad,w,aaa,H,Ae,J,Bool.true_and];grind
       ·simp only[M,decide_false,imp,Af,Aq,Ad,aga,Bool.false_and,A5,A9,A8]
   by_cases O:chk1 (l.getD i .bad) t o (decide (0<i))=0
   ·rw[if_pos O]at step ⊢;rw[aal step,ih (i+1) (adb (l.getD i .bad)) (by omega) (by omega) (λ_=>rfl),Ah (show 0<i+1 by omega)]
   ·rw[if_neg O]at step ⊢;grind[decide_eq_false,aae]
  grind
theorem adn(l:List PV)(t:Int)(G:l.length<=1048576)(H:∀n,n∈l->ab1 n):F310 l t=some (abz l t):=by
 have h:=au1 l t G H l.length 0 [] (by omega) (by omega) (λh=>by omega);unfold F310 abz;have z:decide ((l.length:Int)>8)=decide (l.length>8):=by grind
 rw[z,aas,show(0:Int)=((0:Nat):Int)from rfl,h];by_cases o:l.length>8
 ·simp[o]
 ·simp only[o,decide_false,Af,A9,Ar,Nat.lt_irrefl];by_cases m:chkL t l [] false=0
  ·rw[m];rfl
  ·rw[Au m];rfl
end Go.Ab
namespace Go.Ab
open Go
set_option maxRecDepth 100000
theorem dig(d:Nat)(h:d<10):[PV.int (IntKind.wrap .u8 (IntKind.wrap .u64 ((48:Int)+(d:Int))))].map aa4=[UInt8.ofNat (48+d)]:=by
 have:IntKind.wrap .u8 (IntKind.wrap .u64 ((48:Int)+(d:Int)))=((48+d:Nat):Int):=by rw[IntKind.wrap_u64,IntKind.wrap_u8];omega
 rw[this];rfl
def preD(u:Nat):Bn:=if u<10 then[]else Lib.decDigits (u / 10)
theorem bah(u:Nat):preD u++[UInt8.ofNat (48+u%10)]=Lib.decDigits u:=by have e:=Lib.decDigits.eq_1 u;unfold preD;grind
theorem awf:∀(k u:Nat)(acc:Bn),u<10^(k+1)->u<18446744073709551616->acc.length+k<=1000->aan ((Y2 S417_3)) ((u:Int),acc)=some (preD u++acc):=by
 intro k;induction k with
 |zero=>intro u acc H _ _;have m:decide ((u:Int)>=(10:Int))=false:=Au (by omega);rw[preD,if_pos (by omega)];exact aae (by simp only[Y2,S417_3,m,Af];rfl)
 |succ k J=>
  intro u acc H o M;by_cases h:u<10
  ·grind
  ·have m:decide ((u:Int)>=(10:Int))=true:=Ah (by omega);have I:IntKind.wrap .u64 ((u:Int).tdiv (10:Int))=((u / 10:Nat):Int):=by
    rw[show(u:Int).tdiv (10:Int)=((u / 10:Nat):Int)from rfl,IntKind.wrap_u64];omega
   have z:((u / 10:Nat):Int).tmod (10:Int)=((u / 10%10:Nat):Int):=rfl;have G:preD u++acc=preD (u / 10)++(UInt8.ofNat (48+u / 10%10)::acc):=by have:=bah (u / 10);rw[show preD u=Lib.decDigits (u / 10) by rw[preD,if_neg h],<-this,Ap];rfl
   rw[G,<-J (u / 10) (UInt8.ofNat (48+u / 10%10)::acc) (by grind) (by omega) (by simp;omega)];refine aal ?_;have t:decide ([UInt8.ofNat (48+u / 10%10)].length+acc.length<=aac)=true:=ae8 (by simp;omega);simp only[Y2,S417_3,m,I,z,dig _ (Nat.mod_lt _ (by decide:0<10)),t,Ad];rfl
theorem asq(u:Nat)(o:u<18446744073709551616):F417 (u:Int)=some (decB u):=by unfold F417;have m:((u:Nat):Int).tmod (10:Int)=((u%10:Nat):Int):=rfl;rw[m,dig _ (Nat.mod_lt _ (by decide:0<10)),aas,awf 19 u _ (by omega) o (by simp),bah,atx (by omega)];rfl
theorem bcr:∀(f u:Nat),(decF f u).length<=f:=by
 intro f;induction f with
 |zero=>intro u;simp[decF]
 |succ f m=>grind[decF,Nat.ble]
theorem aod(u:Nat):(decB u).length<=20:=bcr 20 u
theorem a9a(n:Int):(an6 n).length<=21:=by grind[an6,aod,decide]
def al7(v:PV):Bn:=
 bif ady (aa0 v) v then
  (bif aa0 v==1 then(bif abj v==1 then[116,114,117,101]else[102,97,108,115,101])
  else bif aa0 v==2 then an6 (IntKind.wrap .i64 (abj v))else bif aa0 v==3 then an6 (IntKind.wrap .i64 (abj v))else bif aa0 v==7 then akm (acu v)else decB (abj v).toNat)
 else[]
theorem a1v(n:Int)(m:-9223372036854775808<=n)(o:n<=9223372036854775807):akw 0 n=some (an6 n):=by grind[akw,decide_eq_true]
theorem wrapI(u:Nat)(m:u<18446744073709551616):-9223372036854775808<=IntKind.wrap .i64 (u:Int)/\IntKind.wrap .i64 (u:Int)<=9223372036854775807:=by rw[IntKind.wrap_i64];omega
theorem bbm(v:PV)(W:acn v)(O:aa0 v≠6)(U:aa0 v≠8):F413 v=some (al7 v):=by
 obtain⟨_,H,m,t⟩:=W;obtain⟨u,X⟩:∃u:Nat,abj v=(u:Int):=⟨(abj v).toNat,(Int.toNat_of_nonneg m).symm⟩;have o:u<18446744073709551616:=by omega
 have G:=wrapI u o;have I:(v.fld 0).asInt=aa0 v:=rfl;have J:(v.fld 1).asInt=abj v:=rfl;have M:(v.fld 2).asStr=acu v:=rfl;have Y:(aa0 v==(6:Int))=false:=beqI O;have Z:(aa0 v==(8:Int))=false:=beqI U;have z:a3a 0 (u:Int) (10:Int)=some (decB u):=by unfold a3a;rw[Ah (by omega),Ah (by omega)];simp
 have V:Lfmt 0 (u:Int) (10:Int)=some (decB u):=z;unfold F413 al7;simp only[I,J,M,ahb _ _ ⟨by assumption,H,m,t⟩,Aa,Y,Z,Af,alt _ H,X,a1v _ G.1 G.2,F425,V,Ae,F422,F430];generalize an6 (IntKind.wrap .i64 (u:Int))=x1;generalize akm (acu v)=x2;generalize decB u=x3;generalize ady (aa0 v) v=q0;generalize(aa0 v==(1:Int))=q1;generalize(aa0 v==(2:Int))=q2;generalize(aa0 v==(3:Int))=q3;generalize(aa0 v==(7:Int))=q7;generalize((u:Int)==(1:Int))=q;cases q0<;>cases q1<;>cases q2<;>cases q3<;>cases q7<;>cases q<;>rfl
theorem as3(v:PV)(hs:acn v)(Y:aa0 v≠6)(Z:aa0 v≠8):F390 v=some (al7 v):=by
 obtain⟨_,J,m,z⟩:=hs;obtain⟨u,hu⟩:∃u:Nat,abj v=(u:Int):=⟨(abj v).toNat,(Int.toNat_of_nonneg m).symm⟩;have o:u<18446744073709551616:=by omega
 have V:(v.fld 0).asInt=aa0 v:=rfl;have W:(v.fld 1).asInt=abj v:=rfl;have X:(v.fld 2).asStr=acu v:=rfl;have k6:(aa0 v==(6:Int))=false:=beqI Y;have k8:(aa0 v==(8:Int))=false:=beqI Z;have G:(bif decide ((u:Int)>=(9223372036854775808:Int))then(F417 (IntKind.wrap .u64 (0-(u:Int)))).bind λt=>bif decide (([45]:Bn).length+t.length<=aac)then some (([45]:Bn)++t)else none
  else some (decB u))=some (an6 (IntKind.wrap .i64 (u:Int))):=by
  unfold an6
  by_cases h:u<9223372036854775808
  ·have H:decide ((u:Int)>=(9223372036854775808:Int))=false:=Au (by omega);have I:IntKind.wrap .i64 (u:Int)=(u:Int):=by rw[IntKind.wrap_i64];omega
   grind
  ·have hw:IntKind.wrap .u64 (0-(u:Int))=((18446744073709551616-u:Nat):Int):=by rw[IntKind.wrap_u64];omega
   have hl:=aod (18446744073709551616-u);have H:decide ((u:Int)>=(9223372036854775808:Int))=true:=Ah (by omega);have I:IntKind.wrap .i64 (u:Int)=(u:Int)-18446744073709551616:=by rw[IntKind.wrap_i64];omega
   have M:decide ((u:Int)-18446744073709551616<0)=true:=Ah (by omega);have O:((u:Int)-18446744073709551616).natAbs=18446744073709551616-u:=by omega
   have U:=asq (18446744073709551616-u) (by omega);simp only[H,I,M,O,hw,U,Ad,Aa];grind[decB,ae8]
 unfold F390 al7;simp only[V,W,X,ado _ _ ⟨by assumption,J,m,z⟩,Aa,k6,k8,Af,aff _ J,hu,G,asq u o,Ae];grind
theorem al8(v:PV)(z:(acu v).length<=1048576):(al7 v).length<=4194400:=by have m:=adf (acu v);have o:=aod (abj v).toNat;have t:=a9a (IntKind.wrap .i64 (abj v));unfold al7;grind
end Go.Ab
