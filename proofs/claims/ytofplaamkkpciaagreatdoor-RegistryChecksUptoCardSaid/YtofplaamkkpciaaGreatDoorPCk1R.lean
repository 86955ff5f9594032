/- The examination of schemas, what is asked: the program's answers and the specification's. -/
import Derived.Test.YtofplaamkkpciaaGreatDoorPArgsR
set_option linter.unusedVariables false
set_option linter.unusedSimpArgs false
set_option linter.unnecessarySimpa false
namespace Go.Ab
open Go
set_option maxRecDepth 100000
theorem a9v(c:Bool):imp false c=true:=by cases c<;>rfl
theorem aio(c:Bool):imp true c=c:=by cases c<;>rfl
theorem au1(b:Bool):imp b true=true:=rfl
theorem decL(i n:Nat)(h:i<n):decide ((i:Int)<(n:Int))=true:=Ah (by omega)
theorem decN(n:Nat):decide (((n:Nat):Int)<(n:Int))=false:=Av (by omega)
theorem ain{i:Nat}(h:1<=i)(m:i<=1048576):IntKind.wrap .i64 ((i:Int)-1)=((i-1:Nat):Int):=by grind[abf]
theorem aam{l:List PV}{i:Nat}(m:i<l.length):l.getD i .bad∈l:=by grind
theorem af6{bad:Bool}{m e:Int}{d:Bn}{acc:List PV}:F166 () bad m e d acc=(pu bad d m e acc).map λa=>(d,a):=by unfold F166 pu;grind
theorem aco{o:Bool}{m e:Int}{d:Bn}{acc:List PV}:F131 () o e d m acc=(pu (!o) d m e acc).map λa=>(d,m,a):=by unfold F131 pu;grind
theorem ajs{l:List PV}{t m:Int}{d:Bn}{acc:List PV}(o:l.length<=1048576)(z:∀n,n∈l->ab5 n):F248 () l t m d acc=(pu (ab3 l t != 0) d m (ab3 l t) acc).map λa=>(d,a):=by grind[F248,adt,af6,mb,pu,ab3]
theorem ajq{l:List PV}{t m:Int}{d:Bn}{acc:List PV}(o:l.length<=1048576)(z:∀n,n∈l->ab5 n):F194 () l t d m acc=(pu (ab3 l t != 0) d m (ab3 l t) acc).map λa=>(d,m,a):=by unfold F194;rw[a2m l t o z,Aa,aco,mb,show(!(ab3 l t==(0:Int)))=(ab3 l t != 0)from rfl];grind[pu,ab3]
def hasT(l:List PV)(s:Bn):Bool:=l.any λx=>x.asStr==s
theorem ayj{l:List PV}(s:Bn)(h:l.length<=1048576):F239 l s=some (hasT l s):=by
 have q:=ajn (step:=(Y3 S239_3)) (λi=>(l,s,((i:Nat):Int))) l (λx=>x.asStr==s) (.inl true) (.inr ()) (λi m=>by
  simp only[Y3,S239_3,decL i _ m,Ad,aaa,Ah m,Ae,aal i (by omega)];grind) (by
  simp only[Y3,S239_3,decN,Af])
 have o:aad 0 (Y3 S239_3) (l,s,(0:Int))=_:=q;unfold F239 hasT;rw[o];cases l.any λx=>x.asStr==s<;>rfl
theorem bei{l:List PV}(s:Bn)(h:l.length<=1048576):F269 l s=some (idxI (λx=>x.asStr==s) l):=by
 have q:=aeh (step:=(Y4 S269_3)) (λi:Nat=>(l,s,((l.length:Nat):Int),((i:Nat):Int))) l.length (λi=>(l.getD i .bad).asStr==s) (λi=>.inl ((i:Nat):Int)) (.inr ()) (λi m=>by
  simp only[Y4,S269_3,decL i _ m,Ad,aaa,Ah m,Ae,aal i (by omega),beqC s];grind) (by
  simp only[Y4,S269_3,decN,Af]) l.length 0 (Nat.zero_add _)
 have o:aad 0 (Y4 S269_3) (l,s,((l.length:Nat):Int),(0:Int))=_:=q;unfold F269 idxI;rw[o];cases fstI (λi=>(l.getD i .bad).asStr==s) 0 l.length<;>rfl
theorem apt{l:List PV}(s:Bn)(h:l.length<=1048576):F186 l s=some (hasT l s):=by grind[F186,hasT,bei,aqa]
def resQ(n:Int)(x:PV):Bool:=bif decide ((x.fld 0).asInt<=n)then decide (n<=(x.fld 1).asInt)else false
theorem ake{l:List PV}(n:Int)(h:l.length<=1048576):F243 l n=some (l.any (resQ n)):=by
 have q:=ajn (step:=(Y3 S243_3)) (λi=>(l,n,((i:Nat):Int))) l (resQ n) (.inl true) (.inr ()) (λi m=>by
  simp only[Y3,S243_3,decL i _ m,Ad,aaa,Ah m,Ae,aal i (by omega),au1,resQ];grind) (by
  simp only[Y3,S243_3,decN,Af])
 have o:aad 0 (Y3 S243_3) (l,n,(0:Int))=_:=q;unfold F243;rw[o];cases l.any (resQ n)<;>rfl
theorem a2o{l:List PV}(n:Int)(h:l.length<=1048576):F199 l n=some (l.any (resQ n)):=by have e:F282_c283 l () n=_:=agb (c:=n) (show l.length<=1000000000000 by omega) (resQ n) λx _=>rfl;grind[F199]
def nmQ(n:Bn)(x:PV):Bool:=(x.fld 0).asStr==n
theorem alj{s:PV}(n:Bn)(h:(s.fld 0).asList.length<=1048576):F251 s n=some (idxI (nmQ n) (s.fld 0).asList):=by
 have q:=aeh (step:=(Y4 S251_3)) (λi=>(n,(),((i:Nat):Int),s)) (s.fld 0).asList.length (λi=>nmQ n ((s.fld 0).asList.getD i .bad)) (λi=>.inl (((i:Nat):Int),s)) (.inr s) (λi m=>by
  simp only[Y4,S251_3,decL i _ m,Ad,aaa,Ah m,Ae,aal i (by omega),nmQ];grind) (by
  simp only[Y4,S251_3,decN,Af]) (s.fld 0).asList.length 0 (Nat.zero_add _)
 have o:aad 0 (Y4 S251_3) (n,(),(0:Int),s)=_:=q;unfold F251 idxI;rw[o];cases fstI (λi=>nmQ n ((s.fld 0).asList.getD i .bad)) 0 (s.fld 0).asList.length<;>rfl
theorem atl{s:PV}(n:Bn)(h:(s.fld 1).asList.length<=1048576):F347 s n=some (idxI (nmQ n) (s.fld 1).asList):=by
 have q:=aeh (step:=(Y4 S347_3)) (λi=>(n,(),((i:Nat):Int),s)) (s.fld 1).asList.length (λi=>nmQ n ((s.fld 1).asList.getD i .bad)) (λi=>.inl (((i:Nat):Int),s)) (.inr s) (λi m=>by
  simp only[Y4,S347_3,decL i _ m,Ad,aaa,Ah m,Ae,aal i (by omega),nmQ];grind) (by
  simp only[Y4,S347_3,decN,Af]) (s.fld 1).asList.length 0 (Nat.zero_add _)
 have o:aad 0 (Y4 S347_3) (n,(),(0:Int),s)=_:=q;unfold F347 idxI;rw[o];cases fstI (λi=>nmQ n ((s.fld 1).asList.getD i .bad)) 0 (s.fld 1).asList.length<;>rfl
def fndQ(z:PV)(n:Bn)(l:List PV):PV×Bool:=(fstI (λi=>nmQ n (l.getD i .bad)) 0 l.length).elim (z,false) λi=>(l.getD i .bad,true)
theorem ahh(z:PV)(n:Bn)(l:List PV):(fndQ z n l).2=l.any (nmQ n):=by rw[<-aux];unfold fndQ;cases fstI (λi=>nmQ n (l.getD i .bad)) 0 l.length<;>rfl
theorem a9l{α:Type}{l:List PV}{n:Bn}{z:PV}{K:PV×Bool->α}:(bif decide (idxI (nmQ n) l<(0:Int))then some (z,false)else bif aab (idxI (nmQ n) l) l.length then some ((l.getD (idxI (nmQ n) l).toNat .bad),true)else none)=some (fndQ z n l):=by
 unfold idxI fndQ;cases h:fstI (λi=>nmQ n (l.getD i .bad)) 0 l.length with
 |none=>rfl
 |some i=>obtain⟨_,m,_⟩:=agj h;grind[decide,decide_eq_false,aab,bad,aaa,decide_eq_true,Int.toNat_natCast]
def bl1:PV:=PV.agg [(PV.str ([]:Bn)),(PV.slice []),(PV.slice []),(PV.slice []),(PV.slice [])]
def bc0:PV:=PV.agg [(PV.str ([]:Bn)),(PV.bool false),(PV.slice []),(PV.slice []),(PV.slice [])]
theorem agq{s:PV}(n:Bn)(h:(s.fld 0).asList.length<=1048576):F187 s n=some (fndQ bl1 n (s.fld 0).asList):=by have e:F138_c270 (s.fld 0).asList () n=_:=bah (c:=n) (show(s.fld 0).asList.length<=1000000000000 by omega) (nmQ n) λx _=>rfl;have m:F94_c95 (s.fld 0).asList () n=F94_c95 (s.fld 0).asList () n:=rfl;unfold F187;rw[e,Aa];exact a9l (K:=λx=>x)
theorem aw1{s:PV}(n:Bn)(h:(s.fld 1).asList.length<=1048576):F366 s n=some (fndQ bc0 n (s.fld 1).asList):=by have e:F409_c427 (s.fld 1).asList () n=_:=bah (c:=n) (show(s.fld 1).asList.length<=1000000000000 by omega) (nmQ n) λx _=>rfl;unfold F366;rw[e,Aa];exact a9l (K:=λx=>x)
theorem awd(s:Bn)(h:s.length<=1048576):F190 s=some (defP s):=by rw[<-alm s h];rfl
theorem ao3(s:Bn):F196 s=some (aeu s):=by rw[<-agm s];unfold F196 F289;rfl
def typQ(s f:PV):Bool:=
 bif ((f.fld 4).fld 0).asInt==(9:Int)then(s.fld 1).asList.any (nmQ ((f.fld 4).fld 1).asStr)else bif ((f.fld 4).fld 0).asInt==(10:Int)then(bif (s.fld 0).asList.any (nmQ ((f.fld 4).fld 1).asStr)then(f.fld 2).asInt != (3:Int)else false)else(bif (bif (decide (((f.fld 4).fld 0).asInt>=(1:Int)))then(decide (((f.fld 4).fld 0).asInt<=(8:Int)))else false)then(((f.fld 4).fld 1).asStr==([]:Bn))else false)
theorem bbv{s:PV}(f:PV)(m:(s.fld 0).asList.length<=1048576)(o:(s.fld 1).asList.length<=1048576):F245 s f=some (typQ s f):=by grind[F245,typQ,atl,alj,aqa,asInt]
theorem a4z{s:PV}(f:PV)(m:(s.fld 0).asList.length<=1048576)(o:(s.fld 1).asList.length<=1048576):F275 s f=some (typQ s f):=by unfold F275 typQ;rw[aw1 _ o,agq _ m,Aa,Aa,ahh,ahh];grind
def bdh(f:PV):Bool:=bif (bif (decide ((f.fld 2).asInt>=(1:Int)))then(decide ((f.fld 2).asInt<=(5:Int)))else false)then(bif ((f.fld 2).asInt != (5:Int))then((f.fld 3).asInt==(0:Int))else(bif (bif (decide ((f.fld 3).asInt>=(1:Int)))then(decide ((f.fld 3).asInt<=(7:Int)))else false)then((f.fld 3).asInt != (6:Int))else false))else false
theorem a4y(c k:Int):F274 c k=some (bif (c != (5:Int))then(k==(0:Int))else(bif (bif (decide (k>=(1:Int)))then(decide (k<=(7:Int)))else false)then(k != (6:Int))else false)):=by grind[F274]
theorem a6o(f:PV):F244 f=some (bdh f):=by
 unfold F244 bdh;generalize(f.fld 2).asInt=c;generalize(f.fld 3).asInt=k;by_cases m:c=5
 ·subst m;by_cases o:1<=k/\k<=7
  ·obtain rfl|rfl|rfl|rfl|rfl|rfl|rfl:k=1\/k=2\/k=3\/k=4\/k=5\/k=6\/k=7:=by omega
   all_goals rfl
  grind
 grind
def unQ(u:Bn)(x:PV):Bool:=(x.fld 5).asStr==u
def fnQ(u:Bn)(x:PV):Bool:=(x.fld 1).asStr==u
noncomputable def uniQ(m:PV)(i:Nat):Bool:=
 bif (((m.fld 1).asList.getD i .bad).fld 5).asStr==([]:Bn)then true else
 bif (bif (((m.fld 1).asList.getD i .bad).fld 2).asInt != (2:Int)then true else !aeu (((m.fld 1).asList.getD i .bad).fld 5).asStr)then false else
 bif (m.fld 1).asList.any (fnQ (((m.fld 1).asList.getD i .bad).fld 5).asStr)then false else
 bif !((m.fld 1).asList.take i).any (unQ (((m.fld 1).asList.getD i .bad).fld 5).asStr)then true else(((m.fld 1).asList.getD (i-1) .bad).fld 5).asStr==(((m.fld 1).asList.getD i .bad).fld 5).asStr
theorem apz{l:List PV}{i j:Nat}(h:i<=j):(l.take i).drop j=[]:=Ba (by grind)
theorem a7y{l:List PV}{i:Nat}{p:PV->Bool}(h:(l.take i).any p=true):1<=i:=by grind
theorem bg1{l:List PV}{i:Nat}(m:i<l.length)(o:l.length<=1048576){b:Bool}(h:b=false->1<=i):imp (!b) (aab (IntKind.wrap .i64 ((i:Int)-1)) l.length)=true:=by
 cases b with
 |true=>exact a9v _
 |false=>have:=h rfl;rw[ain this (by omega),aaa,Ah (show i-1<l.length by omega)];rfl
theorem bbh{α:Type}{l:List PV}{i:Nat}(m:i<l.length)(o:l.length<=1048576){b:Bool}(h:b=false->1<=i)(f:PV->Bool):(bif b then true else f (l.getD (IntKind.wrap .i64 ((i:Int)-1)).toNat .bad))=bif b then true else f (l.getD (i-1) .bad):=by
 cases b with
 |true=>rfl
 |false=>rw[ain (h rfl) (by omega),Ae]
theorem bcu{m:PV}{i:Nat}(o:i<(m.fld 1).asList.length)(t:(m.fld 1).asList.length<=1048576):F276 m (i:Int)=some (uniQ m i):=by
 have G:∀x:PV,F364_c367 (m.fld 1).asList () x=some ((m.fld 1).asList.any (fnQ (x.fld 5).asStr),x):=λx=>agb (c:=x) (show(m.fld 1).asList.length<=1000000000000 by omega) (fnQ (x.fld 5).asStr) λy _=>rfl;have H:∀x:PV,F364_c368 ((m.fld 1).asList.take i) () x=some (((m.fld 1).asList.take i).any (unQ (x.fld 5).asStr),x):=λx=>agb (c:=x) (show((m.fld 1).asList.take i).length<=1000000000000 by grind) (unQ (x.fld 5).asStr) λy _=>rfl;have I:decide (0<=(0:Int)/\(0:Int)<=(i:Int)/\(i:Int)<=((m.fld 1).asList.length:Int))=true:=Ah (by omega);unfold F276 uniQ;simp only[aaa,Ah o,Ad,Ae,ao3,I,show(0:Int).toNat=0 from rfl,Ar,G,H,Aa];generalize(m.fld 1).asList.getD i .bad=f;cases(f.fld 5).asStr==([]:Bn)with
 |true=>rfl
 |false=>
  cases(f.fld 2).asInt != (2:Int)with
  |true=>rfl
  |false=>
   simp only[Af,Ao,Ad,Aa];cases aeu (f.fld 5).asStr with
   |false=>rfl
   |true=>
    simp only[An,Ao,Ad,Af,Aa];cases(m.fld 1).asList.any (fnQ (f.fld 5).asStr)with
    |true=>rfl
    |false=>have z:(!((m.fld 1).asList.take i).any (unQ (f.fld 5).asStr))=false->1<=i:=λh=>a7y (by simpa using h);simp only[Af];rw[bg1 o t z,Ad,bbh (α:=PV) o t z λx=>(x.fld 5).asStr==(f.fld 5).asStr]
theorem bgd{m:PV}{i:Nat}(z:i<(m.fld 1).asList.length)(J:(m.fld 1).asList.length<=1048576)(X:(((m.fld 1).asList.getD i .bad).fld 5).asStr.length<=1048576):F246 m (i:Int)=some (uniQ m i):=by
 unfold F246 uniQ;simp only[aaa,Ah z,Ad,Ae,amq _ X];generalize(m.fld 1).asList.getD i .bad=f;have key:∀(k j:Nat)(e:Bool),j+k=(m.fld 1).asList.length->aap (Y7 S246_9) ((i:Int),(),(),e,((j:Nat):Int),m,f)=some (bif ((m.fld 1).asList.drop j).any (fnQ (f.fld 5).asStr)then .inl (false,m,f)else .inr ((i:Int),(),(),(e||(((m.fld 1).asList.take i).drop j).any (unQ (f.fld 5).asStr)),m,f)):=by
  intro k;induction k with
  |zero=>
   intro j e W;obtain rfl:j=(m.fld 1).asList.length:=by omega
   rw[aae (show(Y7 S246_9) ((i:Int),(),(),e,(((m.fld 1).asList.length:Nat):Int),m,f)=some (.inr (.inr ((i:Int),(),(),e,m,f))) by simp only[Y7,S246_9,decN,Af])];grind[List.drop_length,apz]
  |succ k O=>
   intro j e W;have o:j<(m.fld 1).asList.length:=by omega
   rw[aa2 o .bad,List.any_cons];have I:fnQ (f.fld 5).asStr ((m.fld 1).asList.getD j .bad)=((((m.fld 1).asList.getD j .bad).fld 1).asStr==(f.fld 5).asStr):=rfl;by_cases G:j<i
   ·have V:((m.fld 1).asList.take i).drop j=(m.fld 1).asList.getD j .bad::((m.fld 1).asList.take i).drop (j+1):=by
     rw[aa2 (l:=(m.fld 1).asList.take i) (by grind) .bad];grind
    rw[V,List.any_cons,I];cases t:(((m.fld 1).asList.getD j .bad).fld 1).asStr==(f.fld 5).asStr with
    |true=>refine aae ?_;simp only[Y7,S246_9,decL j _ o,Ad,aaa,Ah o,Ae,t];rfl
    |false=>
     have H:(Y7 S246_9) ((i:Int),(),(),e,((j:Nat):Int),m,f)=some (.inl ((i:Int),(),(),(e||unQ (f.fld 5).asStr ((m.fld 1).asList.getD j .bad)),((j+1:Nat):Int),m,f)):=by simp only[Y7,S246_9,decL j _ o,Ad,aaa,Ah o,Ae,t,Af,decL j i G,aio,aal j (by omega),unQ];grind
     rw[aan H,O (j+1) _ (by omega),Bool.false_or,Bool.or_assoc]
   ·rw[apz (l:=(m.fld 1).asList) (by omega),I];cases t:(((m.fld 1).asList.getD j .bad).fld 1).asStr==(f.fld 5).asStr with
    |true=>refine aae ?_;simp only[Y7,S246_9,decL j _ o,Ad,aaa,Ah o,Ae,t];rfl
    |false=>
     have H:(Y7 S246_9) ((i:Int),(),(),e,((j:Nat):Int),m,f)=some (.inl ((i:Int),(),(),e,((j+1:Nat):Int),m,f)):=by simp only[Y7,S246_9,decL j _ o,Ad,aaa,Ah o,Ae,t,Af,Av (show ¬(j:Int)<(i:Int) by omega),a9v,aal j (by omega)]
     rw[aan H,O (j+1) _ (by omega),apz (l:=(m.fld 1).asList) (by omega),Bool.false_or]
 have U:aad 0 (Y7 S246_9) ((i:Int),(),(),false,(0:Int),m,f)=_:=key (m.fld 1).asList.length 0 false (Nat.zero_add _);rw[Ar,Ar,Bool.false_or]at U;cases(f.fld 5).asStr==([]:Bn)with
 |true=>rfl
 |false=>
  cases(f.fld 2).asInt != (2:Int)with
  |true=>rfl
  |false=>
   simp only[Af,Ao,Ad,Aa];cases aeu (f.fld 5).asStr with
   |false=>rfl
   |true=>
    simp only[An,Af];rw[U,Aa];cases(m.fld 1).asList.any (fnQ (f.fld 5).asStr)with
    |true=>rfl
    |false=>have M:(!((m.fld 1).asList.take i).any (unQ (f.fld 5).asStr))=false->1<=i:=λh=>a7y (by simpa using h);simp only[Af,aa6];rw[bg1 z J M,Ad,bbh (α:=PV) z J M λx=>(x.fld 5).asStr==(f.fld 5).asStr]
def itQ(u:Int)(x:PV):Bool:=IntKind.wrap .u64 (x.fld 1).asInt==u
def zerQ(v:PV):Bool:=bif (bif (bif ((v.fld 0).asInt==(0:Int))then((v.fld 1).asInt==(0:Int))else false)then((v.fld 2).asStr==([]:Bn))else false)then decide (vLists v=0)else false
noncomputable def dflQ(s f:PV):Bool:=
 bif !(f.fld 6).asBool then zerQ (f.fld 7)else
 bif (bif (f.fld 2).asInt != (2:Int)then true else !((f.fld 5).asStr==([]:Bn)))then false else
 bif !ad2 ((f.fld 4).fld 0).asInt (f.fld 7)then false else
 bif aon (f.fld 7) != abk (f.fld 7)then false else
 bif ((f.fld 4).fld 0).asInt != (9:Int)then true else
 bif (s.fld 1).asList.any (nmQ ((f.fld 4).fld 1).asStr)then(((fndQ bc0 ((f.fld 4).fld 1).asStr (s.fld 1).asList).1.fld 2).asList).any (itQ (abk (f.fld 7)))else false
theorem sum4{a b c d:Nat}(h:a+b+c+d<=1048576):(IntKind.wrap .i64 ((IntKind.wrap .i64 ((IntKind.wrap .i64 ((a:Int)+(b:Int)))+(c:Int)))+(d:Int))==(0:Int))=decide (a+b+c+d=0):=by rw[show(a:Int)+(b:Int)=((a+b:Nat):Int) by omega,abf (by omega),show((a+b:Nat):Int)+(c:Int)=((a+b+c:Nat):Int) by omega,abf (by omega),show((a+b+c:Nat):Int)+(d:Int)=((a+b+c+d:Nat):Int) by omega,abf (by omega)];grind
theorem bje{v:PV}(m:acp v):F369 v=some (zerQ v):=by have h:=m.1;grind[vLists,F369,zerQ,sum4]
theorem a6t{v:PV}(o:acp v):F348 v (PV.agg [(PV.int (0:Int)),(PV.int (0:Int)),(PV.str ([]:Bn)),(PV.slice []),(PV.slice []),(PV.slice []),(PV.slice [])])=some (zerQ v):=by
 have h:=o.1;unfold vLists at h;unfold F348 zerQ vLists;have e:∀n:Nat,n<=1048576->IntKind.wrap .i64 ((n:Int)+(((0:Nat):Int)))=((n:Nat):Int):=λn z=>by rw[show(n:Int)+((0:Nat):Int)=((n:Nat):Int) by omega,abf (by omega)]
 have t:((PV.slice []).asList).length=0:=rfl;simp only[show((PV.agg [(PV.int (0:Int)),(PV.int (0:Int)),(PV.str ([]:Bn)),(PV.slice []),(PV.slice []),(PV.slice []),(PV.slice [])]).fld 3)=PV.slice []from rfl,show((PV.agg [(PV.int (0:Int)),(PV.int (0:Int)),(PV.str ([]:Bn)),(PV.slice []),(PV.slice []),(PV.slice []),(PV.slice [])]).fld 4)=PV.slice []from rfl,show((PV.agg [(PV.int (0:Int)),(PV.int (0:Int)),(PV.str ([]:Bn)),(PV.slice []),(PV.slice []),(PV.slice []),(PV.slice [])]).fld 5)=PV.slice []from rfl,show((PV.agg [(PV.int (0:Int)),(PV.int (0:Int)),(PV.str ([]:Bn)),(PV.slice []),(PV.slice []),(PV.slice []),(PV.slice [])]).fld 6)=PV.slice []from rfl,t];generalize(v.fld 3).asList.length=a at*;generalize(v.fld 4).asList.length=b at*;generalize(v.fld 5).asList.length=c at*;generalize(v.fld 6).asList.length=d at*;rw[show(a:Int)+(b:Int)=((a+b:Nat):Int) by omega,abf (by omega),show((a+b:Nat):Int)+(c:Int)=((a+b+c:Nat):Int) by omega,abf (by omega),show((a+b+c:Nat):Int)+(d:Int)=((a+b+c+d:Nat):Int) by omega,abf (by omega),e _ h,e _ h,e _ h,e _ h];have m:(((a+b+c+d:Nat):Int)==(0:Int))=decide (a+b+c+d=0):=by grind
 rw[m];rfl
theorem a9j{k:Int}{v:PV}(h:ad2 k v=true):vLists v=0:=by unfold ad2 at h;grind
theorem bff{v:PV}(H:acp v)(z:vLists v=0):∃w,F350 v=some w/\F348 v w=some (aon v==abk v):=by
 obtain⟨u,I,G⟩:=auf H;have o:(v.fld 0).asInt=aa0 v:=rfl;have t:(v.fld 1).asInt=abk v:=rfl;unfold vLists at z;have J:(v.fld 3).asList.length=0:=by omega
 have M:(v.fld 4).asList.length=0:=by omega
 have O:(v.fld 5).asList.length=0:=by omega
 have U:(v.fld 6).asList.length=0:=by omega
 have V:(IntKind.wrap .i64 ((IntKind.wrap .i64 ((IntKind.wrap .i64 ((IntKind.wrap .i64 ((IntKind.wrap .i64 ((IntKind.wrap .i64 ((IntKind.wrap .i64 (((0:Nat):Int)+((0:Nat):Int)))+((0:Nat):Int)))+((0:Nat):Int)))+((0:Nat):Int)))+((0:Nat):Int)))+((0:Nat):Int)))+((0:Nat):Int))==(0:Int))=true:=by decide
 have m:F348 v v=some true:=by unfold F348;grind
 unfold F350 aon;simp only[o,t,I,akv u,Ae];cases(aa0 v==(6:Int))with
 |false=>grind
 |true=>
  cases h:agc u==(0:Int)with
  |false=>grind
  |true=>refine⟨PV.agg [(PV.int (aa0 v)),(PV.int (9221120237041090560:Int)),(PV.str ((v.fld 2).asStr)),(PV.slice ((v.fld 3).asList)),(PV.slice ((v.fld 4).asList)),(PV.slice ((v.fld 5).asList)),(PV.slice ((v.fld 6).asList))],by simp[h],?_⟩;unfold F348;show some (bif (bif (bif ((v.fld 0).asInt==aa0 v)then((v.fld 1).asInt==(9221120237041090560:Int))else false)then((v.fld 2).asStr==(v.fld 2).asStr)else false)then(IntKind.wrap .i64 ((IntKind.wrap .i64 ((IntKind.wrap .i64 ((IntKind.wrap .i64 ((IntKind.wrap .i64 ((IntKind.wrap .i64 ((IntKind.wrap .i64 ((((v.fld 3).asList).length:Int)+(((v.fld 4).asList).length:Int)))+(((v.fld 5).asList).length:Int)))+(((v.fld 6).asList).length:Int)))+(((v.fld 3).asList).length:Int)))+(((v.fld 4).asList).length:Int)))+(((v.fld 5).asList).length:Int)))+(((v.fld 6).asList).length:Int))==(0:Int))else false)=_;grind
theorem aw9{s f:PV}(z:(s.fld 1).asList.length<=1048576)(H:∀x,x∈(s.fld 1).asList->(x.fld 2).asList.length<=1048576)(m:acp (f.fld 7)):F277 s f=some (dflQ s f):=by
 obtain⟨w,o,t⟩:=ba8 _ m;unfold F277 dflQ;rw[bje m,Aa,ahg _ _ m,o,aw1 _ z,Aa];cases(f.fld 6).asBool with
 |false=>rfl
 |true=>
  simp only[An,Af];cases(bif (f.fld 2).asInt != (2:Int)then true else !((f.fld 5).asStr==([]:Bn)))with
  |true=>rfl
  |false=>
   simp only[Ao,Ad,Af,Aa];cases ad2 ((f.fld 4).fld 0).asInt (f.fld 7)with
   |false=>rfl
   |true=>
    simp only[An,Ao,Ad,Af,Aa,t,show((f.fld 7).fld 1).asInt=abk (f.fld 7)from rfl,ahh];cases aon (f.fld 7) != abk (f.fld 7)with
    |true=>rfl
    |false=>
     cases((f.fld 4).fld 0).asInt != (9:Int)with
     |true=>rfl
     |false=>
      simp only[Af];cases I:(s.fld 1).asList.any (nmQ ((f.fld 4).fld 1).asStr)with
      |false=>rfl
      |true=>
       have J:((fndQ bc0 ((f.fld 4).fld 1).asStr (s.fld 1).asList).1.fld 2).asList.length<=1048576:=by
        unfold fndQ;cases G:fstI (λi=>nmQ ((f.fld 4).fld 1).asStr ((s.fld 1).asList.getD i .bad)) 0 (s.fld 1).asList.length with
        |none=>exact Nat.zero_le _
        |some i=>exact H _ (aam (by have:=(agj G).2.1;omega))
       have e:F280_c372 ((fndQ bc0 ((f.fld 4).fld 1).asStr (s.fld 1).asList).1.fld 2).asList () f=_:=agb (c:=f) (by omega) (itQ (abk (f.fld 7))) λx _=>rfl;grind
theorem bgf{s f:PV}(I:(s.fld 1).asList.length<=1048576)(M:∀x,x∈(s.fld 1).asList->(x.fld 2).asList.length<=1048576)(z:acp (f.fld 7)):F247 s f=some (dflQ s f):=by
 unfold F247 dflQ;dsimp only;rw[a6t z,Aa,adu _ _ z,atl _ I,Aa];cases(f.fld 6).asBool with
 |false=>rfl
 |true=>
  simp only[An,Af];cases(bif (f.fld 2).asInt != (2:Int)then true else !((f.fld 5).asStr==([]:Bn)))with
  |true=>rfl
  |false=>
   simp only[Ao,Ad,Af,Aa];cases m:ad2 ((f.fld 4).fld 0).asInt (f.fld 7)with
   |false=>rfl
   |true=>
    obtain⟨w,G,H⟩:=bff z (a9j m);simp only[An,Ao,Ad,Af,G,Aa,H];rw[show(aon (f.fld 7) != abk (f.fld 7))=!(aon (f.fld 7)==abk (f.fld 7))from rfl];cases aon (f.fld 7)==abk (f.fld 7)with
    |false=>rfl
    |true=>
     simp only[An,Af];cases((f.fld 4).fld 0).asInt != (9:Int)with
     |true=>rfl
     |false=>
      simp only[Af];rw[<-ahh bc0];unfold idxI fndQ;cases J:fstI (λi=>nmQ ((f.fld 4).fld 1).asStr ((s.fld 1).asList.getD i .bad)) 0 (s.fld 1).asList.length with
      |none=>rfl
      |some j=>
       have t:j<(s.fld 1).asList.length:=by have:=(agj J).2.1;omega
       have O:=M _ (aam t);have q:=ajn (step:=(Y7 S247_13)) (λi=>((),(),((j:Nat):Int),((i:Nat):Int),s,f,f.fld 7)) (((s.fld 1).asList.getD j .bad).fld 2).asList (itQ (abk (f.fld 7))) (.inl (true,s,f,f.fld 7)) (.inr (s,f,f.fld 7)) (λi o=>by
        simp only[Y7,S247_13,aaa,Ah t,Ae,Ad,decL i _ o,Ah o,aal i (by omega),itQ,abk];grind) (by
        simp only[Y7,S247_13,aaa,Ah t,Ae,Ad,decN,Af])
       have U:aad 0 (Y7 S247_13) ((),(),((j:Nat):Int),(0:Int),s,f,f.fld 7)=_:=q;show(bif decide (((j:Nat):Int)<(0:Int))then some false else _)=_;rw[Av (show ¬((j:Nat):Int)<(0:Int) by omega),Af];show((aad 0 (Y7 S247_13) ((),(),((j:Nat):Int),(0:Int),s,f,f.fld 7)).bind _)=_;rw[U];simp only[Option.elim,Ad,Aa];cases(((s.fld 1).asList.getD j .bad).fld 2).asList.any (itQ (abk (f.fld 7)))<;>rfl
def twQ(k:Nat)(l:List PV)(i:Nat):Bool:=(l.take i).any λx=>(x.fld k).asStr==((l.getD i .bad).fld k).asStr
theorem bfk{l:List PV}{i:Nat}(m:i<l.length)(o:l.length<=1048576):F272_c273 l (i:Int) ()=some (twQ 1 l i):=by
 have t:decide (0<=(0:Int)/\(0:Int)<=(i:Int)/\(i:Int)<=(l.length:Int))=true:=Ah (by omega);have e:F364_c365 (l.take i) () () l (i:Int)=_:=agb (c:=((),l,(i:Int))) (show(l.take i).length<=1000000000000 by grind) (λx=>(x.fld 1).asStr==((l.getD i .bad).fld 1).asStr) λx _=>by show F365 x () () () () l (i:Int)=_;unfold F365 F273;simp only[Aa,aaa,Ah m,Ad,Ae]
 unfold F272_c273 twQ;grind
theorem bfl{l:List PV}{i:Nat}(m:i<l.length)(o:l.length<=1048576):F197_c198 l (i:Int) ()=some (twQ 0 l i):=by
 have t:decide (0<=(0:Int)/\(0:Int)<=(i:Int)/\(i:Int)<=(l.length:Int))=true:=Ah (by omega);have e:F280_c281 (l.take i) () () l (i:Int)=_:=agb (c:=((),l,(i:Int))) (show(l.take i).length<=1000000000000 by grind) (λx=>(x.fld 0).asStr==((l.getD i .bad).fld 0).asStr) λx _=>by show F281 x () () () () l (i:Int)=_;unfold F281 F198;simp only[Aa,aaa,Ah m,Ad,Ae]
 unfold F197_c198 twQ;grind
end Go.Ab
namespace Go.Ab
open Go
set_option maxRecDepth 100000
theorem mp{α m:Type}(x:Option α)(f:α->m):x.map f=x.bind λa=>some (f a):=by cases x<;>rfl
theorem rngN(n a b:Int):(!(bif decide (n>=a)then decide (n<=b)else false))=(bif decide (n<a)then true else decide (n>b)):=by grind
theorem gtN(a b:Int):decide (a>b)=!decide (a<=b):=by grind
theorem gtZ(i:Nat):decide ((i:Int)>(0:Int))=decide (0<i):=by grind
theorem eq0(i:Nat):((i:Int)==(0:Int))=!decide (0<i):=by grind
theorem ax9{l:List PV}{i:Nat}(m:i<l.length)(o:l.length<=1048576):imp (decide (0<i)) (aab (IntKind.wrap .i64 ((i:Int)-1)) l.length)=true:=by
 by_cases h:0<i
 ·rw[ain h (by omega),aaa,Ah (show i-1<l.length by omega)];rfl
 grind[decide_eq_false,a9v]
theorem ax8{l:List PV}{i:Nat}(m:i<l.length)(o:l.length<=1048576)(f:PV->Bool):(bif decide (0<i)then f (l.getD (IntKind.wrap .i64 ((i:Int)-1)).toNat .bad)else false)=(bif decide (0<i)then f (l.getD (i-1) .bad)else false):=by grind[ain,Int.toNat_natCast,decide_eq_false]
theorem notB(c x:Bool):(!(bif !c then true else !x))=(bif c then x else false):=by cases c<;>cases x<;>rfl
theorem deny(r h:Bool):(!(bif !r then !(bif !r then h else false)else false))=(bif r then true else h):=by cases r<;>cases h<;>rfl
theorem deny2(r h:Bool):(bif r then true else(bif !r then h else false))=(bif r then true else h):=by cases r<;>rfl
theorem two(c k:Bool):(bif c then(bif c then k else false)else false)=(bif c then k else false):=by cases c<;>rfl
noncomputable def fldG(s m f:PV)(d:Bn)(i:Nat)(acc:List PV):Option (List PV):=
 (pu (bif decide ((f.fld 0).asInt<(1:Int))then true else decide ((f.fld 0).asInt>(65535:Int))) d (f.fld 0).asInt 6 acc).bind λa=>
 (pu (bif decide (0<i)then decide ((f.fld 0).asInt<=(((m.fld 1).asList.getD (i-1) .bad).fld 0).asInt)else false) d (f.fld 0).asInt 11 a).bind λa=>
 (pu (!aeu (f.fld 1).asStr) d (f.fld 0).asInt 8 a).bind λa=>
 (pu (twQ 1 (m.fld 1).asList i) d (f.fld 0).asInt 9 a).bind λa=>
 (pu (bif (m.fld 2).asList.any (resQ (f.fld 0).asInt)then true else hasT (m.fld 3).asList (f.fld 1).asStr) d (f.fld 0).asInt 21 a).bind λa=>
 (pu (!bdh f) d (f.fld 0).asInt 1 a).bind λa=>
 (pu (!typQ s f) d (f.fld 0).asInt 12 a).bind λa=>
 (pu (!uniQ m i) d (f.fld 0).asInt 15 a).bind λa=>
 (pu (!dflQ s f) d (f.fld 0).asInt 1 a).bind λa=>
 pu (ab3 (f.fld 8).asList 2 != 0) d (f.fld 0).asInt (ab3 (f.fld 8).asList 2) a
structure SLen(s:PV):Prop where
 m:(s.fld 0).asList.length<=1048576
 e:(s.fld 1).asList.length<=1048576
 v:(s.fld 2).asList.length<=1048576
structure SOk(s:PV):Prop where
 len:SLen s
 msg:∀m,m∈(s.fld 0).asList->OkMsg m
 enum:∀m,m∈(s.fld 1).asList->OkEnum m
 svc:∀m,m∈(s.fld 2).asList->OkSvc m
theorem bdz{s m:PV}{d:Bn}{I:Int}{acc:List PV}{i:Nat}(G:SOk s)(z:OkMsg m)(o:i<(m.fld 1).asList.length):F191 () s m (i:Int) d I acc=(fldG s m ((m.fld 1).asList.getD i .bad) d i acc).map λa=>(d,(-1:Int),a):=by have t:=z.fields;have H:=z.field _ (aam o);have O:=ax9 o t;have M:=ax8 o t λx=>decide ((((m.fld 1).asList.getD i .bad).fld 0).asInt<=(x.fld 0).asInt);unfold F191 fldG;simp only[aaa,Ah o,Ad,Ae,bfk o t,bcu o t];simp only[ao3,a2o _ z.spans,apt _ z.gone,a4y,a4z _ G.len.m G.len.e,aw9 G.len.e (λe J=>(G.enum e J).items) H.dflt,ajq H.notes H.note,aco,mp,bb,Aa,aos,eq0,Bool.not_not,O,Ad,rngN,gtN _ (((m.fld 1).asList.getD (IntKind.wrap .i64 ((i:Int)-1)).toNat .bad).fld 0).asInt,notB,M,deny,two,bdh]
theorem bgb{s m:PV}{fin:List PV}{d:Bn}{acc:List PV}{i:Nat}(M:i<(m.fld 1).asList.length)(O:(m.fld 1).asList.length<=1048576):
 aad 0 (Y13 S170_11) (fin,(),(),(),((i:Nat):Int),(),false,(0:Int),s,m,d,acc,(m.fld 1).asList.getD i .bad)=some (fin,(),(),(),((i:Nat):Int),(),twQ 1 (m.fld 1).asList i,s,m,d,acc,(m.fld 1).asList.getD i .bad):=by
 unfold twQ
 generalize J:(m.fld 1).asList.getD i .bad=f
 have key:∀(k j:Nat)(b:Bool),j+k=i->aap (Y13 S170_11) (fin,(),(),(),((i:Nat):Int),(),b,((j:Nat):Int),s,m,d,acc,f)=some (fin,(),(),(),((i:Nat):Int),(),(b||(((m.fld 1).asList.take i).drop j).any λx=>(x.fld 1).asStr==(f.fld 1).asStr),s,m,d,acc,f):=by
  intro k;induction k with
  |zero=>
   intro j b G;obtain rfl:j=i:=by omega
   rw[aae (show(Y13 S170_11) (fin,(),(),(),((j:Nat):Int),(),b,((j:Nat):Int),s,m,d,acc,f)=some (.inr (fin,(),(),(),((j:Nat):Int),(),b,s,m,d,acc,f)) by simp only[Y13,S170_11,decN,Af]),apz (Nat.le_refl j)];simp
  |succ k I=>
   intro j b G;have o:j<(m.fld 1).asList.length:=by omega
   have z:((m.fld 1).asList.take i).drop j=(m.fld 1).asList.getD j .bad::((m.fld 1).asList.take i).drop (j+1):=by rw[aa2 (l:=(m.fld 1).asList.take i) (by grind) .bad];grind
   have H:(Y13 S170_11) (fin,(),(),(),((i:Nat):Int),(),b,((j:Nat):Int),s,m,d,acc,f)=some (.inl (fin,(),(),(),((i:Nat):Int),(),(b||(((m.fld 1).asList.getD j .bad).fld 1).asStr==(f.fld 1).asStr),((j+1:Nat):Int),s,m,d,acc,f)):=by simp only[Y13,S170_11,decL j i (by omega),Ad,aaa,Ah o,Ae,aal j (by omega)];grind
   rw[aan H,I (j+1) _ (by omega),z,List.any_cons,Bool.or_assoc]
 have t:=key i 0 false (Nat.zero_add _)
 rw[Ar,Bool.false_or]at t
 exact t
theorem bkb{s m:PV}{fin:List PV}{d:Bn}{acc:List PV}{i:Nat}(H:SOk s)(G:OkMsg m)(o:i<(m.fld 1).asList.length):
 (Y9 S170_6) (fin,(),(),(),((i:Nat):Int),s,m,d,acc)=(fldG s m ((m.fld 1).asList.getD i .bad) d i acc).map λa=>.inl (fin,(),(),(),((i+1:Nat):Int),s,m,d,a):=by
 have z:=G.fields
 have t:=G.field _ (aam o)
 have O:=ax9 o z
 have M:=ax8 o z λx=>decide ((((m.fld 1).asList.getD i .bad).fld 0).asInt<=(x.fld 0).asInt)
 have I:=bgb (s:=s) (fin:=fin) (d:=d) (acc:=acc) o z
 simp only[Y9,S170_6,decL i _ o,Ad,aaa,Ah o,Ae,I,Aa]
 unfold fldG
 simp only[bgd o z t.union]
 simp only[amq _ t.name,ake _ G.spans,ayj _ G.gone,a6o,bbv _ H.len.m H.len.e,bgf H.len.e (λe J=>(H.enum e J).items) t.dflt,ajs t.notes t.note,af6,mp,bb,Aa,aos,gtZ,O,Ad,M,deny2,aal i (show i<=1000000000000 by omega)]
def spG(l:List PV)(t o:Int)(d:Bn)(m:Int)(i:Nat)(acc:List PV):Option (List PV):=
 (pu (bif (bif decide (((l.getD i .bad).fld 0).asInt<t)then true else decide (((l.getD i .bad).fld 1).asInt>o))then true else decide (((l.getD i .bad).fld 0).asInt>((l.getD i .bad).fld 1).asInt)) d m 6 acc).bind λa=>
 pu (bif decide (0<i)then decide (((l.getD i .bad).fld 0).asInt<=((l.getD (i-1) .bad).fld 1).asInt)else false) d m 11 a
theorem rng3(a b o m:Int):(!(bif (bif decide (a>=o)then decide (b<=m)else false)then decide (a<=b)else false))=(bif (bif decide (a<o)then true else decide (b>m))then true else decide (a>b)):=by grind
theorem a3z{l:List PV}{z t m:Int}{d:Bn}{acc:List PV}(G:l.length<=1048576):F192 () l z t d m acc=(ade (spG l z t d m) 0 l.length acc).map λa=>(d,m,a):=by
 have q:=ach (step:=(Y10 S192_2)) (λi b=>((),l,z,t,l,((l.length:Nat):Int),((i:Nat):Int),d,m,b)) l.length (spG l z t d m) (λb=>(d,m,b)) (λi b o=>by
  have I:=ax9 o G;have H:=ax8 o G λx=>decide (((l.getD i .bad).fld 0).asInt<=(x.fld 1).asInt);simp only[Y10,S192_2,decL i _ o,Ad,aaa,Ah o,Ae,aco,mp,bb,Aa,eq0,Bool.not_not,I,rng3,gtN _ ((l.getD (IntKind.wrap .i64 ((i:Int)-1)).toNat .bad).fld 1).asInt,notB,H,aal i (show i<=1000000000000 by omega),spG]) (λb=>by
  simp only[Y10,S192_2,decN,Af]) acc
 grind[aad,Y10,F192,mb,mp]
theorem arc{l:List PV}{t o:Int}{d:Bn}{acc:List PV}(z:l.length<=1048576):F249 () l t o d acc=(ade (spG l t o d (-1)) 0 l.length acc).map λa=>(d,a):=by
 have q:=ach (step:=(Y7 S249_2)) (λi b=>((),l,t,o,((i:Nat):Int),d,b)) l.length (spG l t o d (-1)) (λb=>(d,b)) (λi b m=>by
  have H:=ax9 m z;have G:=ax8 m z λx=>decide (((l.getD i .bad).fld 0).asInt<=(x.fld 1).asInt);simp only[Y7,S249_2,decL i _ m,Ad,aaa,Ah m,Ae,au1,af6,mp,bb,Aa,gtZ,H,G,aal i (show i<=1000000000000 by omega),spG]) (λb=>by
  simp only[Y7,S249_2,decN,Af]) acc
 grind[aad,Y7,F249,mb,mp]
end Go.Ab
