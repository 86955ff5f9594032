/- The law EvolveCompares: the specification's comparing gives the same list. -/
import Derived.Test.YthokbeimbdnnoaaGreatDoorPRefT
set_option linter.unusedVariables false
set_option linter.unusedSimpArgs false
set_option linter.unnecessarySimpa false
namespace Go.Ab
open Go
set_option maxRecDepth 100000
def insF {κ:Type} (c:κ->κ->Int) (s:κ) (a:Bool×List κ) (x:κ):Bool×List κ:=if c x s=0 then (true,a.2++[x]) else if a.1=false/\c s x<0 then (true,(a.2++[s])++[x]) else (a.1,a.2++[x])
theorem aqp {κ:Type}{c:κ->κ->Int}{s:κ}:∀ (l:List κ) (d:Bool) (h:List κ),(bif (l.foldl (insF c s) (d,h)).1 then (l.foldl (insF c s) (d,h)).2 else (l.foldl (insF c s) (d,h)).2++[s])=h++(bif d then l else insK c s l):=by
 intro l;induction l with
 | nil=>intro d h;cases d<;>simp [insK]
 | cons x r H=>
  intro d h;rw [List.foldl_cons];by_cases o:c x s=0
  ·have e:insF c s (d,h) x=(true,h++[x]):=by unfold insF;rw [if_pos o]
   rw [e,H];cases d<;>simp [insK,o]
  ·cases d with
   | true=>
    have e:insF c s (true,h) x=(true,h++[x]):=by unfold insF;rw [if_neg o,if_neg (by simp)]
    rw [e,H];simp
   | false=>
    by_cases z:c s x<0
    ·have e:insF c s (false,h) x=(true,(h++[s])++[x]):=by unfold insF;rw [if_neg o,if_pos ⟨rfl,z⟩]
     rw [e,H];simp [insK,o,z]
    ·have e:insF c s (false,h) x=(false,h++[x]):=by unfold insF;rw [if_neg o,if_neg (by simp [z])]
     rw [e,H];simp [insK,o,z]
theorem aye {κ:Type}{c:κ->κ->Int}{s x:κ}{a:Bool×List κ}{i:Nat} (h:a.2.length<=2*i):(insF c s a x).2.length<=2*(i+1):=by
 unfold insF;split
 ·simp;omega
 ·split
  ·simp;omega
  ·simp;omega
theorem auj {κ:Type}{c:κ->κ->Int}{s:κ}:∀ (l:List κ),(insK c s l).length<=l.length+1:=by
 intro l;induction l with
 | nil=>simp [insK]
 | cons x r h=>
  unfold insK;split
  ·simp
  ·split
   ·simp
   ·simp only [Am];omega
theorem aca {κ:Type}{c:κ->κ->Int}{key:PV->κ}:∀ (l:List PV) (acc:List κ),(ab3 c key l acc).length<=acc.length+l.length:=by
 intro l;induction l with
 | nil=>intro acc;simp [ab3]
 | cons x r h=>intro acc;have:=h (insK c (key x) acc);have o:=auj (c:=c) (s:=key x) acc;simp only [ab3,List.foldl_cons,Am] at this ⊢;omega
theorem accO {y z:List PV} (h:y.length+z.length<=1000000000):decide (y.length+z.length<=aae)=true:=Ag (by unfold aae;omega)
theorem ag4 (ks:List Bq) (s:Bq) (h:ks.length<=100000000):F40 0 (ks.map PV.str) s=some ((insK cB s ks).map PV.str):=by
 have z:=adf (step:=S40_5step 0) (λi (a:Bool×List Bq)=>(ks.map PV.str,s,a.2.map PV.str,a.1,((i:Nat):Int))) ks (insF cB s) (λa=>(s,a.2.map PV.str,a.1)) (λi a=>a.2.length<=2*i) (λi a hi hI=>by
  have O:i<(ks.map PV.str).length:=by simpa using hi
  have hg:(ks.map PV.str).getD i .bad=.str ks[i]:=by rw [aaf O,List.getElem_map]
  have is:∀ n:Bq,(PV.str n).asStr=n:=λ_=>rfl;have al:(a.2.map PV.str).length<=200000000:=by rw [List.length_map];omega
  refine ⟨?_,aye hI⟩;simp only [S40_5step,S40_5,decL i _ O,Af,aab,Ag O,Aj,hg,is,aaz i (by omega),ast,accO (show (a.2.map PV.str).length+[PV.str ks[i]].length<=1000000000 by simp only [Am,Ao];omega),accO (show (a.2.map PV.str).length+[PV.str s].length<=1000000000 by simp only [Am,Ao];omega),accO (show (a.2.map PV.str++[PV.str s]).length+[PV.str ks[i]].length<=1000000000 by simp only [Ak,Am,Ao];omega)];unfold insF;by_cases H:cB ks[i] s=0
  ·rw [if_pos H,show (ks[i]==s)=true by rw [cB_zero.1 H];simp,Af];simp
  ·rw [if_neg H,show (ks[i]==s)=false by simpa using λe=>H (cB_zero.2 e),Ah];have hb:(!(Op.bytesLess ks[i] s||false))=decide (cB s ks[i]<0):=by
    rw [<-a4z,Bool.or_false];have:=Lin.cB.anti ks[i] s;by_cases h2:cB ks[i] s<0
    ·rw [Ag h2,An (by omega)];rfl
    ·rw [An h2,Ag (by omega)];rfl
   rw [hb];cases hd:a.1 with
   | true=>simp
   | false=>
    by_cases z:cB s ks[i]<0
    ·rw [if_pos ⟨rfl,z⟩,Ag z];simp
    ·rw [if_neg (by simp [z]),An z];simp) (λa hI=>by
  have hn:¬((ks.length:Int)<((ks.map PV.str).length:Int)):=by simp
  simp only [S40_5step,S40_5,An hn,Ah]) ks.length 0 (false,[]) (Nat.zero_add _) (by simp)
 obtain ⟨Z,M⟩:=z;rw [As] at Z M;have J:aag 0 (S40_5step 0) (ks.map PV.str,s,[],false,(0:Int))=_:=Z;have I:=aqp (c:=cB) (s:=s) ks false [];unfold F40;rw [J,Ae];generalize ks.foldl (insF cB s) (false,[])=r at M I;obtain ⟨d,o⟩:=r;dsimp only at M I ⊢;rw [A9,Ah] at I;rw [<-I];cases d with
 | true=>rfl
 | false=>rw [Az,Af,accO (by rw [List.length_map];simp only [Am,Ao];omega)];simp
theorem ai3 (ks:List Int) (s:Int) (h:ks.length<=100000000):F93 0 (ks.map PV.int) s=some ((insK cI s ks).map PV.int):=by
 have z:=adf (step:=S93_5step 0) (λi (a:Bool×List Int)=>(ks.map PV.int,s,a.2.map PV.int,a.1,((i:Nat):Int))) ks (insF cI s) (λa=>(s,a.2.map PV.int,a.1)) (λi a=>a.2.length<=2*i) (λi a hi hI=>by
  have Z:i<(ks.map PV.int).length:=by simpa using hi
  have hg:(ks.map PV.int).getD i .bad=.int ks[i]:=by rw [aaf Z,List.getElem_map]
  have is:∀ n:Int,(PV.int n).asInt=n:=λ_=>rfl;have al:(a.2.map PV.int).length<=200000000:=by rw [List.length_map];omega
  refine ⟨?_,aye hI⟩;simp only [S93_5step,S93_5,decL i _ Z,Af,aab,Ag Z,Aj,hg,is,aaz i (by omega),ast,accO (show (a.2.map PV.int).length+[PV.int ks[i]].length<=1000000000 by simp only [Am,Ao];omega),accO (show (a.2.map PV.int).length+[PV.int s].length<=1000000000 by simp only [Am,Ao];omega),accO (show (a.2.map PV.int++[PV.int s]).length+[PV.int ks[i]].length<=1000000000 by simp only [Ak,Am,Ao];omega)];unfold insF;by_cases H:cI ks[i] s=0
  ·rw [if_pos H,show (ks[i]==s)=true by rw [cI_zero.1 H];simp,Af];simp
  ·have aa:ks[i]≠s:=λe=>H (cI_zero.2 e);rw [if_neg H,show (ks[i]==s)=false by simpa using aa,Ah];have hb:decide (ks[i]>s)=decide (cI s ks[i]<0):=by
    unfold cI;by_cases I:s<ks[i]
    ·rw [if_pos I,Ag I];rfl
    ·rw [if_neg I,if_pos (by omega),An I];rfl
   rw [hb];cases hd:a.1 with
   | true=>simp
   | false=>
    by_cases z:cI s ks[i]<0
    ·rw [if_pos ⟨rfl,z⟩,Ag z];simp
    ·rw [if_neg (by simp [z]),An z];simp) (λa hI=>by
  have hn:¬((ks.length:Int)<((ks.map PV.int).length:Int)):=by simp
  simp only [S93_5step,S93_5,An hn,Ah]) ks.length 0 (false,[]) (Nat.zero_add _) (by simp)
 obtain ⟨e1,O⟩:=z;rw [As] at e1 O;have M:aag 0 (S93_5step 0) (ks.map PV.int,s,[],false,(0:Int))=_:=e1;have J:=aqp (c:=cI) (s:=s) ks false [];unfold F93;rw [M,Ae];generalize ks.foldl (insF cI s) (false,[])=r at O J;obtain ⟨d,o⟩:=r;dsimp only at O J ⊢;rw [A9,Ah] at J;rw [<-J];cases d with
 | true=>rfl
 | false=>rw [Az,Af,accO (by rw [List.length_map];simp only [Am,Ao];omega)];simp
theorem refM (s:PV) (n:Bq) (h:(s.fld 0).asList.length<=1048576):F41 0 s n=some (dmem aac n (s.fld 0).asList zMsg):=by
 generalize H:(s.fld 0).asList=l at h;have z:=acd (step:=S41_3step 0) (λi=>(n,(),(),((i:Nat):Int),s,zMsg)) l (λx=>aac x==n) (λx=>.inl ((),true,s,x)) (.inr ((),s,zMsg)) (λi o=>by
  simp only [S41_3step,S41_3,H,decL i _ o,Af,aab,Ag o,Aj,aaf o,aaz i (by omega),aac];cases ((l[i]).fld 0).asStr==n<;>rfl) (by
  simp only [S41_3step,S41_3,H,decN,Ah]) l.length 0 (by omega)
 rw [As] at z;have I:aag 0 (S41_3step 0) (n,(),(),(0:Int),s,zMsg)=_:=z;unfold F41;change (Option.bind (aag 0 (S41_3step 0) (n,(),(),(0:Int),s,zMsg)) _)=_;rw [I];unfold dmem fst;cases l.find? (λx=>aac x==n)<;>rfl
theorem refE (s:PV) (n:Bq) (h:(s.fld 1).asList.length<=1048576):F43 0 s n=some (dmem aac n (s.fld 1).asList akr):=by
 generalize H:(s.fld 1).asList=l at h;have z:=acd (step:=S43_3step 0) (λi=>(n,(),(),((i:Nat):Int),s,akr)) l (λx=>aac x==n) (λx=>.inl ((),true,s,x)) (.inr ((),s,akr)) (λi o=>by
  simp only [S43_3step,S43_3,H,decL i _ o,Af,aab,Ag o,Aj,aaf o,aaz i (by omega),aac];cases ((l[i]).fld 0).asStr==n<;>rfl) (by
  simp only [S43_3step,S43_3,H,decN,Ah]) l.length 0 (by omega)
 rw [As] at z;have I:aag 0 (S43_3step 0) (n,(),(),(0:Int),s,akr)=_:=z;unfold F43;change (Option.bind (aag 0 (S43_3step 0) (n,(),(),(0:Int),s,akr)) _)=_;rw [I];unfold dmem fst;cases l.find? (λx=>aac x==n)<;>rfl
theorem refS (s:PV) (n:Bq) (h:(s.fld 2).asList.length<=1048576):F45 0 s n=some (dmem aac n (s.fld 2).asList zSvc):=by
 generalize H:(s.fld 2).asList=l at h;have z:=acd (step:=S45_3step 0) (λi=>(n,(),(),((i:Nat):Int),s,zSvc)) l (λx=>aac x==n) (λx=>.inl ((),true,s,x)) (.inr ((),s,zSvc)) (λi o=>by
  simp only [S45_3step,S45_3,H,decL i _ o,Af,aab,Ag o,Aj,aaf o,aaz i (by omega),aac];cases ((l[i]).fld 0).asStr==n<;>rfl) (by
  simp only [S45_3step,S45_3,H,decN,Ah]) l.length 0 (by omega)
 rw [As] at z;have I:aag 0 (S45_3step 0) (n,(),(),(0:Int),s,zSvc)=_:=z;unfold F45;change (Option.bind (aag 0 (S45_3step 0) (n,(),(),(0:Int),s,zSvc)) _)=_;rw [I];unfold dmem fst;cases l.find? (λx=>aac x==n)<;>rfl
theorem refF (s:PV) (n:Int) (h:(s.fld 1).asList.length<=1048576):F94 0 s n=some (dmem kNum n (s.fld 1).asList zFld):=by
 generalize H:(s.fld 1).asList=l at h;have z:=acd (step:=S94_3step 0) (λi=>(n,(),(),((i:Nat):Int),s,zFld)) l (λx=>kNum x==n) (λx=>.inl ((),true,s,x)) (.inr ((),s,zFld)) (λi o=>by
  simp only [S94_3step,S94_3,H,decL i _ o,Af,aab,Ag o,Aj,aaf o,aaz i (by omega),kNum];cases ((l[i]).fld 0).asInt==n<;>rfl) (by
  simp only [S94_3step,S94_3,H,decN,Ah]) l.length 0 (by omega)
 rw [As] at z;have I:aag 0 (S94_3step 0) (n,(),(),(0:Int),s,zFld)=_:=z;unfold F94;change (Option.bind (aag 0 (S94_3step 0) (n,(),(),(0:Int),s,zFld)) _)=_;rw [I];unfold dmem fst;cases l.find? (λx=>kNum x==n)<;>rfl
theorem refI (s:PV) (n:Int) (h:(s.fld 2).asList.length<=1048576):F97 0 s n=some (dmem abg n (s.fld 2).asList ana):=by
 generalize H:(s.fld 2).asList=l at h;have z:=acd (step:=S97_3step 0) (λi=>(n,(),(),((i:Nat):Int),s,ana)) l (λx=>abg x==n) (λx=>.inl ((),true,s,x)) (.inr ((),s,ana)) (λi o=>by
  simp only [S97_3step,S97_3,H,decL i _ o,Af,aab,Ag o,Aj,aaf o,aaz i (by omega),abg];cases ((l[i]).fld 1).asInt==n<;>rfl) (by
  simp only [S97_3step,S97_3,H,decN,Ah]) l.length 0 (by omega)
 rw [As] at z;have I:aag 0 (S97_3step 0) (n,(),(),(0:Int),s,ana)=_:=z;unfold F97;change (Option.bind (aag 0 (S97_3step 0) (n,(),(),(0:Int),s,ana)) _)=_;rw [I];unfold dmem fst;cases l.find? (λx=>abg x==n)<;>rfl
theorem refT (s:PV) (n:Bq) (h:(s.fld 1).asList.length<=1048576):F98 0 s n=some (dmem aac n (s.fld 1).asList anb):=by
 generalize I:(s.fld 1).asList=l at h;have z:=acd (step:=S98_3step 0) (λi=>(n,(),l,(l.length:Int),((i:Nat):Int),s,anb)) l (λx=>aac x==n) (λx=>.inl ((),true,s,x)) (.inr ((),s,anb)) (λi o=>by
  simp only [S98_3step,S98_3,decL i _ o,Af,aab,Ag o,Aj,aaf o,aaz i (by omega),aac];cases ((l[i]).fld 0).asStr==n<;>rfl) (by
  simp only [S98_3step,S98_3,decN,Ah]) l.length 0 (by omega)
 rw [As] at z;have H:aag 0 (S98_3step 0) (n,(),l,(l.length:Int),(0:Int),s,anb)=_:=z;unfold F98;dsimp only;rw [I];change (Option.bind (aag 0 (S98_3step 0) (n,(),l,(l.length:Int),(0:Int),s,anb)) _)=_;rw [H];unfold dmem fst;cases l.find? (λx=>aac x==n)<;>rfl
theorem anx {c:Int} (h:1<=c) (o:c<=5):F160 0 c=some (agr c):=by
 have:c=1\/c=2\/c=3\/c=4\/c=5:=by omega
 rcases this with rfl | rfl | rfl | rfl | rfl<;>rfl
theorem aml {c:Int} (h:1<=c) (o:c<=4):F99 0 c=some (agc c):=by
 have:c=1\/c=2\/c=3\/c=4:=by omega
 rcases this with rfl | rfl | rfl | rfl<;>rfl
theorem azm (k:Int):F220 0 k=some (kw k):=by
 unfold kw;by_cases h:k<1\/8<k
 ·rw [anr h];unfold F220;rw [show (k==(1:Int))=false by simpa using (by omega:¬k=1),show (k==(2:Int))=false by simpa using (by omega:¬k=2),show (k==(3:Int))=false by simpa using (by omega:¬k=3),show (k==(4:Int))=false by simpa using (by omega:¬k=4),
   show (k==(5:Int))=false by simpa using (by omega:¬k=5),show (k==(6:Int))=false by simpa using (by omega:¬k=6),show (k==(7:Int))=false by simpa using (by omega:¬k=7),show (k==(8:Int))=false by simpa using (by omega:¬k=8)]
  rfl
 ·rcases a5t (k:=k) (by omega) (by omega) with rfl | rfl | rfl | rfl | rfl | rfl | rfl | rfl<;>kernel_rfl
theorem azk (k:Int):F161 0 k=some (kw k):=by
 unfold F161;rw [azm];cases h:k==(0:Int) with
 | true=>
  have:k=0:=by simpa using h
  subst this;unfold kw;rw [anr (by omega)];rfl
 | false=>rfl
theorem an0 (f:PV) (h:acv (f.fld 7)):F162 0 f=some (litF f):=by unfold F162 litF;rw [azl _ h];cases (f.fld 6).asBool<;>rfl
theorem a5a {f:PV} (h:F144 0 f=some true):1<=(f.fld 2).asInt/\(f.fld 2).asInt<=5:=by
 unfold F144 at h;by_cases H:(f.fld 2).asInt=5
 ·omega
 ·rw [show ((f.fld 2).asInt != (5:Int))=true by simpa using H,Af] at h;have h:=Option.some.inj h;by_cases o:(f.fld 2).asInt>=1
  ·by_cases z:(f.fld 2).asInt<=4
   ·omega
   ·rw [Ag o,An z] at h;cases h
  ·rw [An o] at h;cases h
theorem a4x (d:Bq) {a b:PV} (o:OkFld a) (z:OkFld b) (H:1<=(a.fld 2).asInt/\(a.fld 2).asInt<=5) (I:1<=(b.fld 2).asInt/\(b.fld 2).asInt<=5):F95 0 d a b=some (acq d a b):=by
 have J:(!(bif ((a.fld 4).fld 0).asInt==((b.fld 4).fld 0).asInt then (bif ((a.fld 4).fld 1).asStr==((b.fld 4).fld 1).asStr then true else false) else false))=ne6 a b:=by unfold ne6 bne;cases ((a.fld 4).fld 0).asInt==((b.fld 4).fld 0).asInt<;>cases ((a.fld 4).fld 1).asStr==((b.fld 4).fld 1).asStr<;>rfl
 unfold F95 acq;dsimp only;simp only [an1 _ o.type,an1 _ z.type,anx H.1 H.2,anx I.1 I.2,azk,an0 _ o.dflt,an0 _ z.dflt,Ae,J];change (bif ne5 a b then _ else _)=_;have M:((a.fld 2).asInt != (b.fld 2).asInt)=ne7 a b:=rfl;have O:((a.fld 3).asInt != (b.fld 3).asInt)=ne8 a b:=rfl;have Z:(!((a.fld 5).asStr==(b.fld 5).asStr))=ne9 a b:=rfl;have h:(bif (bif (bif (!((a.fld 6).asBool==(b.fld 6).asBool)) then true else (((a.fld 7).fld 0).asInt != ((b.fld 7).fld 0).asInt)) then true else (((a.fld 7).fld 1).asInt != ((b.fld 7).fld 1).asInt)) then true else (!(((a.fld 7).fld 2).asStr==((b.fld 7).fld 2).asStr)))=ne10 a b:=rfl;rw [M,O,Z,h];generalize agl (a.fld 4)=t1;generalize agl (b.fld 4)=t2;generalize agr (a.fld 2).asInt=c1;generalize agr (b.fld 2).asInt=c2;generalize kw (a.fld 3).asInt=k1;generalize kw (b.fld 3).asInt=k2;generalize litF a=l1;generalize litF b=l2;generalize (a.fld 0).asInt=n;generalize (a.fld 1).asStr=s1;generalize (b.fld 1).asStr=s2;generalize (a.fld 5).asStr=u1;generalize (b.fld 5).asStr=u2;cases ne5 a b<;>cases ne6 a b<;>cases ne7 a b<;>cases ne8 a b<;>cases ne9 a b<;>cases ne10 a b<;>rfl
theorem acb {I J κ:Type}{step:I->Option (I⊕J)} (c:κ->κ->Int) (key:PV->κ) (st:Nat->List κ->I) (A:List PV) (o:List κ->J)
 (H:∀ i acc (h:i<A.length),acc.length<=10000000->step (st i acc)=some (.inl (st (i+1) (insK c (key A[i]) acc)))) (z:∀ acc,step (st A.length acc)=some (.inr (o acc))) (acc:List κ) (Z:acc.length+A.length<=10000000):
 aba step (st 0 acc)=some (o (ab3 c key A acc)):=by
 have h:=(adf (step:=step) st A (λa x=>insK c (key x) a) o (λi a=>a.length<=acc.length+i) (λi a M O=>⟨H i a M (by omega),by have:=auj (c:=c) (s:=key A[i]) a;omega⟩) (λa _=>z a) A.length 0 acc (Nat.zero_add _) (by omega)).1
 rw [As] at h
 exact h
section
variable {κ:Type} [BEq κ] [LawfulBEq κ] {key:PV->κ}{c:κ->κ->Int}
theorem adr {k:κ}{l:List PV} (h:k∈l.map key):∃ x,fst key k l=some x:=by
 cases o:fst key k l with
 | some x=>exact ⟨x,rfl⟩
 | none=>obtain ⟨x,z,e⟩:=List.mem_map.1 h;exact absurd e (a1g o x z)
theorem ar7 {κ:Type} [BEq κ] {key:PV->κ}{both:PV->PV->List PV}{gone new:PV->PV}{A B:List PV}{n:Nat} (o:1<=n) (h:∀ x y,(both x y).length<=n) (k:κ):(blk key both gone new A B k).length<=n:=by
 unfold blk;cases fst key k A with
 | some x=>
  cases fst key k B with
  | some y=>exact h x y
  | none=>exact o
 | none=>
  cases fst key k B with
  | some y=>exact o
  | none=>exact Nat.zero_le _
theorem alr {o:Type}{g:o->List PV}{n:Nat} (h:∀ x,(g x).length<=n):∀ l:List o,(l.flatMap g).length<=n*l.length:=by
 intro l;induction l with
 | nil=>simp
 | cons x r z=>have:=h x;rw [List.flatMap_cons,Ak,Am,Nat.mul_add];omega
theorem afd {κ:Type}{key:PV->κ}{c:κ->κ->Int}{A B:List PV} (o:Key c) {k:κ} (h:k∈ab3 c key B (ab3 c key A [])):k∈A.map key\/k∈B.map key:=by
 rcases (agz o).1 h with h | h
 ·exact Or.inr h
 ·rcases (agz o).1 h with h | h
  ·exact Or.inl h
  ·cases h
end
theorem addB {y:List PV}{z:PV} (h:y.length<=100000000):decide (y.length+[z].length<=aae)=true:=accO (by simp only [Am,Ao];omega)
theorem awb {a b:PV} (ha:OkMsg a) (hb:OkMsg b) (va:∀ x,x∈(a.fld 1).asList->1<=(x.fld 2).asInt/\(x.fld 2).asInt<=5) (vb:∀ x,x∈(b.fld 1).asList->1<=(x.fld 2).asInt/\(x.fld 2).asInt<=5):F42 0 a b=some (aey a b):=by
 have la:=ha.fields;have lb:=hb.fields;have hR:aey a b=mrgF cI kNum (acq (aac a)) (λf=>chg 3 (aac a) (f.fld 0).asInt (f.fld 1).asStr []) (λf=>chg 4 (aac a) (f.fld 0).asInt [] (f.fld 1).asStr) (a.fld 1).asList (b.fld 1).asList:=rfl;rw [hR];generalize hA:(a.fld 1).asList=A at la va ⊢;generalize hB:(b.fld 1).asList=B at lb vb ⊢;have e1:=acb (step:=S42_4step 0) cI kNum (λi acc=>((),(),acc.map PV.int,A,(A.length:Int),((i:Nat):Int),a,b)) A (λacc=>((),(),acc.map PV.int,a,b)) (λi acc h J=>by
  simp only [S42_4step,S42_4,decL i _ h,Af,aab,Ag h,Aj,aaf h,ai3 acc _ (by omega),Ae,aaz i (by omega),kNum]) (λacc=>by
  simp only [S42_4step,S42_4,decN,Ah]) [] (by simp only [Ao];omega)
 have l1:=aca (c:=cI) (key:=kNum) A [];rw [Ao] at l1;generalize hK:ab3 cI kNum A []=K at e1 l1;have e2:=acb (step:=S42_9step 0) cI kNum (λi acc=>((),(),acc.map PV.int,B,(B.length:Int),((i:Nat):Int),a,b)) B (λacc=>((),(),acc.map PV.int,a,b)) (λi acc h J=>by
  simp only [S42_9step,S42_9,decL i _ h,Af,aab,Ag h,Aj,aaf h,ai3 acc _ (by omega),Ae,aaz i (by omega),kNum]) (λacc=>by
  simp only [S42_9step,S42_9,decN,Ah]) K (by omega)
 have l2:=aca (c:=cI) (key:=kNum) B K;have hm:∀ k,k∈ab3 cI kNum B K->k∈A.map kNum\/k∈B.map kNum:=λk z=>afd Key.cI (by rw [hK];exact z);unfold mrgF;rw [hK];generalize ab3 cI kNum B K=ks at e2 l2 hm;have fl:=alr (g:=blk kNum (acq (aac a)) (λf=>chg 3 (aac a) (f.fld 0).asInt (f.fld 1).asStr []) (λf=>chg 4 (aac a) (f.fld 0).asInt [] (f.fld 1).asStr) A B) (n:=6) (λk=>ar7 (by omega) (λx y=>anp _ x y) k) ks;have e3:=aa8 (step:=S42_15step 0) (λi c=>((),(),c,ks.map PV.int,((ks.map PV.int).length:Int),((i:Nat):Int),a,b)) ks (blk kNum (acq (aac a)) (λf=>chg 3 (aac a) (f.fld 0).asInt (f.fld 1).asStr []) (λf=>chg 4 (aac a) (f.fld 0).asInt [] (f.fld 1).asStr) A B) (λc=>(c,a,b)) 90000000 (λi c h I=>by
  have J:i<(ks.map PV.int).length:=by simpa using h
  have hg:(ks.map PV.int).getD i .bad=.int ks[i]:=by rw [aaf J,List.getElem_map]
  have is:∀ n:Int,(PV.int n).asInt=n:=λ_=>rfl;have z:=hm _ (List.getElem_mem h);simp only [S42_15step,S42_15,decL i _ J,Af,aab,Ag J,Aj,hg,is,refF a _ ha.fields,refF b _ hb.fields,Ae,aaz i (by omega),hA,hB];generalize ks[i]=k at z I ⊢;unfold dmem blk at*;cases H:fst kNum k A with
  | some x=>
   have kx:(x.fld 0).asInt=k:=(fst_key H:kNum x=k);cases o:fst kNum k B with
   | some y=>dsimp only;rw [H,o] at I;dsimp only at I;rw [A3,Ah,a4x _ (ha.field x (by rw [hA];exact aa2 H)) (hb.field y (by rw [hB];exact aa2 o)) (va x (aa2 H)) (vb y (aa2 o)),Ae];change (bif decide (c.length+(acq (aac a) x y).length<=aae) then _ else _)=_;rw [accO (by omega),Af];rfl
   | none=>dsimp only;rw [H,o] at I;rw [Az,Af,addB (by omega),Af,kx];rfl
  | none=>
   cases o:fst kNum k B with
   | some y=>have ky:(y.fld 0).asInt=k:=(fst_key o:kNum y=k);dsimp only;rw [H,o] at I;rw [A3,Ah,Az,Af,addB (by omega),Af,ky];rfl
   | none=>
    exfalso;rcases z with z | z
    ·obtain ⟨x,M⟩:=adr z;rw [H] at M;cases M
    ·obtain ⟨x,M⟩:=adr z;rw [o] at M;cases M) (λc=>by
  have hn:¬((ks.length:Int)<((ks.map PV.int).length:Int)):=by simp
  simp only [S42_15step,S42_15,An hn,Ah]) ks.length 0 [] (Nat.zero_add _) (by rw [As,Ao];omega)
 rw [As,A9] at e3;have O:aag 0 (S42_4step 0) ((),(),[],A,(A.length:Int),(0:Int),a,b)=_:=e1;have Z:aag 0 (S42_9step 0) ((),(),K.map PV.int,B,(B.length:Int),(0:Int),a,b)=_:=e2;have aa:aag 0 (S42_15step 0) ((),(),[],ks.map PV.int,((ks.map PV.int).length:Int),(0:Int),a,b)=_:=e3;unfold F42;dsimp only;rw [hA,O,Ae];dsimp only;rw [hB,Z,Ae];dsimp only;rw [aa,Ae]
theorem a5j {a b:PV} (ha:OkEnum a) (hb:OkEnum b):F44 0 a b=some (alp a b):=by
 have la:=ha.items;have lb:=hb.items;have hR:alp a b=ajw a b++mrgF cI abg (ahw (aac a)) (λf=>chg 14 (aac a) (f.fld 1).asInt (f.fld 0).asStr []) (λf=>chg 15 (aac a) (f.fld 1).asInt [] (f.fld 0).asStr) (a.fld 2).asList (b.fld 2).asList:=rfl;rw [hR];generalize hA:(a.fld 2).asList=A at la ⊢;generalize hB:(b.fld 2).asList=B at lb ⊢;have e1:=acb (step:=S44_4step 0) cI abg (λi acc=>((),(),acc.map PV.int,A,(A.length:Int),((i:Nat):Int),a,b)) A (λacc=>((),(),acc.map PV.int,a,b)) (λi acc o M=>by
  simp only [S44_4step,S44_4,decL i _ o,Af,aab,Ag o,Aj,aaf o,ai3 acc _ (by omega),Ae,aaz i (by omega),abg]) (λacc=>by
  simp only [S44_4step,S44_4,decN,Ah]) [] (by simp only [Ao];omega)
 have l1:=aca (c:=cI) (key:=abg) A [];rw [Ao] at l1;generalize hK:ab3 cI abg A []=K at e1 l1;have e2:=acb (step:=S44_9step 0) cI abg (λi acc=>((),(),acc.map PV.int,B,(B.length:Int),((i:Nat):Int),a,b)) B (λacc=>((),(),acc.map PV.int,a,b)) (λi acc o M=>by
  simp only [S44_9step,S44_9,decL i _ o,Af,aab,Ag o,Aj,aaf o,ai3 acc _ (by omega),Ae,aaz i (by omega),abg]) (λacc=>by
  simp only [S44_9step,S44_9,decN,Ah]) K (by omega)
 have l2:=aca (c:=cI) (key:=abg) B K;have hm:∀ k,k∈ab3 cI abg B K->k∈A.map abg\/k∈B.map abg:=λk H=>afd Key.cI (by rw [hK];exact H);unfold mrgF;rw [hK];generalize ab3 cI abg B K=ks at e2 l2 hm;have fl:=alr (g:=blk abg (ahw (aac a)) (λf=>chg 14 (aac a) (f.fld 1).asInt (f.fld 0).asStr []) (λf=>chg 15 (aac a) (f.fld 1).asInt [] (f.fld 0).asStr) A B) (n:=1) (λk=>ar7 (by omega) (λx y=>ab1 _ _) k) ks;have e3:=λ(z:List PV) (ab:z.length<=1)=>aa8 (step:=S44_17step 0) (λi c=>((),(),c,ks.map PV.int,((ks.map PV.int).length:Int),((i:Nat):Int),a,b)) ks (blk abg (ahw (aac a)) (λf=>chg 14 (aac a) (f.fld 1).asInt (f.fld 0).asStr []) (λf=>chg 15 (aac a) (f.fld 1).asInt [] (f.fld 0).asStr) A B) (λc=>(c,a,b)) 90000000 (λi c o hc=>by
  have M:i<(ks.map PV.int).length:=by simpa using o
  have hg:(ks.map PV.int).getD i .bad=.int ks[i]:=by rw [aaf M,List.getElem_map]
  have is:∀ n:Int,(PV.int n).asInt=n:=λ_=>rfl;have H:=hm _ (List.getElem_mem o);simp only [S44_17step,S44_17,decL i _ M,Af,aab,Ag M,Aj,hg,is,refI a _ ha.items,refI b _ hb.items,Ae,aaz i (by omega),hA,hB];generalize ks[i]=k at H hc ⊢;have I:c.length<=100000000:=by omega
  unfold dmem blk at*;cases h1:fst abg k A with
  | some x=>
   have kx:(x.fld 1).asInt=k:=(fst_key h1:abg x=k);cases h2:fst abg k B with
   | some y=>
    dsimp only;rw [A3,Ah,Ah,addB I];unfold ahw dif;cases !((x.fld 0).asStr==(y.fld 0).asStr) with
    | true=>rw [Af,Af,kx];rfl
    | false=>rw [Ah,Ah,List.append_nil]
   | none=>dsimp only;rw [Az,Af,addB I,Af,kx];rfl
  | none=>
   cases h2:fst abg k B with
   | some y=>have ky:(y.fld 1).asInt=k:=(fst_key h2:abg y=k);dsimp only;rw [A3,Ah,Az,Af,addB I,Af,ky];rfl
   | none=>
    exfalso;rcases H with H | H
    ·obtain ⟨x,O⟩:=adr H;rw [h1] at O;cases O
    ·obtain ⟨x,O⟩:=adr H;rw [h2] at O;cases O) (λc=>by
  have hn:¬((ks.length:Int)<((ks.map PV.int).length:Int)):=by simp
  simp only [S44_17step,S44_17,An hn,Ah]) ks.length 0 z (Nat.zero_add _) (by rw [As];omega)
 have Z:aag 0 (S44_4step 0) ((),(),[],A,(A.length:Int),(0:Int),a,b)=_:=e1;have aa:aag 0 (S44_9step 0) ((),(),K.map PV.int,B,(B.length:Int),(0:Int),a,b)=_:=e2;have J:∀ (z:List PV),z.length<=1->aag 0 (S44_17step 0) ((),(),z,ks.map PV.int,((ks.map PV.int).length:Int),(0:Int),a,b)=some (z++ks.flatMap (blk abg (ahw (aac a)) (λf=>chg 14 (aac a) (f.fld 1).asInt (f.fld 0).asStr []) (λf=>chg 15 (aac a) (f.fld 1).asInt [] (f.fld 0).asStr) A B),a,b):=λz h=>by have:=e3 z h;rw [As] at this;exact this
 have o1:∀ x:PV,F96 0 x=some (ajx (x.fld 1).asBool):=λx=>by unfold F96 ajx;cases (x.fld 1).asBool<;>rfl
 unfold F44;dsimp only;rw [hA,Z,Ae];dsimp only;rw [hB,aa,Ae];dsimp only;unfold ajw dif;cases ho:!((a.fld 1).asBool==(b.fld 1).asBool) with
 | true=>rw [Af,Af,o1,Ae,o1,Ae,J _ (by simp),Ae];rfl
 | false=>rw [Ah,Ah,J _ (by simp),Ae]
theorem aza (d:Bq) (x y:PV):(afz d x y).length<=2:=by have:=ab1 (ne21 x y) (chg 21 d (-1) (act x) (act y));have:=ab1 (ne22 x y) (chg 22 d (-1) (shT x x) (shT x y));unfold afz;rw [Ak];omega
theorem strO {x y:Bq} (h:x.length+y.length<=1000000000):decide (x.length+y.length<=aan)=true:=Ag (by unfold aan;omega)
theorem awp {a b:PV} (ha:OkSvc a) (hb:OkSvc b) (va:∀ x,x∈(a.fld 1).asList->1<=(x.fld 3).asInt/\(x.fld 3).asInt<=4) (vb:∀ x,x∈(b.fld 1).asList->1<=(x.fld 3).asInt/\(x.fld 3).asInt<=4):F46 0 a b=some (svcR a b):=by
 have la:=ha.meths;have lb:=hb.meths;have hR:svcR a b=mrgF cB aac (afz (aac a)) (λf=>chg 19 (aac a) (-1) (f.fld 0).asStr []) (λf=>chg 20 (aac a) (-1) [] (f.fld 0).asStr) (a.fld 1).asList (b.fld 1).asList:=rfl;rw [hR];generalize hA:(a.fld 1).asList=A at la va ⊢;generalize hB:(b.fld 1).asList=B at lb vb ⊢;have e1:=acb (step:=S46_4step 0) cB aac (λi acc=>((),(),acc.map PV.str,A,(A.length:Int),((i:Nat):Int),a,b)) A (λacc=>((),(),acc.map PV.str,a,b)) (λi acc h I=>by
  simp only [S46_4step,S46_4,decL i _ h,Af,aab,Ag h,Aj,aaf h,ag4 acc _ (by omega),Ae,aaz i (by omega),aac]) (λacc=>by
  simp only [S46_4step,S46_4,decN,Ah]) [] (by simp only [Ao];omega)
 have l1:=aca (c:=cB) (key:=aac) A [];rw [Ao] at l1;generalize hK:ab3 cB aac A []=K at e1 l1;have e2:=acb (step:=S46_9step 0) cB aac (λi acc=>((),(),acc.map PV.str,B,(B.length:Int),((i:Nat):Int),a,b)) B (λacc=>((),(),acc.map PV.str,a,b)) (λi acc h I=>by
  simp only [S46_9step,S46_9,decL i _ h,Af,aab,Ag h,Aj,aaf h,ag4 acc _ (by omega),Ae,aaz i (by omega),aac]) (λacc=>by
  simp only [S46_9step,S46_9,decN,Ah]) K (by omega)
 have l2:=aca (c:=cB) (key:=aac) B K;have hm:∀ k,k∈ab3 cB aac B K->k∈A.map aac\/k∈B.map aac:=λk o=>afd Key.cB (by rw [hK];exact o);unfold mrgF;rw [hK];generalize ab3 cB aac B K=ks at e2 l2 hm;have fl:=alr (g:=blk aac (afz (aac a)) (λf=>chg 19 (aac a) (-1) (f.fld 0).asStr []) (λf=>chg 20 (aac a) (-1) [] (f.fld 0).asStr) A B) (n:=2) (λk=>ar7 (by omega) (λx y=>aza _ x y) k) ks;have e3:=aa8 (step:=S46_15step 0) (λi c=>((),(),c,ks.map PV.str,((ks.map PV.str).length:Int),((i:Nat):Int),a,b)) ks (blk aac (afz (aac a)) (λf=>chg 19 (aac a) (-1) (f.fld 0).asStr []) (λf=>chg 20 (aac a) (-1) [] (f.fld 0).asStr) A B) (λc=>(c,a,b)) 90000000 (λi c h hc=>by
  have I:i<(ks.map PV.str).length:=by simpa using h
  have hg:(ks.map PV.str).getD i .bad=.str ks[i]:=by rw [aaf I,List.getElem_map]
  have is:∀ n:Bq,(PV.str n).asStr=n:=λ_=>rfl;have o:=hm _ (List.getElem_mem h);simp only [S46_15step,S46_15,decL i _ I,Af,aab,Ag I,Aj,hg,is,refT a _ ha.meths,refT b _ hb.meths,Ae,aaz i (by omega),hA,hB];generalize ks[i]=k at o hc ⊢;have af:c.length<=90000000:=by omega
  unfold dmem blk at*;cases O:fst aac k A with
  | some x=>
   have M:(x.fld 0).asStr=k:=(fst_key O:aac x=k);have ox:=ha.meth x (by rw [hA];exact aa2 O);cases H:fst aac k B with
   | some y=>
    have ky:(y.fld 0).asStr=k:=(fst_key H:aac y=k);have oy:=hb.meth y (by rw [hB];exact aa2 H);have sx:=va x (aa2 O);have sy:=vb y (aa2 H);have k1:k.length<=1048576:=by rw [<-M];exact ox.name
    have x1:=ox.inn;have x2:=ox.out;have y1:=oy.inn;have y2:=oy.out;have w1:=aeb (x.fld 3).asInt;have w2:=aeb (y.fld 3).asInt;dsimp only;rw [A3,Ah,aml sx.1 sx.2,aml sy.1 sy.2];simp only [Ae];unfold afz;change (bif ne21 x y then _ else bif ne22 x y then _ else _)=_;rw [strO (show k.length+([58,32]:Bq).length<=1000000000 by simp only [Am,Ao];omega)];rw [strO (show (k++([58,32]:Bq)).length+(x.fld 1).asStr.length<=1000000000 by simp only [Ak,Am,Ao];omega)];rw [strO (show (k++([58,32]:Bq)).length+(y.fld 1).asStr.length<=1000000000 by simp only [Ak,Am,Ao];omega)];rw [strO (show ((k++([58,32]:Bq))++(x.fld 1).asStr).length+([32,45,62,32]:Bq).length<=1000000000 by simp only [Ak,Am,Ao];omega)];rw [strO (show ((k++([58,32]:Bq))++(y.fld 1).asStr).length+([32,45,62,32]:Bq).length<=1000000000 by simp only [Ak,Am,Ao];omega)];rw [strO (show (((k++([58,32]:Bq))++(x.fld 1).asStr)++([32,45,62,32]:Bq)).length+(x.fld 2).asStr.length<=1000000000 by simp only [Ak,Am,Ao];omega)];rw [strO (show (((k++([58,32]:Bq))++(y.fld 1).asStr)++([32,45,62,32]:Bq)).length+(y.fld 2).asStr.length<=1000000000 by simp only [Ak,Am,Ao];omega)];rw [strO (show (k++([58,32]:Bq)).length+(agc (x.fld 3).asInt).length<=1000000000 by simp only [Ak,Am,Ao];omega)];rw [strO (show (k++([58,32]:Bq)).length+(agc (y.fld 3).asInt).length<=1000000000 by simp only [Ak,Am,Ao];omega)];have ed:((x.fld 3).asInt != (y.fld 3).asInt)=ne22 x y:=rfl;have es:act x=((k++[58,32])++(x.fld 1).asStr++[32,45,62,32])++(x.fld 2).asStr:=by unfold act;rw [M]
    have et:act y=((k++[58,32])++(y.fld 1).asStr++[32,45,62,32])++(y.fld 2).asStr:=by unfold act;rw [ky]
    have eu:shT x x=(k++[58,32])++agc (x.fld 3).asInt:=by unfold shT;rw [M]
    have ev:shT x y=(k++[58,32])++agc (y.fld 3).asInt:=by unfold shT;rw [M]
    rw [es,et,eu,ev,ed];simp only [Af];have ad:∀ z:PV,decide (c.length+[z].length<=aae)=true:=λz=>addB (by omega);have Z:∀ z z':PV,decide ((c++[z]).length+[z'].length<=aae)=true:=λz z'=>addB (by rw [Ak];simp only [Am,Ao];omega);rw [ad,ad,Z];unfold dif;cases ne21 x y<;>cases ne22 x y<;>simp only [Af,Ah,List.append_nil,A9,Ap]<;>rfl
   | none=>dsimp only;rw [Az,Af,addB (by omega),Af,M];rfl
  | none=>
   cases H:fst aac k B with
   | some y=>have ky:(y.fld 0).asStr=k:=(fst_key H:aac y=k);dsimp only;rw [A3,Ah,Az,Af,addB (by omega),Af,ky];rfl
   | none=>
    exfalso;rcases o with o | o
    ·obtain ⟨x,J⟩:=adr o;rw [O] at J;cases J
    ·obtain ⟨x,J⟩:=adr o;rw [H] at J;cases J) (λc=>by
  have hn:¬((ks.length:Int)<((ks.map PV.str).length:Int)):=by simp
  simp only [S46_15step,S46_15,An hn,Ah]) ks.length 0 [] (Nat.zero_add _) (by rw [As,Ao];omega)
 rw [As,A9] at e3;have aa:aag 0 (S46_4step 0) ((),(),[],A,(A.length:Int),(0:Int),a,b)=_:=e1;have ab:aag 0 (S46_9step 0) ((),(),K.map PV.str,B,(B.length:Int),(0:Int),a,b)=_:=e2;have ae:aag 0 (S46_15step 0) ((),(),[],ks.map PV.str,((ks.map PV.str).length:Int),(0:Int),a,b)=_:=e3;unfold F46;dsimp only;rw [hA,aa,Ae];dsimp only;rw [hB,ab,Ae];dsimp only;rw [ae,Ae]
theorem a03 {a b:PV} (ha:SOk a) (hb:SOk b) (ua:SUp a) (ub:SUp b) (va:SchemaV a) (vb:SchemaV b) (ba:aau a<=1048576) (bb:aau b<=1048576):F15 0 a b=some (refC a b):=by
 have M:(refC a b).length<=90000000:=by rw [(ami ua.uq ub.uq).length_eq];exact as8 ua.uq ub.uq ba bb
 have ab:∀ {l:List PV}{x:PV},x∈l->∃ i,i<l.length/\l.getD i .bad=x:=λ{l x} H=>by obtain ⟨i,h,rfl⟩:=List.mem_iff_getElem.1 H;exact ⟨i,h,aaf h⟩
 have aa:∀ {s:PV},SchemaV s->∀ m,m∈(s.fld 0).asList->∀ x,x∈(m.fld 1).asList->1<=(x.fld 2).asInt/\(x.fld 2).asInt<=5:=λ{s} v m hm x H=>by obtain ⟨i,h,rfl⟩:=ab hm;obtain ⟨j,hj,rfl⟩:=ab H;exact a5a (v.msg i h j hj).card
 have ad:∀ {s:PV},SchemaV s->∀ m,m∈(s.fld 2).asList->∀ x,x∈(m.fld 1).asList->1<=(x.fld 3).asInt/\(x.fld 3).asInt<=4:=λ{s} v m hm x H=>by obtain ⟨i,h,rfl⟩:=ab hm;obtain ⟨j,hj,rfl⟩:=ab H;exact (v.svc i h j hj).shape
 have ca:=aa va;have cb:=aa vb;have sa:=ad va;have sb:=ad vb;have hs:refC a b=mrgF cB aac aey (λm=>chg 1 (aac m) (-1) [] []) (λm=>chg 2 (aac m) (-1) [] []) (a.fld 0).asList (b.fld 0).asList++(mrgF cB aac alp (λm=>chg 11 (aac m) (-1) [] []) (λm=>chg 12 (aac m) (-1) [] []) (a.fld 1).asList (b.fld 1).asList++mrgF cB aac svcR (λm=>chg 17 (aac m) (-1) [] []) (λm=>chg 18 (aac m) (-1) [] []) (a.fld 2).asList (b.fld 2).asList):=rfl;rw [hs] at M ⊢;have am:=ha.len.m;have ae:=ha.len.e;have av:=ha.len.v;have bm:=hb.len.m;have be:=hb.len.e;have bv:=hb.len.v;have ar:=ha.msg;have aq:=ha.enum;have au:=ha.svc;have ax:=hb.msg;have aw:=hb.enum;have ay:=hb.svc;have RM:∀ n,F41 0 a n=some (dmem aac n (a.fld 0).asList zMsg):=λn=>refM a n am;have ai:∀ n,F41 0 b n=some (dmem aac n (b.fld 0).asList zMsg):=λn=>refM b n bm;have RE:∀ n,F43 0 a n=some (dmem aac n (a.fld 1).asList akr):=λn=>refE a n ae;have ah:∀ n,F43 0 b n=some (dmem aac n (b.fld 1).asList akr):=λn=>refE b n be;have RS:∀ n,F45 0 a n=some (dmem aac n (a.fld 2).asList zSvc):=λn=>refS a n av;have aj:∀ n,F45 0 b n=some (dmem aac n (b.fld 2).asList zSvc):=λn=>refS b n bv;generalize aI:(a.fld 0).asList=A0 at am ar ca RM M ⊢;generalize aJ:(a.fld 1).asList=A1 at ae aq RE M ⊢;generalize aK:(a.fld 2).asList=A2 at av au sa RS M ⊢;generalize aL:(b.fld 0).asList=B0 at bm ax cb ai M ⊢;generalize aM:(b.fld 1).asList=B1 at be aw ah M ⊢;generalize aN:(b.fld 2).asList=B2 at bv ay sb aj M ⊢;have e1:=acb (step:=S15_4step 0) cB aac (λi acc=>((),(),acc.map PV.str,[],[],A0,(A0.length:Int),((i:Nat):Int),a,b)) A0 (λacc=>((),(),acc.map PV.str,[],[],a,b)) (λi acc h O=>by
  simp only [S15_4step,S15_4,decL i _ h,Af,aab,Ag h,Aj,aaf h,ag4 acc _ (by omega),Ae,aaz i (by omega),aac]) (λacc=>by
  simp only [S15_4step,S15_4,decN,Ah]) [] (by simp only [Ao];omega)
 have l1:=aca (c:=cB) (key:=aac) A0 [];rw [Ao] at l1;generalize ak:ab3 cB aac A0 []=K0 at e1 l1;have e2:=acb (step:=S15_9step 0) cB aac (λi acc=>((),(),acc.map PV.str,[],[],B0,(B0.length:Int),((i:Nat):Int),a,b)) B0 (λacc=>((),(),acc.map PV.str,[],[],a,b)) (λi acc h O=>by
  simp only [S15_9step,S15_9,decL i _ h,Af,aab,Ag h,Aj,aaf h,ag4 acc _ (by omega),Ae,aaz i (by omega),aac]) (λacc=>by
  simp only [S15_9step,S15_9,decN,Ah]) K0 (by omega)
 have l2:=aca (c:=cB) (key:=aac) B0 K0;have an:∀ k,k∈ab3 cB aac B0 K0->k∈A0.map aac\/k∈B0.map aac:=λk o=>afd Key.cB (by rw [ak];exact o);unfold mrgF at M ⊢;rw [ak] at M ⊢;generalize ab3 cB aac B0 K0=z at e2 l2 an M ⊢;have e3:=acb (step:=S15_14step 0) cB aac (λi acc=>((),(),z.map PV.str,acc.map PV.str,[],A1,(A1.length:Int),((i:Nat):Int),a,b)) A1 (λacc=>((),(),z.map PV.str,acc.map PV.str,[],a,b)) (λi acc h O=>by
  simp only [S15_14step,S15_14,decL i _ h,Af,aab,Ag h,Aj,aaf h,ag4 acc _ (by omega),Ae,aaz i (by omega),aac]) (λacc=>by
  simp only [S15_14step,S15_14,decN,Ah]) [] (by simp only [Ao];omega)
 have l3:=aca (c:=cB) (key:=aac) A1 [];rw [Ao] at l3;generalize af:ab3 cB aac A1 []=K1 at e3 l3;have e4:=acb (step:=S15_19step 0) cB aac (λi acc=>((),(),z.map PV.str,acc.map PV.str,[],B1,(B1.length:Int),((i:Nat):Int),a,b)) B1 (λacc=>((),(),z.map PV.str,acc.map PV.str,[],a,b)) (λi acc h O=>by
  simp only [S15_19step,S15_19,decL i _ h,Af,aab,Ag h,Aj,aaf h,ag4 acc _ (by omega),Ae,aaz i (by omega),aac]) (λacc=>by
  simp only [S15_19step,S15_19,decN,Ah]) K1 (by omega)
 have l4:=aca (c:=cB) (key:=aac) B1 K1;have ao:∀ k,k∈ab3 cB aac B1 K1->k∈A1.map aac\/k∈B1.map aac:=λk o=>afd Key.cB (by rw [af];exact o);try rw [af] at M
 try rw [af]
 generalize ab3 cB aac B1 K1=es at e4 l4 ao M ⊢;have e5:=acb (step:=S15_24step 0) cB aac (λi acc=>((),(),z.map PV.str,es.map PV.str,acc.map PV.str,A2,(A2.length:Int),((i:Nat):Int),a,b)) A2 (λacc=>((),(),z.map PV.str,es.map PV.str,acc.map PV.str,a,b)) (λi acc h O=>by
  simp only [S15_24step,S15_24,decL i _ h,Af,aab,Ag h,Aj,aaf h,ag4 acc _ (by omega),Ae,aaz i (by omega),aac]) (λacc=>by
  simp only [S15_24step,S15_24,decN,Ah]) [] (by simp only [Ao];omega)
 have l5:=aca (c:=cB) (key:=aac) A2 [];rw [Ao] at l5;generalize ag:ab3 cB aac A2 []=K2 at e5 l5;have e6:=acb (step:=S15_29step 0) cB aac (λi acc=>((),(),z.map PV.str,es.map PV.str,acc.map PV.str,B2,(B2.length:Int),((i:Nat):Int),a,b)) B2 (λacc=>((),(),z.map PV.str,es.map PV.str,acc.map PV.str,a,b)) (λi acc h O=>by
  simp only [S15_29step,S15_29,decL i _ h,Af,aab,Ag h,Aj,aaf h,ag4 acc _ (by omega),Ae,aaz i (by omega),aac]) (λacc=>by
  simp only [S15_29step,S15_29,decN,Ah]) K2 (by omega)
 have l6:=aca (c:=cB) (key:=aac) B2 K2;have ap:∀ k,k∈ab3 cB aac B2 K2->k∈A2.map aac\/k∈B2.map aac:=λk o=>afd Key.cB (by rw [ag];exact o);try rw [ag] at M
 try rw [ag]
 generalize ab3 cB aac B2 K2=J at e6 l6 ap M ⊢;rw [Ak,Ak] at M;have f1:=aa8 (step:=S15_35step 0) (λi c=>((),(),es.map PV.str,J.map PV.str,c,z.map PV.str,((z.map PV.str).length:Int),((i:Nat):Int),a,b)) z (blk aac aey (λm=>chg 1 (aac m) (-1) [] []) (λm=>chg 2 (aac m) (-1) [] []) A0 B0) (λc=>((),(),es.map PV.str,J.map PV.str,c,a,b)) 90000000 (λi c h hc=>by
  have O:i<(z.map PV.str).length:=by simpa using h
  have hg:(z.map PV.str).getD i .bad=.str z[i]:=by rw [aaf O,List.getElem_map]
  have is:∀ n:Bq,(PV.str n).asStr=n:=λ_=>rfl;have o:=an _ (List.getElem_mem h);simp only [S15_35step,S15_35,decL i _ O,Af,aab,Ag O,Aj,hg,is,RM,ai,Ae,aaz i (by omega)];generalize z[i]=k at o hc ⊢;have al:c.length<=90000000:=by omega
  unfold dmem blk at*;cases Z:fst aac k A0 with
  | some x=>
   have kx:aac x=k:=(fst_key Z:aac x=k);cases I:fst aac k B0 with
   | some y=>dsimp only;rw [Z,I] at hc;dsimp only at hc;rw [A3,Ah,Ah,awb (ar x (aa2 Z)) (ax y (aa2 I)) (ca x (aa2 Z)) (cb y (aa2 I)),Ae,accO (by omega),Af]
   | none=>dsimp only;rw [Az,Af,addB (by omega),Af,kx];rfl
  | none=>
   cases I:fst aac k B0 with
   | some y=>have ky:aac y=k:=(fst_key I:aac y=k);dsimp only;rw [A3,Ah,Az,Af,addB (by omega),Af,ky];rfl
   | none=>
    exfalso;rcases o with o | o
    ·obtain ⟨x,H⟩:=adr o;rw [Z] at H;cases H
    ·obtain ⟨x,H⟩:=adr o;rw [I] at H;cases H) (λc=>by
  have hn:¬((z.length:Int)<((z.map PV.str).length:Int)):=by simp
  simp only [S15_35step,S15_35,An hn,Ah]) z.length 0 [] (Nat.zero_add _) (by rw [As,Ao];omega)
 rw [As,A9] at f1;generalize z.flatMap (blk aac aey (λm=>chg 1 (aac m) (-1) [] []) (λm=>chg 2 (aac m) (-1) [] []) A0 B0)=r0 at f1 M ⊢;have f2:=aa8 (step:=S15_46step 0) (λi c=>((),(),J.map PV.str,c,es.map PV.str,((es.map PV.str).length:Int),((i:Nat):Int),a,b)) es (blk aac alp (λm=>chg 11 (aac m) (-1) [] []) (λm=>chg 12 (aac m) (-1) [] []) A1 B1) (λc=>((),(),J.map PV.str,c,a,b)) 90000000 (λi c h hc=>by
  have O:i<(es.map PV.str).length:=by simpa using h
  have hg:(es.map PV.str).getD i .bad=.str es[i]:=by rw [aaf O,List.getElem_map]
  have is:∀ n:Bq,(PV.str n).asStr=n:=λ_=>rfl;have o:=ao _ (List.getElem_mem h);simp only [S15_46step,S15_46,decL i _ O,Af,aab,Ag O,Aj,hg,is,RE,ah,Ae,aaz i (by omega)];generalize es[i]=k at o hc ⊢;have al:c.length<=90000000:=by omega
  unfold dmem blk at*;cases Z:fst aac k A1 with
  | some x=>
   have kx:aac x=k:=(fst_key Z:aac x=k);cases I:fst aac k B1 with
   | some y=>dsimp only;rw [Z,I] at hc;dsimp only at hc;rw [A3,Ah,Ah,a5j (aq x (aa2 Z)) (aw y (aa2 I)),Ae,accO (by omega),Af]
   | none=>dsimp only;rw [Az,Af,addB (by omega),Af,kx];rfl
  | none=>
   cases I:fst aac k B1 with
   | some y=>have ky:aac y=k:=(fst_key I:aac y=k);dsimp only;rw [A3,Ah,Az,Af,addB (by omega),Af,ky];rfl
   | none=>
    exfalso;rcases o with o | o
    ·obtain ⟨x,H⟩:=adr o;rw [Z] at H;cases H
    ·obtain ⟨x,H⟩:=adr o;rw [I] at H;cases H) (λc=>by
  have hn:¬((es.length:Int)<((es.map PV.str).length:Int)):=by simp
  simp only [S15_46step,S15_46,An hn,Ah]) es.length 0 r0 (Nat.zero_add _) (by rw [As];omega)
 rw [As] at f2;generalize es.flatMap (blk aac alp (λm=>chg 11 (aac m) (-1) [] []) (λm=>chg 12 (aac m) (-1) [] []) A1 B1)=r1 at f2 M ⊢;have f3:=aa8 (step:=S15_57step 0) (λi c=>((),(),c,J.map PV.str,((J.map PV.str).length:Int),((i:Nat):Int),a,b)) J (blk aac svcR (λm=>chg 17 (aac m) (-1) [] []) (λm=>chg 18 (aac m) (-1) [] []) A2 B2) (λc=>(c,a,b)) 90000000 (λi c h hc=>by
  have O:i<(J.map PV.str).length:=by simpa using h
  have hg:(J.map PV.str).getD i .bad=.str J[i]:=by rw [aaf O,List.getElem_map]
  have is:∀ n:Bq,(PV.str n).asStr=n:=λ_=>rfl;have o:=ap _ (List.getElem_mem h);simp only [S15_57step,S15_57,decL i _ O,Af,aab,Ag O,Aj,hg,is,RS,aj,Ae,aaz i (by omega)];generalize J[i]=k at o hc ⊢;have al:c.length<=90000000:=by omega
  unfold dmem blk at*;cases Z:fst aac k A2 with
  | some x=>
   have kx:aac x=k:=(fst_key Z:aac x=k);cases I:fst aac k B2 with
   | some y=>dsimp only;rw [Z,I] at hc;dsimp only at hc;rw [A3,Ah,Ah,awp (au x (aa2 Z)) (ay y (aa2 I)) (sa x (aa2 Z)) (sb y (aa2 I)),Ae,accO (by omega),Af]
   | none=>dsimp only;rw [Az,Af,addB (by omega),Af,kx];rfl
  | none=>
   cases I:fst aac k B2 with
   | some y=>have ky:aac y=k:=(fst_key I:aac y=k);dsimp only;rw [A3,Ah,Az,Af,addB (by omega),Af,ky];rfl
   | none=>
    exfalso;rcases o with o | o
    ·obtain ⟨x,H⟩:=adr o;rw [Z] at H;cases H
    ·obtain ⟨x,H⟩:=adr o;rw [I] at H;cases H) (λc=>by
  have hn:¬((J.length:Int)<((J.map PV.str).length:Int)):=by simp
  simp only [S15_57step,S15_57,An hn,Ah]) J.length 0 (r0++r1) (Nat.zero_add _) (by rw [As,Ak];omega)
 rw [As] at f3;have az:aag 0 (S15_4step 0) ((),(),[],[],[],A0,(A0.length:Int),(0:Int),a,b)=_:=e1;have aA:aag 0 (S15_9step 0) ((),(),K0.map PV.str,[],[],B0,(B0.length:Int),(0:Int),a,b)=_:=e2;have aB:aag 0 (S15_14step 0) ((),(),z.map PV.str,[],[],A1,(A1.length:Int),(0:Int),a,b)=_:=e3;have aC:aag 0 (S15_19step 0) ((),(),z.map PV.str,K1.map PV.str,[],B1,(B1.length:Int),(0:Int),a,b)=_:=e4;have aD:aag 0 (S15_24step 0) ((),(),z.map PV.str,es.map PV.str,[],A2,(A2.length:Int),(0:Int),a,b)=_:=e5;have aE:aag 0 (S15_29step 0) ((),(),z.map PV.str,es.map PV.str,K2.map PV.str,B2,(B2.length:Int),(0:Int),a,b)=_:=e6;have aF:aag 0 (S15_35step 0) ((),(),es.map PV.str,J.map PV.str,[],z.map PV.str,((z.map PV.str).length:Int),(0:Int),a,b)=_:=f1;have aG:aag 0 (S15_46step 0) ((),(),J.map PV.str,r0,es.map PV.str,((es.map PV.str).length:Int),(0:Int),a,b)=_:=f2;have aH:aag 0 (S15_57step 0) ((),(),r0++r1,J.map PV.str,((J.map PV.str).length:Int),(0:Int),a,b)=_:=f3;unfold F15;dsimp only;rw [aI,az,Ae];dsimp only;rw [aL,aA,Ae];dsimp only;rw [aJ,aB,Ae];dsimp only;rw [aM,aC,Ae];dsimp only;rw [aK,aD,Ae];dsimp only;rw [aN,aE,Ae];dsimp only;rw [aF,Ae];dsimp only;rw [aG,Ae];dsimp only;rw [aH,Ae];dsimp only;rw [Ap]
theorem ary {s:PV} (h:SOk s) (bs:aau s<=1048576):∃ v,F11 0 s=some v/\(v=true->SchemaV s):=a0i h bs
theorem am8 {a b:PV} (I:SOk a) (J:SOk b) (z:aau a<=1048576) (H:aau b<=1048576):F3 0 a b=some true:=by
 have M:akt 0=some true:=rfl;obtain ⟨va,O,Z⟩:=ary I z;obtain ⟨vb,w1,w2⟩:=ary J H;unfold F3;rw [O];cases va with
 | false=>simp only [Ae,Az,A3,Af,Ah,M]
 | true=>
  simp only [Ae,A3,Az,Af,Ah,w1];cases vb with
  | false=>simp only [Az,Af,Ae,M]
  | true=>
   have h:=Z rfl;have o:=w2 rfl;have hl:(refC a b).length<=90000000:=by rw [(ami h.up.uq o.up.uq).length_eq];exact as8 h.up.uq o.up.uq z H
   simp only [A3,Ah,Ae,asc I J h.up o.up z H,a03 I J h.up o.up h o z H,azu (refC a b) (by omega),Af,M]
end Go.Ab
