/- The law EvolveCompares: the specification's comparing gives the same list. -/
import Derived.Test.YtjogoleiodbfdaaGreatDoorPRefT
set_option linter.unusedVariables false
set_option linter.unusedSimpArgs false
set_option linter.unnecessarySimpa false
namespace Go.Ab
open Go
set_option maxRecDepth 100000
def insF {κ:Type} (c:κ->κ->Int) (s:κ) (a:Bool×List κ) (x:κ):Bool×List κ:=if c x s=0 then (true,a.2++[x]) else if a.1=false/\c s x<0 then (true,(a.2++[s])++[x]) else (a.1,a.2++[x])
theorem ary {κ:Type}{c:κ->κ->Int}{s:κ}:∀ (l:List κ) (d:Bool) (h:List κ),(bif (l.foldl (insF c s) (d,h)).1 then (l.foldl (insF c s) (d,h)).2 else (l.foldl (insF c s) (d,h)).2++[s])=h++(bif d then l else insK c s l):=by
 intro l;induction l with
 | nil=>intro d h;cases d<;>simp [insK]
 | cons x r I=>
  intro d h;rw [List.foldl_cons];by_cases o:c x s=0
  ·have e:insF c s (d,h) x=(true,h++[x]):=by unfold insF;rw [if_pos o]
   rw [e,I];cases d<;>simp [insK,o]
  ·cases d with
   | true=>
    have e:insF c s (true,h) x=(true,h++[x]):=by unfold insF;rw [if_neg o,if_neg (by simp)]
    rw [e,I];simp
   | false=>
    by_cases H:c s x<0
    ·have e:insF c s (false,h) x=(true,(h++[s])++[x]):=by unfold insF;rw [if_neg o,if_pos ⟨rfl,H⟩]
     rw [e,I];simp [insK,o,H]
    ·have e:insF c s (false,h) x=(false,h++[x]):=by unfold insF;rw [if_neg o,if_neg (by simp [H])]
     rw [e,I];simp [insK,o,H]
theorem a0f {κ:Type}{c:κ->κ->Int}{s x:κ}{a:Bool×List κ}{i:Nat} (h:a.2.length<=2*i):(insF c s a x).2.length<=2*(i+1):=by
 unfold insF;split
 ·simp;omega
 ·split
  ·simp;omega
  ·simp;omega
theorem awa {κ:Type}{c:κ->κ->Int}{s:κ}:∀ (l:List κ),(insK c s l).length<=l.length+1:=by
 intro l;induction l with
 | nil=>simp [insK]
 | cons x r h=>
  unfold insK;split
  ·simp
  ·split
   ·simp
   ·simp only [Am];omega
theorem acj {κ:Type}{c:κ->κ->Int}{key:PV->κ}:∀ (l:List PV) (acc:List κ),(ab9 c key l acc).length<=acc.length+l.length:=by
 intro l;induction l with
 | nil=>intro acc;simp [ab9]
 | cons x r h=>intro acc;have:=h (insK c (key x) acc);have o:=awa (c:=c) (s:=key x) acc;simp only [ab9,List.foldl_cons,Am] at this ⊢;omega
theorem accO {y z:List PV} (h:y.length+z.length<=1000000000):decide (y.length+z.length<=aaf)=true:=Ag (by unfold aaf;omega)
theorem ahj (ks:List Bt) (s:Bt) (h:ks.length<=100000000):F29 0 (ks.map PV.str) s=some ((insK cB s ks).map PV.str):=by
 have H:=adu (step:=S29_5step 0) (λi (a:Bool×List Bt)=>(ks.map PV.str,s,a.2.map PV.str,a.1,((i:Nat):Int))) ks (insF cB s) (λa=>(s,a.2.map PV.str,a.1)) (λi a=>a.2.length<=2*i) (λi a hi hI=>by
  have Z:i<(ks.map PV.str).length:=by simpa using hi
  have hg:(ks.map PV.str).getD i .bad=.str ks[i]:=by rw [aae Z,List.getElem_map]
  have is:∀ n:Bt,(PV.str n).asStr=n:=λ_=>rfl;have al:(a.2.map PV.str).length<=200000000:=by rw [List.length_map];omega
  refine ⟨?_,a0f hI⟩;simp only [S29_5step,S29_5,decL i _ Z,Af,aab,Ag Z,Ai,hg,is,aax i (by omega),at6,accO (show (a.2.map PV.str).length+[PV.str ks[i]].length<=1000000000 by simp only [Am,Ao];omega),accO (show (a.2.map PV.str).length+[PV.str s].length<=1000000000 by simp only [Am,Ao];omega),accO (show (a.2.map PV.str++[PV.str s]).length+[PV.str ks[i]].length<=1000000000 by simp only [Ak,Am,Ao];omega)];unfold insF;by_cases I:cB ks[i] s=0
  ·rw [if_pos I,show (ks[i]==s)=true by rw [cB_zero.1 I];simp,Af];simp
  ·rw [if_neg I,show (ks[i]==s)=false by simpa using λe=>I (cB_zero.2 e),Ah];have hb:(!(Op.bytesLess ks[i] s||false))=decide (cB s ks[i]<0):=by
    rw [<-a7r,Bool.or_false];have:=Lin.cB.anti ks[i] s;by_cases h2:cB ks[i] s<0
    ·rw [Ag h2,An (by omega)];rfl
    ·rw [An h2,Ag (by omega)];rfl
   rw [hb];cases hd:a.1 with
   | true=>simp
   | false=>
    by_cases H:cB s ks[i]<0
    ·rw [if_pos ⟨rfl,H⟩,Ag H];simp
    ·rw [if_neg (by simp [H]),An H];simp) (λa hI=>by
  have hn:¬((ks.length:Int)<((ks.map PV.str).length:Int)):=by simp
  simp only [S29_5step,S29_5,An hn,Ah]) ks.length 0 (false,[]) (Nat.zero_add _) (by simp)
 obtain ⟨e1,O⟩:=H;rw [Ap] at e1 O;have M:aag 0 (S29_5step 0) (ks.map PV.str,s,[],false,(0:Int))=_:=e1;have J:=ary (c:=cB) (s:=s) ks false [];unfold F29;rw [M,Aa];generalize ks.foldl (insF cB s) (false,[])=r at O J;obtain ⟨d,o⟩:=r;dsimp only at O J ⊢;rw [Ba,Ah] at J;rw [<-J];cases d with
 | true=>rfl
 | false=>rw [Ay,Af,accO (by rw [List.length_map];simp only [Am,Ao];omega)];simp
theorem ajs (ks:List Int) (s:Int) (h:ks.length<=100000000):F71 0 (ks.map PV.int) s=some ((insK cI s ks).map PV.int):=by
 have H:=adu (step:=S71_5step 0) (λi (a:Bool×List Int)=>(ks.map PV.int,s,a.2.map PV.int,a.1,((i:Nat):Int))) ks (insF cI s) (λa=>(s,a.2.map PV.int,a.1)) (λi a=>a.2.length<=2*i) (λi a hi hI=>by
  have hl:i<(ks.map PV.int).length:=by simpa using hi
  have hg:(ks.map PV.int).getD i .bad=.int ks[i]:=by rw [aae hl,List.getElem_map]
  have is:∀ n:Int,(PV.int n).asInt=n:=λ_=>rfl;have al:(a.2.map PV.int).length<=200000000:=by rw [List.length_map];omega
  refine ⟨?_,a0f hI⟩;simp only [S71_5step,S71_5,decL i _ hl,Af,aab,Ag hl,Ai,hg,is,aax i (by omega),at6,accO (show (a.2.map PV.int).length+[PV.int ks[i]].length<=1000000000 by simp only [Am,Ao];omega),accO (show (a.2.map PV.int).length+[PV.int s].length<=1000000000 by simp only [Am,Ao];omega),accO (show (a.2.map PV.int++[PV.int s]).length+[PV.int ks[i]].length<=1000000000 by simp only [Ak,Am,Ao];omega)];unfold insF;by_cases I:cI ks[i] s=0
  ·rw [if_pos I,show (ks[i]==s)=true by rw [cI_zero.1 I];simp,Af];simp
  ·have aa:ks[i]≠s:=λe=>I (cI_zero.2 e);rw [if_neg I,show (ks[i]==s)=false by simpa using aa,Ah];have hb:decide (ks[i]>s)=decide (cI s ks[i]<0):=by
    unfold cI;by_cases J:s<ks[i]
    ·rw [if_pos J,Ag J];rfl
    ·rw [if_neg J,if_pos (by omega),An J];rfl
   rw [hb];cases hd:a.1 with
   | true=>simp
   | false=>
    by_cases H:cI s ks[i]<0
    ·rw [if_pos ⟨rfl,H⟩,Ag H];simp
    ·rw [if_neg (by simp [H]),An H];simp) (λa hI=>by
  have hn:¬((ks.length:Int)<((ks.map PV.int).length:Int)):=by simp
  simp only [S71_5step,S71_5,An hn,Ah]) ks.length 0 (false,[]) (Nat.zero_add _) (by simp)
 obtain ⟨e1,Z⟩:=H;rw [Ap] at e1 Z;have O:aag 0 (S71_5step 0) (ks.map PV.int,s,[],false,(0:Int))=_:=e1;have M:=ary (c:=cI) (s:=s) ks false [];unfold F71;rw [O,Aa];generalize ks.foldl (insF cI s) (false,[])=r at Z M;obtain ⟨d,o⟩:=r;dsimp only at Z M ⊢;rw [Ba,Ah] at M;rw [<-M];cases d with
 | true=>rfl
 | false=>rw [Ay,Af,accO (by rw [List.length_map];simp only [Am,Ao];omega)];simp
theorem refM (s:PV) (n:Bt) (h:(s.fld 0).asList.length<=1048576):F30 0 s n=some (dmem aac n (s.fld 0).asList zMsg):=by
 generalize I:(s.fld 0).asList=l at h;have H:=abj (step:=S30_3step 0) (λi=>(n,(),(),((i:Nat):Int),s,zMsg)) l (λx=>aac x==n) (λx=>.inl ((),true,s,x)) (.inr ((),s,zMsg)) (λi o=>by
  simp only [S30_3step,S30_3,I,decL i _ o,Af,aab,Ag o,Ai,aae o,aax i (by omega),aac];cases ((l[i]).fld 0).asStr==n<;>rfl) (by
  simp only [S30_3step,S30_3,I,decN,Ah]) l.length 0 (by omega)
 rw [Ap] at H;have J:aag 0 (S30_3step 0) (n,(),(),(0:Int),s,zMsg)=_:=H;unfold F30;change (Option.bind (aag 0 (S30_3step 0) (n,(),(),(0:Int),s,zMsg)) _)=_;rw [J];unfold dmem fst;cases l.find? (λx=>aac x==n)<;>rfl
theorem refE (s:PV) (n:Bt) (h:(s.fld 1).asList.length<=1048576):F32 0 s n=some (dmem aac n (s.fld 1).asList acz):=by
 generalize I:(s.fld 1).asList=l at h;have H:=abj (step:=S32_3step 0) (λi=>(n,(),(),((i:Nat):Int),s,acz)) l (λx=>aac x==n) (λx=>.inl ((),true,s,x)) (.inr ((),s,acz)) (λi o=>by
  simp only [S32_3step,S32_3,I,decL i _ o,Af,aab,Ag o,Ai,aae o,aax i (by omega),aac];cases ((l[i]).fld 0).asStr==n<;>rfl) (by
  simp only [S32_3step,S32_3,I,decN,Ah]) l.length 0 (by omega)
 rw [Ap] at H;have J:aag 0 (S32_3step 0) (n,(),(),(0:Int),s,acz)=_:=H;unfold F32;change (Option.bind (aag 0 (S32_3step 0) (n,(),(),(0:Int),s,acz)) _)=_;rw [J];unfold dmem fst;cases l.find? (λx=>aac x==n)<;>rfl
theorem refS (s:PV) (n:Bt) (h:(s.fld 2).asList.length<=1048576):F34 0 s n=some (dmem aac n (s.fld 2).asList zSvc):=by
 generalize I:(s.fld 2).asList=l at h;have H:=abj (step:=S34_3step 0) (λi=>(n,(),(),((i:Nat):Int),s,zSvc)) l (λx=>aac x==n) (λx=>.inl ((),true,s,x)) (.inr ((),s,zSvc)) (λi o=>by
  simp only [S34_3step,S34_3,I,decL i _ o,Af,aab,Ag o,Ai,aae o,aax i (by omega),aac];cases ((l[i]).fld 0).asStr==n<;>rfl) (by
  simp only [S34_3step,S34_3,I,decN,Ah]) l.length 0 (by omega)
 rw [Ap] at H;have J:aag 0 (S34_3step 0) (n,(),(),(0:Int),s,zSvc)=_:=H;unfold F34;change (Option.bind (aag 0 (S34_3step 0) (n,(),(),(0:Int),s,zSvc)) _)=_;rw [J];unfold dmem fst;cases l.find? (λx=>aac x==n)<;>rfl
theorem refF (s:PV) (n:Int) (h:(s.fld 1).asList.length<=1048576):F72 0 s n=some (dmem kNum n (s.fld 1).asList zFld):=by
 generalize I:(s.fld 1).asList=l at h;have H:=abj (step:=S72_3step 0) (λi=>(n,(),(),((i:Nat):Int),s,zFld)) l (λx=>kNum x==n) (λx=>.inl ((),true,s,x)) (.inr ((),s,zFld)) (λi o=>by
  simp only [S72_3step,S72_3,I,decL i _ o,Af,aab,Ag o,Ai,aae o,aax i (by omega),kNum];cases ((l[i]).fld 0).asInt==n<;>rfl) (by
  simp only [S72_3step,S72_3,I,decN,Ah]) l.length 0 (by omega)
 rw [Ap] at H;have J:aag 0 (S72_3step 0) (n,(),(),(0:Int),s,zFld)=_:=H;unfold F72;change (Option.bind (aag 0 (S72_3step 0) (n,(),(),(0:Int),s,zFld)) _)=_;rw [J];unfold dmem fst;cases l.find? (λx=>kNum x==n)<;>rfl
theorem refI (s:PV) (n:Int) (h:(s.fld 2).asList.length<=1048576):F75 0 s n=some (dmem abc n (s.fld 2).asList ak5):=by
 generalize I:(s.fld 2).asList=l at h;have H:=abj (step:=S75_3step 0) (λi=>(n,(),(),((i:Nat):Int),s,ak5)) l (λx=>abc x==n) (λx=>.inl ((),true,s,x)) (.inr ((),s,ak5)) (λi o=>by
  simp only [S75_3step,S75_3,I,decL i _ o,Af,aab,Ag o,Ai,aae o,aax i (by omega),abc];cases ((l[i]).fld 1).asInt==n<;>rfl) (by
  simp only [S75_3step,S75_3,I,decN,Ah]) l.length 0 (by omega)
 rw [Ap] at H;have J:aag 0 (S75_3step 0) (n,(),(),(0:Int),s,ak5)=_:=H;unfold F75;change (Option.bind (aag 0 (S75_3step 0) (n,(),(),(0:Int),s,ak5)) _)=_;rw [J];unfold dmem fst;cases l.find? (λx=>abc x==n)<;>rfl
theorem refT (s:PV) (n:Bt) (h:(s.fld 1).asList.length<=1048576):F76 0 s n=some (dmem aac n (s.fld 1).asList agm):=by
 generalize J:(s.fld 1).asList=l at h;have H:=abj (step:=S76_3step 0) (λi=>(n,(),l,(l.length:Int),((i:Nat):Int),s,agm)) l (λx=>aac x==n) (λx=>.inl ((),true,s,x)) (.inr ((),s,agm)) (λi o=>by
  simp only [S76_3step,S76_3,decL i _ o,Af,aab,Ag o,Ai,aae o,aax i (by omega),aac];cases ((l[i]).fld 0).asStr==n<;>rfl) (by
  simp only [S76_3step,S76_3,decN,Ah]) l.length 0 (by omega)
 rw [Ap] at H;have I:aag 0 (S76_3step 0) (n,(),l,(l.length:Int),(0:Int),s,agm)=_:=H;unfold F76;dsimp only;rw [J];change (Option.bind (aag 0 (S76_3step 0) (n,(),l,(l.length:Int),(0:Int),s,agm)) _)=_;rw [I];unfold dmem fst;cases l.find? (λx=>aac x==n)<;>rfl
theorem aoy {c:Int} (h:1<=c) (o:c<=5):F110 0 c=some (ag2 c):=by
 have:c=1\/c=2\/c=3\/c=4\/c=5:=by omega
 rcases this with rfl | rfl | rfl | rfl | rfl<;>rfl
theorem anm {c:Int} (h:1<=c) (o:c<=4):F77 0 c=some (ags c):=by
 have:c=1\/c=2\/c=3\/c=4:=by omega
 rcases this with rfl | rfl | rfl | rfl<;>rfl
theorem a1r (k:Int):F143 0 k=some (kw k):=by
 unfold kw;by_cases h:k<1\/8<k
 ·rw [aor h];unfold F143;rw [show (k==(1:Int))=false by simpa using (by omega:¬k=1),show (k==(2:Int))=false by simpa using (by omega:¬k=2),show (k==(3:Int))=false by simpa using (by omega:¬k=3),show (k==(4:Int))=false by simpa using (by omega:¬k=4),
   show (k==(5:Int))=false by simpa using (by omega:¬k=5),show (k==(6:Int))=false by simpa using (by omega:¬k=6),show (k==(7:Int))=false by simpa using (by omega:¬k=7),show (k==(8:Int))=false by simpa using (by omega:¬k=8)]
  rfl
 ·rcases a8o (k:=k) (by omega) (by omega) with rfl | rfl | rfl | rfl | rfl | rfl | rfl | rfl<;>kernel_rfl
theorem a1o (k:Int):F111 0 k=some (kw k):=by
 unfold F111;rw [a1r];cases h:k==(0:Int) with
 | true=>
  have:k=0:=by simpa using h
  subst this;unfold kw;rw [aor (by omega)];rfl
 | false=>rfl
theorem ao1 (f:PV) (h:ac3 (f.fld 7)):F112 0 f=some (litF f):=by unfold F112 litF;rw [a1p _ h];cases (f.fld 6).asBool<;>rfl
theorem a7s {f:PV} (h:F87 0 f=some true):1<=(f.fld 2).asInt/\(f.fld 2).asInt<=5:=by
 unfold F87 at h;by_cases I:(f.fld 2).asInt=5
 ·omega
 ·rw [show ((f.fld 2).asInt != (5:Int))=true by simpa using I,Af] at h;have h:=Option.some.inj h;by_cases o:(f.fld 2).asInt>=1
  ·by_cases H:(f.fld 2).asInt<=4
   ·omega
   ·rw [Ag o,An H] at h;cases h
  ·rw [An o] at h;cases h
theorem a7o (d:Bt) {a b:PV} (o:OkFld a) (H:OkFld b) (I:1<=(a.fld 2).asInt/\(a.fld 2).asInt<=5) (J:1<=(b.fld 2).asInt/\(b.fld 2).asInt<=5):F73 0 d a b=some (act d a b):=by
 have M:(!(bif ((a.fld 4).fld 0).asInt==((b.fld 4).fld 0).asInt then (bif ((a.fld 4).fld 1).asStr==((b.fld 4).fld 1).asStr then true else false) else false))=ne6 a b:=by unfold ne6 bne;cases ((a.fld 4).fld 0).asInt==((b.fld 4).fld 0).asInt<;>cases ((a.fld 4).fld 1).asStr==((b.fld 4).fld 1).asStr<;>rfl
 unfold F73 act;dsimp only;simp only [ao2 _ o.type,ao2 _ H.type,aoy I.1 I.2,aoy J.1 J.2,a1o,ao1 _ o.dflt,ao1 _ H.dflt,Aa,M];change (bif ne5 a b then _ else _)=_;have O:((a.fld 2).asInt != (b.fld 2).asInt)=ne7 a b:=rfl;have Z:((a.fld 3).asInt != (b.fld 3).asInt)=ne8 a b:=rfl;have e9:(!((a.fld 5).asStr==(b.fld 5).asStr))=ne9 a b:=rfl;have h:(bif (bif (bif (!((a.fld 6).asBool==(b.fld 6).asBool)) then true else (((a.fld 7).fld 0).asInt != ((b.fld 7).fld 0).asInt)) then true else (((a.fld 7).fld 1).asInt != ((b.fld 7).fld 1).asInt)) then true else (!(((a.fld 7).fld 2).asStr==((b.fld 7).fld 2).asStr)))=ne10 a b:=rfl;rw [O,Z,e9,h];generalize agy (a.fld 4)=t1;generalize agy (b.fld 4)=t2;generalize ag2 (a.fld 2).asInt=c1;generalize ag2 (b.fld 2).asInt=c2;generalize kw (a.fld 3).asInt=k1;generalize kw (b.fld 3).asInt=k2;generalize litF a=l1;generalize litF b=l2;generalize (a.fld 0).asInt=n;generalize (a.fld 1).asStr=s1;generalize (b.fld 1).asStr=s2;generalize (a.fld 5).asStr=u1;generalize (b.fld 5).asStr=u2;cases ne5 a b<;>cases ne6 a b<;>cases ne7 a b<;>cases ne8 a b<;>cases ne9 a b<;>cases ne10 a b<;>rfl
theorem ack {J M κ:Type}{step:J->Option (J⊕M)} (c:κ->κ->Int) (key:PV->κ) (st:Nat->List κ->J) (A:List PV) (o:List κ->M)
 (I:∀ i acc (h:i<A.length),acc.length<=10000000->step (st i acc)=some (.inl (st (i+1) (insK c (key A[i]) acc)))) (H:∀ acc,step (st A.length acc)=some (.inr (o acc))) (acc:List κ) (hl:acc.length+A.length<=10000000):
 aa9 step (st 0 acc)=some (o (ab9 c key A acc)):=by
 have h:=(adu (step:=step) st A (λa x=>insK c (key x) a) o (λi a=>a.length<=acc.length+i) (λi a O Z=>⟨I i a O (by omega),by have:=awa (c:=c) (s:=key A[i]) a;omega⟩) (λa _=>H a) A.length 0 acc (Nat.zero_add _) (by omega)).1
 rw [Ap] at h
 exact h
section
variable {κ:Type} [BEq κ] [LawfulBEq κ] {key:PV->κ}{c:κ->κ->Int}
theorem ad3 {k:κ}{l:List PV} (h:k∈l.map key):∃ x,fst key k l=some x:=by
 cases o:fst key k l with
 | some x=>exact ⟨x,rfl⟩
 | none=>obtain ⟨x,H,e⟩:=List.mem_map.1 h;exact absurd e (a4c o x H)
theorem atj {κ:Type} [BEq κ] {key:PV->κ}{both:PV->PV->List PV}{gone new:PV->PV}{A B:List PV}{n:Nat} (o:1<=n) (h:∀ x y,(both x y).length<=n) (k:κ):(blk key both gone new A B k).length<=n:=by
 unfold blk;cases fst key k A with
 | some x=>
  cases fst key k B with
  | some y=>exact h x y
  | none=>exact o
 | none=>
  cases fst key k B with
  | some y=>exact o
  | none=>exact Nat.zero_le _
theorem amn {o:Type}{g:o->List PV}{n:Nat} (h:∀ x,(g x).length<=n):∀ l:List o,(l.flatMap g).length<=n*l.length:=by
 intro l;induction l with
 | nil=>simp
 | cons x r H=>have:=h x;rw [List.flatMap_cons,Ak,Am,Nat.mul_add];omega
theorem afq {κ:Type}{key:PV->κ}{c:κ->κ->Int}{A B:List PV} (o:Key c) {k:κ} (h:k∈ab9 c key B (ab9 c key A [])):k∈A.map key\/k∈B.map key:=by
 rcases (ahe o).1 h with h | h
 ·exact Or.inr h
 ·rcases (ahe o).1 h with h | h
  ·exact Or.inl h
  ·cases h
end
theorem addB {y:List PV}{z:PV} (h:y.length<=100000000):decide (y.length+[z].length<=aaf)=true:=accO (by simp only [Am,Ao];omega)
theorem ax7 {a b:PV} (ha:OkMsg a) (hb:OkMsg b) (va:∀ x,x∈(a.fld 1).asList->1<=(x.fld 2).asInt/\(x.fld 2).asInt<=5) (vb:∀ x,x∈(b.fld 1).asList->1<=(x.fld 2).asInt/\(x.fld 2).asInt<=5):F31 0 a b=some (afa a b):=by
 have la:=ha.fields;have lb:=hb.fields;have hR:afa a b=mrgF cI kNum (act (aac a)) (λf=>chg 3 (aac a) (f.fld 0).asInt (f.fld 1).asStr []) (λf=>chg 4 (aac a) (f.fld 0).asInt [] (f.fld 1).asStr) (a.fld 1).asList (b.fld 1).asList:=rfl;rw [hR];generalize hA:(a.fld 1).asList=A at la va ⊢;generalize hB:(b.fld 1).asList=B at lb vb ⊢;have e1:=ack (step:=S31_4step 0) cI kNum (λi acc=>((),(),acc.map PV.int,A,(A.length:Int),((i:Nat):Int),a,b)) A (λacc=>((),(),acc.map PV.int,a,b)) (λi acc h M=>by
  simp only [S31_4step,S31_4,decL i _ h,Af,aab,Ag h,Ai,aae h,ajs acc _ (by omega),Aa,aax i (by omega),kNum]) (λacc=>by
  simp only [S31_4step,S31_4,decN,Ah]) [] (by simp only [Ao];omega)
 have l1:=acj (c:=cI) (key:=kNum) A [];rw [Ao] at l1;generalize hK:ab9 cI kNum A []=K at e1 l1;have e2:=ack (step:=S31_9step 0) cI kNum (λi acc=>((),(),acc.map PV.int,B,(B.length:Int),((i:Nat):Int),a,b)) B (λacc=>((),(),acc.map PV.int,a,b)) (λi acc h M=>by
  simp only [S31_9step,S31_9,decL i _ h,Af,aab,Ag h,Ai,aae h,ajs acc _ (by omega),Aa,aax i (by omega),kNum]) (λacc=>by
  simp only [S31_9step,S31_9,decN,Ah]) K (by omega)
 have l2:=acj (c:=cI) (key:=kNum) B K;have hm:∀ k,k∈ab9 cI kNum B K->k∈A.map kNum\/k∈B.map kNum:=λk H=>afq Key.cI (by rw [hK];exact H);unfold mrgF;rw [hK];generalize ab9 cI kNum B K=ks at e2 l2 hm;have fl:=amn (g:=blk kNum (act (aac a)) (λf=>chg 3 (aac a) (f.fld 0).asInt (f.fld 1).asStr []) (λf=>chg 4 (aac a) (f.fld 0).asInt [] (f.fld 1).asStr) A B) (n:=6) (λk=>atj (by omega) (λx y=>aop _ x y) k) ks;have e3:=aa1 (step:=S31_15step 0) (λi c=>((),(),c,ks.map PV.int,((ks.map PV.int).length:Int),((i:Nat):Int),a,b)) ks (blk kNum (act (aac a)) (λf=>chg 3 (aac a) (f.fld 0).asInt (f.fld 1).asStr []) (λf=>chg 4 (aac a) (f.fld 0).asInt [] (f.fld 1).asStr) A B) (λc=>(c,a,b)) 90000000 (λi c h J=>by
  have M:i<(ks.map PV.int).length:=by simpa using h
  have hg:(ks.map PV.int).getD i .bad=.int ks[i]:=by rw [aae M,List.getElem_map]
  have is:∀ n:Int,(PV.int n).asInt=n:=λ_=>rfl;have H:=hm _ (List.getElem_mem h);simp only [S31_15step,S31_15,decL i _ M,Af,aab,Ag M,Ai,hg,is,refF a _ ha.fields,refF b _ hb.fields,Aa,aax i (by omega),hA,hB];generalize ks[i]=k at H J ⊢;unfold dmem blk at*;cases I:fst kNum k A with
  | some x=>
   have kx:(x.fld 0).asInt=k:=(fst_key I:kNum x=k);cases o:fst kNum k B with
   | some y=>dsimp only;rw [I,o] at J;dsimp only at J;rw [Az,Ah,a7o _ (ha.field x (by rw [hA];exact aaz I)) (hb.field y (by rw [hB];exact aaz o)) (va x (aaz I)) (vb y (aaz o)),Aa];change (bif decide (c.length+(act (aac a) x y).length<=aaf) then _ else _)=_;rw [accO (by omega),Af];rfl
   | none=>dsimp only;rw [I,o] at J;rw [Ay,Af,addB (by omega),Af,kx];rfl
  | none=>
   cases o:fst kNum k B with
   | some y=>have ky:(y.fld 0).asInt=k:=(fst_key o:kNum y=k);dsimp only;rw [I,o] at J;rw [Az,Ah,Ay,Af,addB (by omega),Af,ky];rfl
   | none=>
    exfalso;rcases H with H | H
    ·obtain ⟨x,O⟩:=ad3 H;rw [I] at O;cases O
    ·obtain ⟨x,O⟩:=ad3 H;rw [o] at O;cases O) (λc=>by
  have hn:¬((ks.length:Int)<((ks.map PV.int).length:Int)):=by simp
  simp only [S31_15step,S31_15,An hn,Ah]) ks.length 0 [] (Nat.zero_add _) (by rw [Ap,Ao];omega)
 rw [Ap,Ba] at e3;have Z:aag 0 (S31_4step 0) ((),(),[],A,(A.length:Int),(0:Int),a,b)=_:=e1;have aa:aag 0 (S31_9step 0) ((),(),K.map PV.int,B,(B.length:Int),(0:Int),a,b)=_:=e2;have ab:aag 0 (S31_15step 0) ((),(),[],ks.map PV.int,((ks.map PV.int).length:Int),(0:Int),a,b)=_:=e3;unfold F31;dsimp only;rw [hA,Z,Aa];dsimp only;rw [hB,aa,Aa];dsimp only;rw [ab,Aa]
theorem a8b {a b:PV} (ha:OkEnum a) (hb:OkEnum b):F33 0 a b=some (aml a b):=by
 have la:=ha.items;have lb:=hb.items;have hR:aml a b=akq a b++mrgF cI abc (aif (aac a)) (λf=>chg 14 (aac a) (f.fld 1).asInt (f.fld 0).asStr []) (λf=>chg 15 (aac a) (f.fld 1).asInt [] (f.fld 0).asStr) (a.fld 2).asList (b.fld 2).asList:=rfl;rw [hR];generalize hA:(a.fld 2).asList=A at la ⊢;generalize hB:(b.fld 2).asList=B at lb ⊢;have e1:=ack (step:=S33_4step 0) cI abc (λi acc=>((),(),acc.map PV.int,A,(A.length:Int),((i:Nat):Int),a,b)) A (λacc=>((),(),acc.map PV.int,a,b)) (λi acc o O=>by
  simp only [S33_4step,S33_4,decL i _ o,Af,aab,Ag o,Ai,aae o,ajs acc _ (by omega),Aa,aax i (by omega),abc]) (λacc=>by
  simp only [S33_4step,S33_4,decN,Ah]) [] (by simp only [Ao];omega)
 have l1:=acj (c:=cI) (key:=abc) A [];rw [Ao] at l1;generalize hK:ab9 cI abc A []=K at e1 l1;have e2:=ack (step:=S33_9step 0) cI abc (λi acc=>((),(),acc.map PV.int,B,(B.length:Int),((i:Nat):Int),a,b)) B (λacc=>((),(),acc.map PV.int,a,b)) (λi acc o O=>by
  simp only [S33_9step,S33_9,decL i _ o,Af,aab,Ag o,Ai,aae o,ajs acc _ (by omega),Aa,aax i (by omega),abc]) (λacc=>by
  simp only [S33_9step,S33_9,decN,Ah]) K (by omega)
 have l2:=acj (c:=cI) (key:=abc) B K;have hm:∀ k,k∈ab9 cI abc B K->k∈A.map abc\/k∈B.map abc:=λk I=>afq Key.cI (by rw [hK];exact I);unfold mrgF;rw [hK];generalize ab9 cI abc B K=ks at e2 l2 hm;have fl:=amn (g:=blk abc (aif (aac a)) (λf=>chg 14 (aac a) (f.fld 1).asInt (f.fld 0).asStr []) (λf=>chg 15 (aac a) (f.fld 1).asInt [] (f.fld 0).asStr) A B) (n:=1) (λk=>atj (by omega) (λx y=>ab2 _ _) k) ks;have e3:=λ(H:List PV) (ad:H.length<=1)=>aa1 (step:=S33_17step 0) (λi c=>((),(),c,ks.map PV.int,((ks.map PV.int).length:Int),((i:Nat):Int),a,b)) ks (blk abc (aif (aac a)) (λf=>chg 14 (aac a) (f.fld 1).asInt (f.fld 0).asStr []) (λf=>chg 15 (aac a) (f.fld 1).asInt [] (f.fld 0).asStr) A B) (λc=>(c,a,b)) 90000000 (λi c o hc=>by
  have O:i<(ks.map PV.int).length:=by simpa using o
  have hg:(ks.map PV.int).getD i .bad=.int ks[i]:=by rw [aae O,List.getElem_map]
  have is:∀ n:Int,(PV.int n).asInt=n:=λ_=>rfl;have I:=hm _ (List.getElem_mem o);simp only [S33_17step,S33_17,decL i _ O,Af,aab,Ag O,Ai,hg,is,refI a _ ha.items,refI b _ hb.items,Aa,aax i (by omega),hA,hB];generalize ks[i]=k at I hc ⊢;have J:c.length<=100000000:=by omega
  unfold dmem blk at*;cases h1:fst abc k A with
  | some x=>
   have kx:(x.fld 1).asInt=k:=(fst_key h1:abc x=k);cases h2:fst abc k B with
   | some y=>
    dsimp only;rw [Az,Ah,Ah,addB J];unfold aif dif;cases !((x.fld 0).asStr==(y.fld 0).asStr) with
    | true=>rw [Af,Af,kx];rfl
    | false=>rw [Ah,Ah,List.append_nil]
   | none=>dsimp only;rw [Ay,Af,addB J,Af,kx];rfl
  | none=>
   cases h2:fst abc k B with
   | some y=>have ky:(y.fld 1).asInt=k:=(fst_key h2:abc y=k);dsimp only;rw [Az,Ah,Ay,Af,addB J,Af,ky];rfl
   | none=>
    exfalso;rcases I with I | I
    ·obtain ⟨x,Z⟩:=ad3 I;rw [h1] at Z;cases Z
    ·obtain ⟨x,Z⟩:=ad3 I;rw [h2] at Z;cases Z) (λc=>by
  have hn:¬((ks.length:Int)<((ks.map PV.int).length:Int)):=by simp
  simp only [S33_17step,S33_17,An hn,Ah]) ks.length 0 H (Nat.zero_add _) (by rw [Ap];omega)
 have aa:aag 0 (S33_4step 0) ((),(),[],A,(A.length:Int),(0:Int),a,b)=_:=e1;have ab:aag 0 (S33_9step 0) ((),(),K.map PV.int,B,(B.length:Int),(0:Int),a,b)=_:=e2;have M:∀ (H:List PV),H.length<=1->aag 0 (S33_17step 0) ((),(),H,ks.map PV.int,((ks.map PV.int).length:Int),(0:Int),a,b)=some (H++ks.flatMap (blk abc (aif (aac a)) (λf=>chg 14 (aac a) (f.fld 1).asInt (f.fld 0).asStr []) (λf=>chg 15 (aac a) (f.fld 1).asInt [] (f.fld 0).asStr) A B),a,b):=λH h=>by have:=e3 H h;rw [Ap] at this;exact this
 have o1:∀ x:PV,F74 0 x=some (akr (x.fld 1).asBool):=λx=>by unfold F74 akr;cases (x.fld 1).asBool<;>rfl
 unfold F33;dsimp only;rw [hA,aa,Aa];dsimp only;rw [hB,ab,Aa];dsimp only;unfold akq dif;cases ho:!((a.fld 1).asBool==(b.fld 1).asBool) with
 | true=>rw [Af,Af,o1,Aa,o1,Aa,M _ (by simp),Aa];rfl
 | false=>rw [Ah,Ah,M _ (by simp),Aa]
theorem a1c (d:Bt) (x y:PV):(agd d x y).length<=2:=by have:=ab2 (ne21 x y) (chg 21 d (-1) (acx x) (acx y));have:=ab2 (ne22 x y) (chg 22 d (-1) (shT x x) (shT x y));unfold agd;rw [Ak];omega
theorem strO {x y:Bt} (h:x.length+y.length<=1000000000):decide (x.length+y.length<=aao)=true:=Ag (by unfold aao;omega)
theorem ayn {a b:PV} (ha:OkSvc a) (hb:OkSvc b) (va:∀ x,x∈(a.fld 1).asList->1<=(x.fld 3).asInt/\(x.fld 3).asInt<=4) (vb:∀ x,x∈(b.fld 1).asList->1<=(x.fld 3).asInt/\(x.fld 3).asInt<=4):F35 0 a b=some (svcR a b):=by
 have la:=ha.meths;have lb:=hb.meths;have hR:svcR a b=mrgF cB aac (agd (aac a)) (λf=>chg 19 (aac a) (-1) (f.fld 0).asStr []) (λf=>chg 20 (aac a) (-1) [] (f.fld 0).asStr) (a.fld 1).asList (b.fld 1).asList:=rfl;rw [hR];generalize hA:(a.fld 1).asList=A at la va ⊢;generalize hB:(b.fld 1).asList=B at lb vb ⊢;have e1:=ack (step:=S35_4step 0) cB aac (λi acc=>((),(),acc.map PV.str,A,(A.length:Int),((i:Nat):Int),a,b)) A (λacc=>((),(),acc.map PV.str,a,b)) (λi acc h I=>by
  simp only [S35_4step,S35_4,decL i _ h,Af,aab,Ag h,Ai,aae h,ahj acc _ (by omega),Aa,aax i (by omega),aac]) (λacc=>by
  simp only [S35_4step,S35_4,decN,Ah]) [] (by simp only [Ao];omega)
 have l1:=acj (c:=cB) (key:=aac) A [];rw [Ao] at l1;generalize hK:ab9 cB aac A []=K at e1 l1;have e2:=ack (step:=S35_9step 0) cB aac (λi acc=>((),(),acc.map PV.str,B,(B.length:Int),((i:Nat):Int),a,b)) B (λacc=>((),(),acc.map PV.str,a,b)) (λi acc h I=>by
  simp only [S35_9step,S35_9,decL i _ h,Af,aab,Ag h,Ai,aae h,ahj acc _ (by omega),Aa,aax i (by omega),aac]) (λacc=>by
  simp only [S35_9step,S35_9,decN,Ah]) K (by omega)
 have l2:=acj (c:=cB) (key:=aac) B K;have hm:∀ k,k∈ab9 cB aac B K->k∈A.map aac\/k∈B.map aac:=λk o=>afq Key.cB (by rw [hK];exact o);unfold mrgF;rw [hK];generalize ab9 cB aac B K=ks at e2 l2 hm;have fl:=amn (g:=blk aac (agd (aac a)) (λf=>chg 19 (aac a) (-1) (f.fld 0).asStr []) (λf=>chg 20 (aac a) (-1) [] (f.fld 0).asStr) A B) (n:=2) (λk=>atj (by omega) (λx y=>a1c _ x y) k) ks;have e3:=aa1 (step:=S35_15step 0) (λi c=>((),(),c,ks.map PV.str,((ks.map PV.str).length:Int),((i:Nat):Int),a,b)) ks (blk aac (agd (aac a)) (λf=>chg 19 (aac a) (-1) (f.fld 0).asStr []) (λf=>chg 20 (aac a) (-1) [] (f.fld 0).asStr) A B) (λc=>(c,a,b)) 90000000 (λi c h hc=>by
  have I:i<(ks.map PV.str).length:=by simpa using h
  have hg:(ks.map PV.str).getD i .bad=.str ks[i]:=by rw [aae I,List.getElem_map]
  have is:∀ n:Bt,(PV.str n).asStr=n:=λ_=>rfl;have o:=hm _ (List.getElem_mem h);simp only [S35_15step,S35_15,decL i _ I,Af,aab,Ag I,Ai,hg,is,refT a _ ha.meths,refT b _ hb.meths,Aa,aax i (by omega),hA,hB];generalize ks[i]=k at o hc ⊢;have af:c.length<=90000000:=by omega
  unfold dmem blk at*;cases O:fst aac k A with
  | some x=>
   have M:(x.fld 0).asStr=k:=(fst_key O:aac x=k);have ox:=ha.meth x (by rw [hA];exact aaz O);cases H:fst aac k B with
   | some y=>
    have ky:(y.fld 0).asStr=k:=(fst_key H:aac y=k);have oy:=hb.meth y (by rw [hB];exact aaz H);have sx:=va x (aaz O);have sy:=vb y (aaz H);have k1:k.length<=1048576:=by rw [<-M];exact ox.name
    have x1:=ox.inn;have x2:=ox.out;have y1:=oy.inn;have y2:=oy.out;have w1:=ael (x.fld 3).asInt;have w2:=ael (y.fld 3).asInt;dsimp only;rw [Az,Ah,anm sx.1 sx.2,anm sy.1 sy.2];simp only [Aa];unfold agd;change (bif ne21 x y then _ else bif ne22 x y then _ else _)=_;rw [strO (show k.length+([58,32]:Bt).length<=1000000000 by simp only [Am,Ao];omega)];rw [strO (show (k++([58,32]:Bt)).length+(x.fld 1).asStr.length<=1000000000 by simp only [Ak,Am,Ao];omega)];rw [strO (show (k++([58,32]:Bt)).length+(y.fld 1).asStr.length<=1000000000 by simp only [Ak,Am,Ao];omega)];rw [strO (show ((k++([58,32]:Bt))++(x.fld 1).asStr).length+([32,45,62,32]:Bt).length<=1000000000 by simp only [Ak,Am,Ao];omega)];rw [strO (show ((k++([58,32]:Bt))++(y.fld 1).asStr).length+([32,45,62,32]:Bt).length<=1000000000 by simp only [Ak,Am,Ao];omega)];rw [strO (show (((k++([58,32]:Bt))++(x.fld 1).asStr)++([32,45,62,32]:Bt)).length+(x.fld 2).asStr.length<=1000000000 by simp only [Ak,Am,Ao];omega)];rw [strO (show (((k++([58,32]:Bt))++(y.fld 1).asStr)++([32,45,62,32]:Bt)).length+(y.fld 2).asStr.length<=1000000000 by simp only [Ak,Am,Ao];omega)];rw [strO (show (k++([58,32]:Bt)).length+(ags (x.fld 3).asInt).length<=1000000000 by simp only [Ak,Am,Ao];omega)];rw [strO (show (k++([58,32]:Bt)).length+(ags (y.fld 3).asInt).length<=1000000000 by simp only [Ak,Am,Ao];omega)];have ed:((x.fld 3).asInt != (y.fld 3).asInt)=ne22 x y:=rfl;have es:acx x=((k++[58,32])++(x.fld 1).asStr++[32,45,62,32])++(x.fld 2).asStr:=by unfold acx;rw [M]
    have et:acx y=((k++[58,32])++(y.fld 1).asStr++[32,45,62,32])++(y.fld 2).asStr:=by unfold acx;rw [ky]
    have eu:shT x x=(k++[58,32])++ags (x.fld 3).asInt:=by unfold shT;rw [M]
    have ev:shT x y=(k++[58,32])++ags (y.fld 3).asInt:=by unfold shT;rw [M]
    rw [es,et,eu,ev,ed];simp only [Af];have ad:∀ z:PV,decide (c.length+[z].length<=aaf)=true:=λz=>addB (by omega);have Z:∀ z z':PV,decide ((c++[z]).length+[z'].length<=aaf)=true:=λz z'=>addB (by rw [Ak];simp only [Am,Ao];omega);rw [ad,ad,Z];unfold dif;cases ne21 x y<;>cases ne22 x y<;>simp only [Af,Ah,List.append_nil,Ba,Ar]<;>rfl
   | none=>dsimp only;rw [Ay,Af,addB (by omega),Af,M];rfl
  | none=>
   cases H:fst aac k B with
   | some y=>have ky:(y.fld 0).asStr=k:=(fst_key H:aac y=k);dsimp only;rw [Az,Ah,Ay,Af,addB (by omega),Af,ky];rfl
   | none=>
    exfalso;rcases o with o | o
    ·obtain ⟨x,J⟩:=ad3 o;rw [O] at J;cases J
    ·obtain ⟨x,J⟩:=ad3 o;rw [H] at J;cases J) (λc=>by
  have hn:¬((ks.length:Int)<((ks.map PV.str).length:Int)):=by simp
  simp only [S35_15step,S35_15,An hn,Ah]) ks.length 0 [] (Nat.zero_add _) (by rw [Ap,Ao];omega)
 rw [Ap,Ba] at e3;have aa:aag 0 (S35_4step 0) ((),(),[],A,(A.length:Int),(0:Int),a,b)=_:=e1;have ab:aag 0 (S35_9step 0) ((),(),K.map PV.str,B,(B.length:Int),(0:Int),a,b)=_:=e2;have ae:aag 0 (S35_15step 0) ((),(),[],ks.map PV.str,((ks.map PV.str).length:Int),(0:Int),a,b)=_:=e3;unfold F35;dsimp only;rw [hA,aa,Aa];dsimp only;rw [hB,ab,Aa];dsimp only;rw [ae,Aa]
theorem a3r {a b:PV} (ha:SOk a) (hb:SOk b) (ua:SUp a) (ub:SUp b) (va:SchemaV a) (vb:SchemaV b) (ba:aat a<=1048576) (bb:aat b<=1048576):F12 0 a b=some (refC a b):=by
 have O:(refC a b).length<=90000000:=by rw [(af0 ua.uq ub.uq).length_eq];exact anh ua.uq ub.uq ba bb
 have ab:∀ {l:List PV}{x:PV},x∈l->∃ i,i<l.length/\l.getD i .bad=x:=λ{l x} I=>by obtain ⟨i,h,rfl⟩:=List.mem_iff_getElem.1 I;exact ⟨i,h,aae h⟩
 have aa:∀ {s:PV},SchemaV s->∀ m,m∈(s.fld 0).asList->∀ x,x∈(m.fld 1).asList->1<=(x.fld 2).asInt/\(x.fld 2).asInt<=5:=λ{s} v m hm x I=>by obtain ⟨i,h,rfl⟩:=ab hm;obtain ⟨j,hj,rfl⟩:=ab I;exact a7s (v.msg i h j hj).card
 have ad:∀ {s:PV},SchemaV s->∀ m,m∈(s.fld 2).asList->∀ x,x∈(m.fld 1).asList->1<=(x.fld 3).asInt/\(x.fld 3).asInt<=4:=λ{s} v m hm x I=>by obtain ⟨i,h,rfl⟩:=ab hm;obtain ⟨j,hj,rfl⟩:=ab I;exact (v.svc i h j hj).shape
 have ca:=aa va;have cb:=aa vb;have sa:=ad va;have sb:=ad vb;have hs:refC a b=mrgF cB aac afa (λm=>chg 1 (aac m) (-1) [] []) (λm=>chg 2 (aac m) (-1) [] []) (a.fld 0).asList (b.fld 0).asList++(mrgF cB aac aml (λm=>chg 11 (aac m) (-1) [] []) (λm=>chg 12 (aac m) (-1) [] []) (a.fld 1).asList (b.fld 1).asList++mrgF cB aac svcR (λm=>chg 17 (aac m) (-1) [] []) (λm=>chg 18 (aac m) (-1) [] []) (a.fld 2).asList (b.fld 2).asList):=rfl;rw [hs] at O ⊢;have am:=ha.len.m;have ae:=ha.len.e;have av:=ha.len.v;have bm:=hb.len.m;have be:=hb.len.e;have bv:=hb.len.v;have ar:=ha.msg;have aq:=ha.enum;have au:=ha.svc;have ax:=hb.msg;have aw:=hb.enum;have ay:=hb.svc;have RM:∀ n,F30 0 a n=some (dmem aac n (a.fld 0).asList zMsg):=λn=>refM a n am;have ai:∀ n,F30 0 b n=some (dmem aac n (b.fld 0).asList zMsg):=λn=>refM b n bm;have RE:∀ n,F32 0 a n=some (dmem aac n (a.fld 1).asList acz):=λn=>refE a n ae;have ah:∀ n,F32 0 b n=some (dmem aac n (b.fld 1).asList acz):=λn=>refE b n be;have RS:∀ n,F34 0 a n=some (dmem aac n (a.fld 2).asList zSvc):=λn=>refS a n av;have aj:∀ n,F34 0 b n=some (dmem aac n (b.fld 2).asList zSvc):=λn=>refS b n bv;generalize aI:(a.fld 0).asList=A0 at am ar ca RM O ⊢;generalize aJ:(a.fld 1).asList=A1 at ae aq RE O ⊢;generalize aK:(a.fld 2).asList=A2 at av au sa RS O ⊢;generalize aL:(b.fld 0).asList=B0 at bm ax cb ai O ⊢;generalize aM:(b.fld 1).asList=B1 at be aw ah O ⊢;generalize aN:(b.fld 2).asList=B2 at bv ay sb aj O ⊢;have e1:=ack (step:=S12_4step 0) cB aac (λi acc=>((),(),acc.map PV.str,[],[],A0,(A0.length:Int),((i:Nat):Int),a,b)) A0 (λacc=>((),(),acc.map PV.str,[],[],a,b)) (λi acc h Z=>by
  simp only [S12_4step,S12_4,decL i _ h,Af,aab,Ag h,Ai,aae h,ahj acc _ (by omega),Aa,aax i (by omega),aac]) (λacc=>by
  simp only [S12_4step,S12_4,decN,Ah]) [] (by simp only [Ao];omega)
 have l1:=acj (c:=cB) (key:=aac) A0 [];rw [Ao] at l1;generalize ak:ab9 cB aac A0 []=K0 at e1 l1;have e2:=ack (step:=S12_9step 0) cB aac (λi acc=>((),(),acc.map PV.str,[],[],B0,(B0.length:Int),((i:Nat):Int),a,b)) B0 (λacc=>((),(),acc.map PV.str,[],[],a,b)) (λi acc h Z=>by
  simp only [S12_9step,S12_9,decL i _ h,Af,aab,Ag h,Ai,aae h,ahj acc _ (by omega),Aa,aax i (by omega),aac]) (λacc=>by
  simp only [S12_9step,S12_9,decN,Ah]) K0 (by omega)
 have l2:=acj (c:=cB) (key:=aac) B0 K0;have an:∀ k,k∈ab9 cB aac B0 K0->k∈A0.map aac\/k∈B0.map aac:=λk o=>afq Key.cB (by rw [ak];exact o);unfold mrgF at O ⊢;rw [ak] at O ⊢;generalize ab9 cB aac B0 K0=H at e2 l2 an O ⊢;have e3:=ack (step:=S12_14step 0) cB aac (λi acc=>((),(),H.map PV.str,acc.map PV.str,[],A1,(A1.length:Int),((i:Nat):Int),a,b)) A1 (λacc=>((),(),H.map PV.str,acc.map PV.str,[],a,b)) (λi acc h Z=>by
  simp only [S12_14step,S12_14,decL i _ h,Af,aab,Ag h,Ai,aae h,ahj acc _ (by omega),Aa,aax i (by omega),aac]) (λacc=>by
  simp only [S12_14step,S12_14,decN,Ah]) [] (by simp only [Ao];omega)
 have l3:=acj (c:=cB) (key:=aac) A1 [];rw [Ao] at l3;generalize af:ab9 cB aac A1 []=K1 at e3 l3;have e4:=ack (step:=S12_19step 0) cB aac (λi acc=>((),(),H.map PV.str,acc.map PV.str,[],B1,(B1.length:Int),((i:Nat):Int),a,b)) B1 (λacc=>((),(),H.map PV.str,acc.map PV.str,[],a,b)) (λi acc h Z=>by
  simp only [S12_19step,S12_19,decL i _ h,Af,aab,Ag h,Ai,aae h,ahj acc _ (by omega),Aa,aax i (by omega),aac]) (λacc=>by
  simp only [S12_19step,S12_19,decN,Ah]) K1 (by omega)
 have l4:=acj (c:=cB) (key:=aac) B1 K1;have ao:∀ k,k∈ab9 cB aac B1 K1->k∈A1.map aac\/k∈B1.map aac:=λk o=>afq Key.cB (by rw [af];exact o);try rw [af] at O
 try rw [af]
 generalize ab9 cB aac B1 K1=es at e4 l4 ao O ⊢;have e5:=ack (step:=S12_24step 0) cB aac (λi acc=>((),(),H.map PV.str,es.map PV.str,acc.map PV.str,A2,(A2.length:Int),((i:Nat):Int),a,b)) A2 (λacc=>((),(),H.map PV.str,es.map PV.str,acc.map PV.str,a,b)) (λi acc h Z=>by
  simp only [S12_24step,S12_24,decL i _ h,Af,aab,Ag h,Ai,aae h,ahj acc _ (by omega),Aa,aax i (by omega),aac]) (λacc=>by
  simp only [S12_24step,S12_24,decN,Ah]) [] (by simp only [Ao];omega)
 have l5:=acj (c:=cB) (key:=aac) A2 [];rw [Ao] at l5;generalize ag:ab9 cB aac A2 []=K2 at e5 l5;have e6:=ack (step:=S12_29step 0) cB aac (λi acc=>((),(),H.map PV.str,es.map PV.str,acc.map PV.str,B2,(B2.length:Int),((i:Nat):Int),a,b)) B2 (λacc=>((),(),H.map PV.str,es.map PV.str,acc.map PV.str,a,b)) (λi acc h Z=>by
  simp only [S12_29step,S12_29,decL i _ h,Af,aab,Ag h,Ai,aae h,ahj acc _ (by omega),Aa,aax i (by omega),aac]) (λacc=>by
  simp only [S12_29step,S12_29,decN,Ah]) K2 (by omega)
 have l6:=acj (c:=cB) (key:=aac) B2 K2;have ap:∀ k,k∈ab9 cB aac B2 K2->k∈A2.map aac\/k∈B2.map aac:=λk o=>afq Key.cB (by rw [ag];exact o);try rw [ag] at O
 try rw [ag]
 generalize ab9 cB aac B2 K2=M at e6 l6 ap O ⊢;rw [Ak,Ak] at O;have f1:=aa1 (step:=S12_35step 0) (λi c=>((),(),es.map PV.str,M.map PV.str,c,H.map PV.str,((H.map PV.str).length:Int),((i:Nat):Int),a,b)) H (blk aac afa (λm=>chg 1 (aac m) (-1) [] []) (λm=>chg 2 (aac m) (-1) [] []) A0 B0) (λc=>((),(),es.map PV.str,M.map PV.str,c,a,b)) 90000000 (λi c h hc=>by
  have Z:i<(H.map PV.str).length:=by simpa using h
  have hg:(H.map PV.str).getD i .bad=.str H[i]:=by rw [aae Z,List.getElem_map]
  have is:∀ n:Bt,(PV.str n).asStr=n:=λ_=>rfl;have o:=an _ (List.getElem_mem h);simp only [S12_35step,S12_35,decL i _ Z,Af,aab,Ag Z,Ai,hg,is,RM,ai,Aa,aax i (by omega)];generalize H[i]=k at o hc ⊢;have al:c.length<=90000000:=by omega
  unfold dmem blk at*;cases h1:fst aac k A0 with
  | some x=>
   have kx:aac x=k:=(fst_key h1:aac x=k);cases J:fst aac k B0 with
   | some y=>dsimp only;rw [h1,J] at hc;dsimp only at hc;rw [Az,Ah,Ah,ax7 (ar x (aaz h1)) (ax y (aaz J)) (ca x (aaz h1)) (cb y (aaz J)),Aa,accO (by omega),Af]
   | none=>dsimp only;rw [Ay,Af,addB (by omega),Af,kx];rfl
  | none=>
   cases J:fst aac k B0 with
   | some y=>have ky:aac y=k:=(fst_key J:aac y=k);dsimp only;rw [Az,Ah,Ay,Af,addB (by omega),Af,ky];rfl
   | none=>
    exfalso;rcases o with o | o
    ·obtain ⟨x,I⟩:=ad3 o;rw [h1] at I;cases I
    ·obtain ⟨x,I⟩:=ad3 o;rw [J] at I;cases I) (λc=>by
  have hn:¬((H.length:Int)<((H.map PV.str).length:Int)):=by simp
  simp only [S12_35step,S12_35,An hn,Ah]) H.length 0 [] (Nat.zero_add _) (by rw [Ap,Ao];omega)
 rw [Ap,Ba] at f1;generalize H.flatMap (blk aac afa (λm=>chg 1 (aac m) (-1) [] []) (λm=>chg 2 (aac m) (-1) [] []) A0 B0)=r0 at f1 O ⊢;have f2:=aa1 (step:=S12_46step 0) (λi c=>((),(),M.map PV.str,c,es.map PV.str,((es.map PV.str).length:Int),((i:Nat):Int),a,b)) es (blk aac aml (λm=>chg 11 (aac m) (-1) [] []) (λm=>chg 12 (aac m) (-1) [] []) A1 B1) (λc=>((),(),M.map PV.str,c,a,b)) 90000000 (λi c h hc=>by
  have Z:i<(es.map PV.str).length:=by simpa using h
  have hg:(es.map PV.str).getD i .bad=.str es[i]:=by rw [aae Z,List.getElem_map]
  have is:∀ n:Bt,(PV.str n).asStr=n:=λ_=>rfl;have o:=ao _ (List.getElem_mem h);simp only [S12_46step,S12_46,decL i _ Z,Af,aab,Ag Z,Ai,hg,is,RE,ah,Aa,aax i (by omega)];generalize es[i]=k at o hc ⊢;have al:c.length<=90000000:=by omega
  unfold dmem blk at*;cases h1:fst aac k A1 with
  | some x=>
   have kx:aac x=k:=(fst_key h1:aac x=k);cases J:fst aac k B1 with
   | some y=>dsimp only;rw [h1,J] at hc;dsimp only at hc;rw [Az,Ah,Ah,a8b (aq x (aaz h1)) (aw y (aaz J)),Aa,accO (by omega),Af]
   | none=>dsimp only;rw [Ay,Af,addB (by omega),Af,kx];rfl
  | none=>
   cases J:fst aac k B1 with
   | some y=>have ky:aac y=k:=(fst_key J:aac y=k);dsimp only;rw [Az,Ah,Ay,Af,addB (by omega),Af,ky];rfl
   | none=>
    exfalso;rcases o with o | o
    ·obtain ⟨x,I⟩:=ad3 o;rw [h1] at I;cases I
    ·obtain ⟨x,I⟩:=ad3 o;rw [J] at I;cases I) (λc=>by
  have hn:¬((es.length:Int)<((es.map PV.str).length:Int)):=by simp
  simp only [S12_46step,S12_46,An hn,Ah]) es.length 0 r0 (Nat.zero_add _) (by rw [Ap];omega)
 rw [Ap] at f2;generalize es.flatMap (blk aac aml (λm=>chg 11 (aac m) (-1) [] []) (λm=>chg 12 (aac m) (-1) [] []) A1 B1)=r1 at f2 O ⊢;have f3:=aa1 (step:=S12_57step 0) (λi c=>((),(),c,M.map PV.str,((M.map PV.str).length:Int),((i:Nat):Int),a,b)) M (blk aac svcR (λm=>chg 17 (aac m) (-1) [] []) (λm=>chg 18 (aac m) (-1) [] []) A2 B2) (λc=>(c,a,b)) 90000000 (λi c h hc=>by
  have Z:i<(M.map PV.str).length:=by simpa using h
  have hg:(M.map PV.str).getD i .bad=.str M[i]:=by rw [aae Z,List.getElem_map]
  have is:∀ n:Bt,(PV.str n).asStr=n:=λ_=>rfl;have o:=ap _ (List.getElem_mem h);simp only [S12_57step,S12_57,decL i _ Z,Af,aab,Ag Z,Ai,hg,is,RS,aj,Aa,aax i (by omega)];generalize M[i]=k at o hc ⊢;have al:c.length<=90000000:=by omega
  unfold dmem blk at*;cases h1:fst aac k A2 with
  | some x=>
   have kx:aac x=k:=(fst_key h1:aac x=k);cases J:fst aac k B2 with
   | some y=>dsimp only;rw [h1,J] at hc;dsimp only at hc;rw [Az,Ah,Ah,ayn (au x (aaz h1)) (ay y (aaz J)) (sa x (aaz h1)) (sb y (aaz J)),Aa,accO (by omega),Af]
   | none=>dsimp only;rw [Ay,Af,addB (by omega),Af,kx];rfl
  | none=>
   cases J:fst aac k B2 with
   | some y=>have ky:aac y=k:=(fst_key J:aac y=k);dsimp only;rw [Az,Ah,Ay,Af,addB (by omega),Af,ky];rfl
   | none=>
    exfalso;rcases o with o | o
    ·obtain ⟨x,I⟩:=ad3 o;rw [h1] at I;cases I
    ·obtain ⟨x,I⟩:=ad3 o;rw [J] at I;cases I) (λc=>by
  have hn:¬((M.length:Int)<((M.map PV.str).length:Int)):=by simp
  simp only [S12_57step,S12_57,An hn,Ah]) M.length 0 (r0++r1) (Nat.zero_add _) (by rw [Ap,Ak];omega)
 rw [Ap] at f3;have az:aag 0 (S12_4step 0) ((),(),[],[],[],A0,(A0.length:Int),(0:Int),a,b)=_:=e1;have aA:aag 0 (S12_9step 0) ((),(),K0.map PV.str,[],[],B0,(B0.length:Int),(0:Int),a,b)=_:=e2;have aB:aag 0 (S12_14step 0) ((),(),H.map PV.str,[],[],A1,(A1.length:Int),(0:Int),a,b)=_:=e3;have aC:aag 0 (S12_19step 0) ((),(),H.map PV.str,K1.map PV.str,[],B1,(B1.length:Int),(0:Int),a,b)=_:=e4;have aD:aag 0 (S12_24step 0) ((),(),H.map PV.str,es.map PV.str,[],A2,(A2.length:Int),(0:Int),a,b)=_:=e5;have aE:aag 0 (S12_29step 0) ((),(),H.map PV.str,es.map PV.str,K2.map PV.str,B2,(B2.length:Int),(0:Int),a,b)=_:=e6;have aF:aag 0 (S12_35step 0) ((),(),es.map PV.str,M.map PV.str,[],H.map PV.str,((H.map PV.str).length:Int),(0:Int),a,b)=_:=f1;have aG:aag 0 (S12_46step 0) ((),(),M.map PV.str,r0,es.map PV.str,((es.map PV.str).length:Int),(0:Int),a,b)=_:=f2;have aH:aag 0 (S12_57step 0) ((),(),r0++r1,M.map PV.str,((M.map PV.str).length:Int),(0:Int),a,b)=_:=f3;unfold F12;dsimp only;rw [aI,az,Aa];dsimp only;rw [aL,aA,Aa];dsimp only;rw [aJ,aB,Aa];dsimp only;rw [aM,aC,Aa];dsimp only;rw [aK,aD,Aa];dsimp only;rw [aN,aE,Aa];dsimp only;rw [aF,Aa];dsimp only;rw [aG,Aa];dsimp only;rw [aH,Aa];dsimp only;rw [Ar]
theorem a2u {s:PV} (h:SOk s) (bs:aat s<=1048576):∃ v,F9 0 s=some v/\(v=true->SchemaV s):=a2v h bs
end Go.Ab
