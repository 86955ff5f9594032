/- The law EvolveCompares: the specification's comparing gives the same list. -/
import Derived.Test.YtodichgnoiaanaaGreatDoorPRefT
set_option linter.unusedVariables false
set_option linter.unusedSimpArgs false
set_option linter.unnecessarySimpa false
namespace Go.Ab
open Go
set_option maxRecDepth 100000
def insF {κ:Type} (c:κ->κ->Int) (s:κ) (a:Bool×List κ) (x:κ):Bool×List κ:=if c x s=0 then (true,a.2++[x]) else if a.1=false/\c s x<0 then (true,(a.2++[s])++[x]) else (a.1,a.2++[x])
theorem at2 {κ:Type}{c:κ->κ->Int}{s:κ}:∀ (l:List κ) (d:Bool) (h:List κ),(bif (l.foldl (insF c s) (d,h)).1 then (l.foldl (insF c s) (d,h)).2 else (l.foldl (insF c s) (d,h)).2++[s])=h++(bif d then l else insK c s l):=by
 intro l;induction l with
 | nil=>grind [insK]
 | cons x r o=>
  intro d h;rw [List.foldl_cons];by_cases z:c x s=0
  ·have e:insF c s (d,h) x=(true,h++[x]):=by unfold insF;rw [if_pos z]
   rw [e,o];grind [insK]
  ·cases d with
   | true=>
    have e:insF c s (true,h) x=(true,h++[x]):=by unfold insF;grind
    rw [e,o];simp
   | false=>
    by_cases H:c s x<0
    ·have e:insF c s (false,h) x=(true,(h++[s])++[x]):=by unfold insF;grind
     grind [insK]
    ·have e:insF c s (false,h) x=(false,h++[x]):=by unfold insF;grind
     grind [insK]
theorem a3n {κ:Type}{c:κ->κ->Int}{s x:κ}{a:Bool×List κ}{i:Nat} (h:a.2.length<=2*i):(insF c s a x).2.length<=2*(i+1):=by grind [insF]
theorem akc {κ:Type}{c:κ->κ->Int}{s:κ}:∀ (l:List κ),(insK c s l).length<=l.length+1:=by
 intro l;induction l with
 | nil=>simp [insK]
 | cons x r h=>grind [insK,List.length_cons]
theorem ach {κ:Type}{c:κ->κ->Int}{key:PV->κ}:∀ (l:List PV) (acc:List κ),(aca c key l acc).length<=acc.length+l.length:=by
 intro l;induction l with
 | nil=>grind [aca]
 | cons x r h=>grind [insK,akc,aca,List.length_cons]
theorem accO {y z:List PV} (h:y.length+z.length<=1000000000):decide (y.length+z.length<=aae)=true:=Ag (by unfold aae;omega)
theorem aft (ks:List Bo) (s:Bo) (h:ks.length<=100000000):F17 0 (ks.map PV.str) s=some ((insK cB s ks).map PV.str):=by
 have h1:=aa9 (step:=S17_5step 0) (λi (a:Bool×List Bo)=>(ks.map PV.str,s,a.2.map PV.str,a.1,((i:Nat):Int))) ks (insF cB s) (λa=>(s,a.2.map PV.str,a.1)) (λi a=>a.2.length<=2*i) (λi a hi O=>by
  have Z:i<(ks.map PV.str).length:=by simpa using hi
  have hg:(ks.map PV.str).getD i .bad=.str ks[i]:=by grind
  have is:∀ n:Bo,(PV.str n).asStr=n:=λ_=>rfl;have al:(a.2.map PV.str).length<=200000000:=by grind
  refine ⟨?_,a3n O⟩;simp only [S17_5step,S17_5,decL i _ Z,Af,aaa,Ag Z,Ai,hg,is,aat i (by omega),arp,accO (show (a.2.map PV.str).length+[PV.str ks[i]].length<=1000000000 by grind),accO (show (a.2.map PV.str).length+[PV.str s].length<=1000000000 by grind),accO (show (a.2.map PV.str++[PV.str s]).length+[PV.str ks[i]].length<=1000000000 by grind)];unfold insF;by_cases M:cB ks[i] s=0
  ·rw [if_pos M,show (ks[i]==s)=true by grind [cB_zero],Af];simp
  ·rw [if_neg M,show (ks[i]==s)=false by grind [cB_zero],Ah];have hb:(!(Op.bytesLess ks[i] s||false))=decide (cB s ks[i]<0):=by
    rw [<-a7o,Bool.or_false];grind [cB,decide_eq_true,decide_eq_false]
   grind) (λa O=>by
  have hn:¬((ks.length:Int)<((ks.map PV.str).length:Int)):=by simp
  simp only [S17_5step,S17_5,An hn,Ah]) ks.length 0 (false,[]) (Nat.zero_add _) (by simp)
 obtain ⟨J,I⟩:=h1;rw [Ap] at J I;have H:aaf 0 (S17_5step 0) (ks.map PV.str,s,[],false,(0:Int))=_:=J;have z:=at2 (c:=cB) (s:=s) ks false [];unfold F17;rw [H,Aa];generalize ks.foldl (insF cB s) (false,[])=r at I z;obtain ⟨d,o⟩:=r;dsimp only at I z ⊢;rw [A6,Ah] at z;rw [<-z];cases d with
 | true=>rfl
 | false=>rw [Av,Af,accO (by grind)];simp
theorem akn (ks:List Int) (s:Int) (h:ks.length<=100000000):F103 0 (ks.map PV.int) s=some ((insK cI s ks).map PV.int):=by
 have h1:=aa9 (step:=S103_5step 0) (λi (a:Bool×List Int)=>(ks.map PV.int,s,a.2.map PV.int,a.1,((i:Nat):Int))) ks (insF cI s) (λa=>(s,a.2.map PV.int,a.1)) (λi a=>a.2.length<=2*i) (λi a hi Z=>by
  have hl:i<(ks.map PV.int).length:=by simpa using hi
  have hg:(ks.map PV.int).getD i .bad=.int ks[i]:=by grind
  have is:∀ n:Int,(PV.int n).asInt=n:=λ_=>rfl;have al:(a.2.map PV.int).length<=200000000:=by grind
  refine ⟨?_,a3n Z⟩;simp only [S103_5step,S103_5,decL i _ hl,Af,aaa,Ag hl,Ai,hg,is,aat i (by omega),arp,accO (show (a.2.map PV.int).length+[PV.int ks[i]].length<=1000000000 by grind),accO (show (a.2.map PV.int).length+[PV.int s].length<=1000000000 by grind),accO (show (a.2.map PV.int++[PV.int s]).length+[PV.int ks[i]].length<=1000000000 by grind)];unfold insF;by_cases J:cI ks[i] s=0
  ·rw [if_pos J,show (ks[i]==s)=true by grind [cI_zero],Af];simp
  ·have M:ks[i]≠s:=λe=>J (cI_zero.2 e);rw [if_neg J,show (ks[i]==s)=false by simpa using M,Ah];have hb:decide (ks[i]>s)=decide (cI s ks[i]<0):=by
    unfold cI;grind
   grind) (λa Z=>by
  have hn:¬((ks.length:Int)<((ks.map PV.int).length:Int)):=by simp
  simp only [S103_5step,S103_5,An hn,Ah]) ks.length 0 (false,[]) (Nat.zero_add _) (by simp)
 obtain ⟨O,I⟩:=h1;rw [Ap] at O I;have H:aaf 0 (S103_5step 0) (ks.map PV.int,s,[],false,(0:Int))=_:=O;have z:=at2 (c:=cI) (s:=s) ks false [];unfold F103;rw [H,Aa];generalize ks.foldl (insF cI s) (false,[])=r at I z;obtain ⟨d,o⟩:=r;dsimp only at I z ⊢;rw [A6,Ah] at z;rw [<-z];cases d with
 | true=>rfl
 | false=>rw [Av,Af,accO (by grind)];simp
theorem refM (s:PV) (n:Bo) (h:(s.fld 0).asList.length<=1048576):F50 0 s n=some (dmem aad n (s.fld 0).asList zMsg):=by
 generalize H:(s.fld 0).asList=l at h;have z:=acj (step:=S50_3step 0) (λi=>(n,(),(),((i:Nat):Int),s,zMsg)) l (λx=>aad x==n) (λx=>.inl ((),true,s,x)) (.inr ((),s,zMsg)) (λi o=>by
  simp only [S50_3step,S50_3,H,decL i _ o,Af,aaa,Ag o,Ai,aag o,aat i (by omega),aad];grind) (by
  simp only [S50_3step,S50_3,H,decN,Ah]) l.length 0 (by omega)
 rw [Ap] at z;have I:aaf 0 (S50_3step 0) (n,(),(),(0:Int),s,zMsg)=_:=z;unfold F50;change (Option.bind (aaf 0 (S50_3step 0) (n,(),(),(0:Int),s,zMsg)) _)=_;rw [I];unfold dmem fst;cases l.find? (λx=>aad x==n)<;>rfl
theorem refE (s:PV) (n:Bo) (h:(s.fld 1).asList.length<=1048576):F52 0 s n=some (dmem aad n (s.fld 1).asList amv):=by
 generalize H:(s.fld 1).asList=l at h;have z:=acj (step:=S52_3step 0) (λi=>(n,(),(),((i:Nat):Int),s,amv)) l (λx=>aad x==n) (λx=>.inl ((),true,s,x)) (.inr ((),s,amv)) (λi o=>by
  simp only [S52_3step,S52_3,H,decL i _ o,Af,aaa,Ag o,Ai,aag o,aat i (by omega),aad];grind) (by
  simp only [S52_3step,S52_3,H,decN,Ah]) l.length 0 (by omega)
 rw [Ap] at z;have I:aaf 0 (S52_3step 0) (n,(),(),(0:Int),s,amv)=_:=z;unfold F52;change (Option.bind (aaf 0 (S52_3step 0) (n,(),(),(0:Int),s,amv)) _)=_;rw [I];unfold dmem fst;cases l.find? (λx=>aad x==n)<;>rfl
theorem refS (s:PV) (n:Bo) (h:(s.fld 2).asList.length<=1048576):F54 0 s n=some (dmem aad n (s.fld 2).asList zSvc):=by
 generalize H:(s.fld 2).asList=l at h;have z:=acj (step:=S54_3step 0) (λi=>(n,(),(),((i:Nat):Int),s,zSvc)) l (λx=>aad x==n) (λx=>.inl ((),true,s,x)) (.inr ((),s,zSvc)) (λi o=>by
  simp only [S54_3step,S54_3,H,decL i _ o,Af,aaa,Ag o,Ai,aag o,aat i (by omega),aad];grind) (by
  simp only [S54_3step,S54_3,H,decN,Ah]) l.length 0 (by omega)
 rw [Ap] at z;have I:aaf 0 (S54_3step 0) (n,(),(),(0:Int),s,zSvc)=_:=z;unfold F54;change (Option.bind (aaf 0 (S54_3step 0) (n,(),(),(0:Int),s,zSvc)) _)=_;rw [I];unfold dmem fst;cases l.find? (λx=>aad x==n)<;>rfl
theorem refF (s:PV) (n:Int) (h:(s.fld 1).asList.length<=1048576):F104 0 s n=some (dmem kNum n (s.fld 1).asList zFld):=by
 generalize H:(s.fld 1).asList=l at h;have z:=acj (step:=S104_3step 0) (λi=>(n,(),(),((i:Nat):Int),s,zFld)) l (λx=>kNum x==n) (λx=>.inl ((),true,s,x)) (.inr ((),s,zFld)) (λi o=>by
  simp only [S104_3step,S104_3,H,decL i _ o,Af,aaa,Ag o,Ai,aag o,aat i (by omega),kNum];grind) (by
  simp only [S104_3step,S104_3,H,decN,Ah]) l.length 0 (by omega)
 rw [Ap] at z;have I:aaf 0 (S104_3step 0) (n,(),(),(0:Int),s,zFld)=_:=z;unfold F104;change (Option.bind (aaf 0 (S104_3step 0) (n,(),(),(0:Int),s,zFld)) _)=_;rw [I];unfold dmem fst;cases l.find? (λx=>kNum x==n)<;>rfl
theorem refI (s:PV) (n:Int) (h:(s.fld 2).asList.length<=1048576):F107 0 s n=some (dmem abj n (s.fld 2).asList apz):=by
 generalize H:(s.fld 2).asList=l at h;have z:=acj (step:=S107_3step 0) (λi=>(n,(),(),((i:Nat):Int),s,apz)) l (λx=>abj x==n) (λx=>.inl ((),true,s,x)) (.inr ((),s,apz)) (λi o=>by
  simp only [S107_3step,S107_3,H,decL i _ o,Af,aaa,Ag o,Ai,aag o,aat i (by omega),abj];grind) (by
  simp only [S107_3step,S107_3,H,decN,Ah]) l.length 0 (by omega)
 rw [Ap] at z;have I:aaf 0 (S107_3step 0) (n,(),(),(0:Int),s,apz)=_:=z;unfold F107;change (Option.bind (aaf 0 (S107_3step 0) (n,(),(),(0:Int),s,apz)) _)=_;rw [I];unfold dmem fst;cases l.find? (λx=>abj x==n)<;>rfl
theorem refT (s:PV) (n:Bo) (h:(s.fld 1).asList.length<=1048576):F108 0 s n=some (dmem aad n (s.fld 1).asList ap0):=by
 generalize I:(s.fld 1).asList=l at h;have z:=acj (step:=S108_3step 0) (λi=>(n,(),l,(l.length:Int),((i:Nat):Int),s,ap0)) l (λx=>aad x==n) (λx=>.inl ((),true,s,x)) (.inr ((),s,ap0)) (λi o=>by
  simp only [S108_3step,S108_3,decL i _ o,Af,aaa,Ag o,Ai,aag o,aat i (by omega),aad];grind) (by
  simp only [S108_3step,S108_3,decN,Ah]) l.length 0 (by omega)
 rw [Ap] at z;have H:aaf 0 (S108_3step 0) (n,(),l,(l.length:Int),(0:Int),s,ap0)=_:=z;unfold F108;dsimp only;rw [I];change (Option.bind (aaf 0 (S108_3step 0) (n,(),l,(l.length:Int),(0:Int),s,ap0)) _)=_;rw [H];unfold dmem fst;cases l.find? (λx=>aad x==n)<;>rfl
theorem aqi {c:Int} (h:1<=c) (o:c<=5):F147 0 c=some (aiy c):=by
 have:c=1\/c=2\/c=3\/c=4\/c=5:=by omega
 rcases this with rfl | rfl | rfl | rfl | rfl<;>rfl
theorem aoy {c:Int} (h:1<=c) (o:c<=4):F109 0 c=some (ahd c):=by
 have:c=1\/c=2\/c=3\/c=4:=by omega
 rcases this with rfl | rfl | rfl | rfl<;>rfl
theorem a5n (k:Int):F181 0 k=some (kw k):=by
 unfold kw;by_cases h:k<1\/8<k
 ·grind [aqf,F181]
 ·rcases bce (k:=k) (by omega) (by omega) with rfl | rfl | rfl | rfl | rfl | rfl | rfl | rfl<;>kernel_rfl
theorem a5l (k:Int):F148 0 k=some (kw k):=by grind [F148,a5n,kw,aqf]
theorem aqk (f:PV) (h:ac7 (f.fld 7)):F149 0 f=some (litF f):=by grind [F149,litF,a5m,asBool]
theorem bbw {f:PV} (h:F61 0 f=some true):1<=(f.fld 2).asInt/\(f.fld 2).asInt<=5:=by unfold F61 at h;grind
theorem bbu (d:Bo) {a b:PV} (o:OkFld a) (z:OkFld b) (H:1<=(a.fld 2).asInt/\(a.fld 2).asInt<=5) (I:1<=(b.fld 2).asInt/\(b.fld 2).asInt<=5):F105 0 d a b=some (acw d a b):=by
 have J:(!(bif ((a.fld 4).fld 0).asInt==((b.fld 4).fld 0).asInt then (bif ((a.fld 4).fld 1).asStr==((b.fld 4).fld 1).asStr then true else false) else false))=ne6 a b:=by grind [ne6,bne,asInt]
 unfold F105 acw;dsimp only;simp only [aql _ o.type,aql _ z.type,aqi H.1 H.2,aqi I.1 I.2,a5l,aqk _ o.dflt,aqk _ z.dflt,Aa,J];change (bif ne5 a b then _ else _)=_;have M:((a.fld 2).asInt != (b.fld 2).asInt)=ne7 a b:=rfl;have O:((a.fld 3).asInt != (b.fld 3).asInt)=ne8 a b:=rfl;have Z:(!((a.fld 5).asStr==(b.fld 5).asStr))=ne9 a b:=rfl;have h:(bif (bif (bif (!((a.fld 6).asBool==(b.fld 6).asBool)) then true else (((a.fld 7).fld 0).asInt != ((b.fld 7).fld 0).asInt)) then true else (((a.fld 7).fld 1).asInt != ((b.fld 7).fld 1).asInt)) then true else (!(((a.fld 7).fld 2).asStr==((b.fld 7).fld 2).asStr)))=ne10 a b:=rfl;rw [M,O,Z,h];generalize ahi (a.fld 4)=t1;generalize ahi (b.fld 4)=t2;generalize aiy (a.fld 2).asInt=c1;generalize aiy (b.fld 2).asInt=c2;generalize kw (a.fld 3).asInt=k1;generalize kw (b.fld 3).asInt=k2;generalize litF a=l1;generalize litF b=l2;generalize (a.fld 0).asInt=n;generalize (a.fld 1).asStr=s1;generalize (b.fld 1).asStr=s2;generalize (a.fld 5).asStr=u1;generalize (b.fld 5).asStr=u2;cases ne5 a b<;>cases ne6 a b<;>cases ne7 a b<;>cases ne8 a b<;>cases ne9 a b<;>cases ne10 a b<;>rfl
theorem aci {I J κ:Type}{step:I->Option (I⊕J)} (c:κ->κ->Int) (key:PV->κ) (st:Nat->List κ->I) (A:List PV) (o:List κ->J)
 (H:∀ i acc (h:i<A.length),acc.length<=10000000->step (st i acc)=some (.inl (st (i+1) (insK c (key A[i]) acc)))) (z:∀ acc,step (st A.length acc)=some (.inr (o acc))) (acc:List κ) (Z:acc.length+A.length<=10000000):
 aa3 step (st 0 acc)=some (o (aca c key A acc)):=by
 have h:=(aa9 (step:=step) st A (λa x=>insK c (key x) a) o (λi a=>a.length<=acc.length+i) (λi a M O=>⟨H i a M (by omega),by grind [akc]⟩) (λa _=>z a) A.length 0 acc (Nat.zero_add _) (by omega)).1
 rw [Ap] at h
 exact h
section
variable {κ:Type} [BEq κ] [LawfulBEq κ] {key:PV->κ}{c:κ->κ->Int}
theorem ad9 {k:κ}{l:List PV} (h:k∈l.map key):∃ x,fst key k l=some x:=by
 cases o:fst key k l with
 | some x=>grind
 | none=>grind [absurd,a8f]
theorem av0 {κ:Type} [BEq κ] {key:PV->κ}{both:PV->PV->List PV}{gone new:PV->PV}{A B:List PV}{n:Nat} (o:1<=n) (h:∀ x y,(both x y).length<=n) (k:κ):(blk key both gone new A B k).length<=n:=by unfold blk;grind
theorem an2 {o:Type}{g:o->List PV}{n:Nat} (h:∀ x,(g x).length<=n):∀ l:List o,(l.flatMap g).length<=n*l.length:=by
 intro l;induction l with
 | nil=>simp
 | cons x r z=>grind [List.length_append,List.length_cons,Nat.mul_add]
theorem af8 {κ:Type}{key:PV->κ}{c:κ->κ->Int}{A B:List PV} (o:Key c) {k:κ} (h:k∈aca c key B (aca c key A [])):k∈A.map key\/k∈B.map key:=by grind [akf]
end
theorem addB {y:List PV}{z:PV} (h:y.length<=100000000):decide (y.length+[z].length<=aae)=true:=accO (by grind)
theorem a0p {a b:PV} (M:OkMsg a) (O:OkMsg b) (va:∀ x,x∈(a.fld 1).asList->1<=(x.fld 2).asInt/\(x.fld 2).asInt<=5) (vb:∀ x,x∈(b.fld 1).asList->1<=(x.fld 2).asInt/\(x.fld 2).asInt<=5):F51 0 a b=some (afr a b):=by
 have la:=M.fields;have lb:=O.fields;have hR:afr a b=mrgF cI kNum (acw (aad a)) (λf=>chg 3 (aad a) (f.fld 0).asInt (f.fld 1).asStr []) (λf=>chg 4 (aad a) (f.fld 0).asInt [] (f.fld 1).asStr) (a.fld 1).asList (b.fld 1).asList:=rfl;rw [hR];generalize hA:(a.fld 1).asList=A at la va ⊢;generalize hB:(b.fld 1).asList=B at lb vb ⊢;have e1:=aci (step:=S51_4step 0) cI kNum (λi acc=>((),(),acc.map PV.int,A,(A.length:Int),((i:Nat):Int),a,b)) A (λacc=>((),(),acc.map PV.int,a,b)) (λi acc h J=>by
  simp only [S51_4step,S51_4,decL i _ h,Af,aaa,Ag h,Ai,aag h,akn acc _ (by omega),Aa,aat i (by omega),kNum]) (λacc=>by
  simp only [S51_4step,S51_4,decN,Ah]) [] (by grind)
 have l1:=ach (c:=cI) (key:=kNum) A [];rw [Aw] at l1;generalize hK:aca cI kNum A []=K at e1 l1;have e2:=aci (step:=S51_9step 0) cI kNum (λi acc=>((),(),acc.map PV.int,B,(B.length:Int),((i:Nat):Int),a,b)) B (λacc=>((),(),acc.map PV.int,a,b)) (λi acc h J=>by
  simp only [S51_9step,S51_9,decL i _ h,Af,aaa,Ag h,Ai,aag h,akn acc _ (by omega),Aa,aat i (by omega),kNum]) (λacc=>by
  simp only [S51_9step,S51_9,decN,Ah]) K (by omega)
 have l2:=ach (c:=cI) (key:=kNum) B K;have Z:∀ k,k∈aca cI kNum B K->k∈A.map kNum\/k∈B.map kNum:=λk o=>af8 Key.cI (by grind);unfold mrgF;rw [hK];generalize aca cI kNum B K=ks at e2 l2 Z;have fl:=an2 (g:=blk kNum (acw (aad a)) (λf=>chg 3 (aad a) (f.fld 0).asInt (f.fld 1).asStr []) (λf=>chg 4 (aad a) (f.fld 0).asInt [] (f.fld 1).asStr) A B) (n:=6) (λk=>av0 (by omega) (λx y=>aqe _ x y) k) ks;have e3:=aba (step:=S51_15step 0) (λi c=>((),(),c,ks.map PV.int,((ks.map PV.int).length:Int),((i:Nat):Int),a,b)) ks (blk kNum (acw (aad a)) (λf=>chg 3 (aad a) (f.fld 0).asInt (f.fld 1).asStr []) (λf=>chg 4 (aad a) (f.fld 0).asInt [] (f.fld 1).asStr) A B) (λc=>(c,a,b)) 90000000 (λi c h I=>by
  have J:i<(ks.map PV.int).length:=by simpa using h
  have hg:(ks.map PV.int).getD i .bad=.int ks[i]:=by grind
  have is:∀ n:Int,(PV.int n).asInt=n:=λ_=>rfl;have o:=Z _ (List.getElem_mem h);simp only [S51_15step,S51_15,decL i _ J,Af,aaa,Ag J,Ai,hg,is,refF a _ M.fields,refF b _ O.fields,Aa,aat i (by omega),hA,hB];generalize ks[i]=k at o I ⊢;unfold dmem blk at*;cases H:fst kNum k A with
  | some x=>
   have kx:(x.fld 0).asInt=k:=(fst_key H:kNum x=k);cases z:fst kNum k B with
   | some y=>dsimp only;rw [H,z] at I;dsimp only at I;rw [Ay,Ah,bbu _ (M.field x (by grind [abf])) (O.field y (by grind [abf])) (va x (abf H)) (vb y (abf z)),Aa];change (bif decide (c.length+(acw (aad a) x y).length<=aae) then _ else _)=_;rw [accO (by omega),Af];rfl
   | none=>dsimp only;rw [H,z] at I;rw [Av,Af,addB (by omega),Af,kx];rfl
  | none=>
   cases z:fst kNum k B with
   | some y=>have ky:(y.fld 0).asInt=k:=(fst_key z:kNum y=k);dsimp only;rw [H,z] at I;rw [Ay,Ah,Av,Af,addB (by omega),Af,ky];rfl
   | none=>
    exfalso;rcases o with o | o
    ·obtain ⟨x,hx⟩:=ad9 o;grind
    ·obtain ⟨x,hx⟩:=ad9 o;grind) (λc=>by
  have hn:¬((ks.length:Int)<((ks.map PV.int).length:Int)):=by simp
  simp only [S51_15step,S51_15,An hn,Ah]) ks.length 0 [] (Nat.zero_add _) (by grind)
 grind [aaf,S51_4step,S51_9step,S51_15step,F51]
theorem bb5 {a b:PV} (ha:OkEnum a) (hb:OkEnum b):F53 0 a b=some (anz a b):=by
 have la:=ha.items;have lb:=hb.items;have hR:anz a b=alm a b++mrgF cI abj (ai0 (aad a)) (λf=>chg 14 (aad a) (f.fld 1).asInt (f.fld 0).asStr []) (λf=>chg 15 (aad a) (f.fld 1).asInt [] (f.fld 0).asStr) (a.fld 2).asList (b.fld 2).asList:=rfl;rw [hR];generalize hA:(a.fld 2).asList=A at la ⊢;generalize hB:(b.fld 2).asList=B at lb ⊢;have e1:=aci (step:=S53_4step 0) cI abj (λi acc=>((),(),acc.map PV.int,A,(A.length:Int),((i:Nat):Int),a,b)) A (λacc=>((),(),acc.map PV.int,a,b)) (λi acc o M=>by
  simp only [S53_4step,S53_4,decL i _ o,Af,aaa,Ag o,Ai,aag o,akn acc _ (by omega),Aa,aat i (by omega),abj]) (λacc=>by
  simp only [S53_4step,S53_4,decN,Ah]) [] (by grind)
 have l1:=ach (c:=cI) (key:=abj) A [];rw [Aw] at l1;generalize hK:aca cI abj A []=K at e1 l1;have e2:=aci (step:=S53_9step 0) cI abj (λi acc=>((),(),acc.map PV.int,B,(B.length:Int),((i:Nat):Int),a,b)) B (λacc=>((),(),acc.map PV.int,a,b)) (λi acc o M=>by
  simp only [S53_9step,S53_9,decL i _ o,Af,aaa,Ag o,Ai,aag o,akn acc _ (by omega),Aa,aat i (by omega),abj]) (λacc=>by
  simp only [S53_9step,S53_9,decN,Ah]) K (by omega)
 have l2:=ach (c:=cI) (key:=abj) B K;have hm:∀ k,k∈aca cI abj B K->k∈A.map abj\/k∈B.map abj:=λk I=>af8 Key.cI (by grind);unfold mrgF;rw [hK];generalize aca cI abj B K=ks at e2 l2 hm;have fl:=an2 (g:=blk abj (ai0 (aad a)) (λf=>chg 14 (aad a) (f.fld 1).asInt (f.fld 0).asStr []) (λf=>chg 15 (aad a) (f.fld 1).asInt [] (f.fld 0).asStr) A B) (n:=1) (λk=>av0 (by omega) (λx y=>ada _ _) k) ks;have e3:=λ(z:List PV) (aa:z.length<=1)=>aba (step:=S53_17step 0) (λi c=>((),(),c,ks.map PV.int,((ks.map PV.int).length:Int),((i:Nat):Int),a,b)) ks (blk abj (ai0 (aad a)) (λf=>chg 14 (aad a) (f.fld 1).asInt (f.fld 0).asStr []) (λf=>chg 15 (aad a) (f.fld 1).asInt [] (f.fld 0).asStr) A B) (λc=>(c,a,b)) 90000000 (λi c o hc=>by
  have M:i<(ks.map PV.int).length:=by simpa using o
  have hg:(ks.map PV.int).getD i .bad=.int ks[i]:=by grind
  have is:∀ n:Int,(PV.int n).asInt=n:=λ_=>rfl;have I:=hm _ (List.getElem_mem o);simp only [S53_17step,S53_17,decL i _ M,Af,aaa,Ag M,Ai,hg,is,refI a _ ha.items,refI b _ hb.items,Aa,aat i (by omega),hA,hB];generalize ks[i]=k at I hc ⊢;have H:c.length<=100000000:=by omega
  unfold dmem blk at*;cases h1:fst abj k A with
  | some x=>
   have kx:(x.fld 1).asInt=k:=(fst_key h1:abj x=k);cases h2:fst abj k B with
   | some y=>
    dsimp only;rw [Ay,Ah,Ah,addB H];unfold ai0 dif;cases !((x.fld 0).asStr==(y.fld 0).asStr) with
    | true=>rw [Af,Af,kx];rfl
    | false=>rw [Ah,Ah,List.append_nil]
   | none=>dsimp only;rw [Av,Af,addB H,Af,kx];rfl
  | none=>
   cases h2:fst abj k B with
   | some y=>have ky:(y.fld 1).asInt=k:=(fst_key h2:abj y=k);dsimp only;rw [Ay,Ah,Av,Af,addB H,Af,ky];rfl
   | none=>
    exfalso;rcases I with I | I
    ·obtain ⟨x,hx⟩:=ad9 I;grind
    ·obtain ⟨x,hx⟩:=ad9 I;grind) (λc=>by
  have hn:¬((ks.length:Int)<((ks.map PV.int).length:Int)):=by simp
  simp only [S53_17step,S53_17,An hn,Ah]) ks.length 0 z (Nat.zero_add _) (by grind)
 have O:aaf 0 (S53_4step 0) ((),(),[],A,(A.length:Int),(0:Int),a,b)=_:=e1;have Z:aaf 0 (S53_9step 0) ((),(),K.map PV.int,B,(B.length:Int),(0:Int),a,b)=_:=e2;have J:∀ (z:List PV),z.length<=1->aaf 0 (S53_17step 0) ((),(),z,ks.map PV.int,((ks.map PV.int).length:Int),(0:Int),a,b)=some (z++ks.flatMap (blk abj (ai0 (aad a)) (λf=>chg 14 (aad a) (f.fld 1).asInt (f.fld 0).asStr []) (λf=>chg 15 (aad a) (f.fld 1).asInt [] (f.fld 0).asStr) A B),a,b):=λz h=>by have:=e3 z h;rw [Ap] at this;exact this
 have o1:∀ x:PV,F106 0 x=some (amt (x.fld 1).asBool):=λx=>by grind [F106,amt,asBool]
 unfold F53;dsimp only;rw [hA,O,Aa];dsimp only;rw [hB,Z,Aa];dsimp only;unfold alm dif;cases ho:!((a.fld 1).asBool==(b.fld 1).asBool) with
 | true=>rw [Af,Af,o1,Aa,o1,Aa,J _ (by simp),Aa];rfl
 | false=>rw [Ah,Ah,J _ (by simp),Aa]
theorem a4x (d:Bo) (x y:PV):(ag1 d x y).length<=2:=by grind [ada,ne21,chg,adn,ne22,shT,ag1,List.length_append]
theorem strO {x y:Bo} (h:x.length+y.length<=1000000000):decide (x.length+y.length<=aam)=true:=Ag (by unfold aam;omega)
theorem a03 {a b:PV} (O:OkSvc a) (Z:OkSvc b) (va:∀ x,x∈(a.fld 1).asList->1<=(x.fld 3).asInt/\(x.fld 3).asInt<=4) (vb:∀ x,x∈(b.fld 1).asList->1<=(x.fld 3).asInt/\(x.fld 3).asInt<=4):F55 0 a b=some (svcR a b):=by
 have la:=O.meths;have lb:=Z.meths;have hR:svcR a b=mrgF cB aad (ag1 (aad a)) (λf=>chg 19 (aad a) (-1) (f.fld 0).asStr []) (λf=>chg 20 (aad a) (-1) [] (f.fld 0).asStr) (a.fld 1).asList (b.fld 1).asList:=rfl;rw [hR];generalize hA:(a.fld 1).asList=A at la va ⊢;generalize hB:(b.fld 1).asList=B at lb vb ⊢;have e1:=aci (step:=S55_4step 0) cB aad (λi acc=>((),(),acc.map PV.str,A,(A.length:Int),((i:Nat):Int),a,b)) A (λacc=>((),(),acc.map PV.str,a,b)) (λi acc h I=>by
  simp only [S55_4step,S55_4,decL i _ h,Af,aaa,Ag h,Ai,aag h,aft acc _ (by omega),Aa,aat i (by omega),aad]) (λacc=>by
  simp only [S55_4step,S55_4,decN,Ah]) [] (by grind)
 have l1:=ach (c:=cB) (key:=aad) A [];rw [Aw] at l1;generalize hK:aca cB aad A []=K at e1 l1;have e2:=aci (step:=S55_9step 0) cB aad (λi acc=>((),(),acc.map PV.str,B,(B.length:Int),((i:Nat):Int),a,b)) B (λacc=>((),(),acc.map PV.str,a,b)) (λi acc h I=>by
  simp only [S55_9step,S55_9,decL i _ h,Af,aaa,Ag h,Ai,aag h,aft acc _ (by omega),Aa,aat i (by omega),aad]) (λacc=>by
  simp only [S55_9step,S55_9,decN,Ah]) K (by omega)
 have l2:=ach (c:=cB) (key:=aad) B K;have hm:∀ k,k∈aca cB aad B K->k∈A.map aad\/k∈B.map aad:=λk o=>af8 Key.cB (by grind);unfold mrgF;rw [hK];generalize aca cB aad B K=ks at e2 l2 hm;have fl:=an2 (g:=blk aad (ag1 (aad a)) (λf=>chg 19 (aad a) (-1) (f.fld 0).asStr []) (λf=>chg 20 (aad a) (-1) [] (f.fld 0).asStr) A B) (n:=2) (λk=>av0 (by omega) (λx y=>a4x _ x y) k) ks;have e3:=aba (step:=S55_15step 0) (λi c=>((),(),c,ks.map PV.str,((ks.map PV.str).length:Int),((i:Nat):Int),a,b)) ks (blk aad (ag1 (aad a)) (λf=>chg 19 (aad a) (-1) (f.fld 0).asStr []) (λf=>chg 20 (aad a) (-1) [] (f.fld 0).asStr) A B) (λc=>(c,a,b)) 90000000 (λi c h hc=>by
  have I:i<(ks.map PV.str).length:=by simpa using h
  have hg:(ks.map PV.str).getD i .bad=.str ks[i]:=by grind
  have is:∀ n:Bo,(PV.str n).asStr=n:=λ_=>rfl;have o:=hm _ (List.getElem_mem h);simp only [S55_15step,S55_15,decL i _ I,Af,aaa,Ag I,Ai,hg,is,refT a _ O.meths,refT b _ Z.meths,Aa,aat i (by omega),hA,hB];generalize ks[i]=k at o hc ⊢;have aa:c.length<=90000000:=by omega
  unfold dmem blk at*;cases h1:fst aad k A with
  | some x=>
   have J:(x.fld 0).asStr=k:=(fst_key h1:aad x=k);have ox:=O.meth x (by grind [abf]);cases H:fst aad k B with
   | some y=>
    have ky:(y.fld 0).asStr=k:=(fst_key H:aad y=k);have oy:=Z.meth y (by grind [abf]);have sx:=va x (abf h1);have sy:=vb y (abf H);have k1:k.length<=1048576:=by rw [<-J];exact ox.name
    have x1:=ox.inn;have x2:=ox.out;have y1:=oy.inn;have y2:=oy.out;have w1:=aex (x.fld 3).asInt;have w2:=aex (y.fld 3).asInt;dsimp only;rw [Ay,Ah,aoy sx.1 sx.2,aoy sy.1 sy.2];simp only [Aa];unfold ag1;change (bif ne21 x y then _ else bif ne22 x y then _ else _)=_;rw [strO (show k.length+([58,32]:Bo).length<=1000000000 by grind)];rw [strO (show (k++([58,32]:Bo)).length+(x.fld 1).asStr.length<=1000000000 by grind)];rw [strO (show (k++([58,32]:Bo)).length+(y.fld 1).asStr.length<=1000000000 by grind)];rw [strO (show ((k++([58,32]:Bo))++(x.fld 1).asStr).length+([32,45,62,32]:Bo).length<=1000000000 by grind)];rw [strO (show ((k++([58,32]:Bo))++(y.fld 1).asStr).length+([32,45,62,32]:Bo).length<=1000000000 by grind)];rw [strO (show (((k++([58,32]:Bo))++(x.fld 1).asStr)++([32,45,62,32]:Bo)).length+(x.fld 2).asStr.length<=1000000000 by grind)];rw [strO (show (((k++([58,32]:Bo))++(y.fld 1).asStr)++([32,45,62,32]:Bo)).length+(y.fld 2).asStr.length<=1000000000 by grind)];rw [strO (show (k++([58,32]:Bo)).length+(ahd (x.fld 3).asInt).length<=1000000000 by grind)];rw [strO (show (k++([58,32]:Bo)).length+(ahd (y.fld 3).asInt).length<=1000000000 by grind)];have ed:((x.fld 3).asInt != (y.fld 3).asInt)=ne22 x y:=rfl;have es:adn x=((k++[58,32])++(x.fld 1).asStr++[32,45,62,32])++(x.fld 2).asStr:=by grind [adn]
    have et:adn y=((k++[58,32])++(y.fld 1).asStr++[32,45,62,32])++(y.fld 2).asStr:=by grind [adn]
    have eu:shT x x=(k++[58,32])++ahd (x.fld 3).asInt:=by unfold shT;rw [J]
    have ev:shT x y=(k++[58,32])++ahd (y.fld 3).asInt:=by unfold shT;rw [J]
    rw [es,et,eu,ev,ed];simp only [Af];have ad:∀ z:PV,decide (c.length+[z].length<=aae)=true:=λz=>addB (by omega);have M:∀ z z':PV,decide ((c++[z]).length+[z'].length<=aae)=true:=λz z'=>addB (by grind);rw [ad,ad,M];unfold dif;cases ne21 x y<;>cases ne22 x y<;>simp only [Af,Ah,List.append_nil,A6,As]<;>rfl
   | none=>dsimp only;rw [Av,Af,addB (by omega),Af,J];rfl
  | none=>
   cases H:fst aad k B with
   | some y=>have ky:(y.fld 0).asStr=k:=(fst_key H:aad y=k);dsimp only;rw [Ay,Ah,Av,Af,addB (by omega),Af,ky];rfl
   | none=>
    exfalso;rcases o with o | o
    ·obtain ⟨x,hx⟩:=ad9 o;grind
    ·obtain ⟨x,hx⟩:=ad9 o;grind) (λc=>by
  have hn:¬((ks.length:Int)<((ks.map PV.str).length:Int)):=by simp
  simp only [S55_15step,S55_15,An hn,Ah]) ks.length 0 [] (Nat.zero_add _) (by grind)
 grind [aaf,S55_4step,S55_9step,S55_15step,F55]
theorem a7u {a b:PV} (ha:SOk a) (hb:SOk b) (ua:SUp a) (ub:SUp b) (va:SchemaV a) (vb:SchemaV b) (ba:aaq a<=1048576) (bb:aaq b<=1048576):F18 0 a b=some (refC a b):=by
 have I:(refC a b).length<=90000000:=by rw [(aov ua.uq ub.uq).length_eq];exact aw6 ua.uq ub.uq ba bb
 have aa:∀ {l:List PV}{x:PV},x∈l->∃ i,i<l.length/\l.getD i .bad=x:=λ{l x} hx=>by obtain ⟨i,h,rfl⟩:=List.mem_iff_getElem.1 hx;exact ⟨i,h,aag h⟩
 have M:∀ {s:PV},SchemaV s->∀ m,m∈(s.fld 0).asList->∀ x,x∈(m.fld 1).asList->1<=(x.fld 2).asInt/\(x.fld 2).asInt<=5:=λ{s} v m hm x hx=>by obtain ⟨i,h,rfl⟩:=aa hm;obtain ⟨j,hj,rfl⟩:=aa hx;exact bbw (v.msg i h j hj).card
 have ab:∀ {s:PV},SchemaV s->∀ m,m∈(s.fld 2).asList->∀ x,x∈(m.fld 1).asList->1<=(x.fld 3).asInt/\(x.fld 3).asInt<=4:=λ{s} v m hm x hx=>by obtain ⟨i,h,rfl⟩:=aa hm;obtain ⟨j,hj,rfl⟩:=aa hx;exact (v.svc i h j hj).shape
 have ca:=M va;have cb:=M vb;have sa:=ab va;have sb:=ab vb;have hs:refC a b=mrgF cB aad afr (λm=>chg 1 (aad m) (-1) [] []) (λm=>chg 2 (aad m) (-1) [] []) (a.fld 0).asList (b.fld 0).asList++(mrgF cB aad anz (λm=>chg 11 (aad m) (-1) [] []) (λm=>chg 12 (aad m) (-1) [] []) (a.fld 1).asList (b.fld 1).asList++mrgF cB aad svcR (λm=>chg 17 (aad m) (-1) [] []) (λm=>chg 18 (aad m) (-1) [] []) (a.fld 2).asList (b.fld 2).asList):=rfl;rw [hs] at I ⊢;have am:=ha.len.m;have ae:=ha.len.e;have av:=ha.len.v;have bm:=hb.len.m;have be:=hb.len.e;have bv:=hb.len.v;have ap:=ha.msg;have ao:=ha.enum;have aq:=ha.svc;have au:=hb.msg;have ar:=hb.enum;have aw:=hb.svc;have RM:∀ n,F50 0 a n=some (dmem aad n (a.fld 0).asList zMsg):=λn=>refM a n am;have af:∀ n,F50 0 b n=some (dmem aad n (b.fld 0).asList zMsg):=λn=>refM b n bm;have RE:∀ n,F52 0 a n=some (dmem aad n (a.fld 1).asList amv):=λn=>refE a n ae;have ad:∀ n,F52 0 b n=some (dmem aad n (b.fld 1).asList amv):=λn=>refE b n be;have RS:∀ n,F54 0 a n=some (dmem aad n (a.fld 2).asList zSvc):=λn=>refS a n av;have ag:∀ n,F54 0 b n=some (dmem aad n (b.fld 2).asList zSvc):=λn=>refS b n bv;generalize aH:(a.fld 0).asList=A0 at am ap ca RM I ⊢;generalize aI:(a.fld 1).asList=A1 at ae ao RE I ⊢;generalize aJ:(a.fld 2).asList=A2 at av aq sa RS I ⊢;generalize aK:(b.fld 0).asList=Z at bm au cb af I ⊢;generalize aL:(b.fld 1).asList=B1 at be ar ad I ⊢;generalize aM:(b.fld 2).asList=B2 at bv aw sb ag I ⊢;have e1:=aci (step:=S18_4step 0) cB aad (λi acc=>((),(),acc.map PV.str,[],[],A0,(A0.length:Int),((i:Nat):Int),a,b)) A0 (λacc=>((),(),acc.map PV.str,[],[],a,b)) (λi acc h O=>by
  simp only [S18_4step,S18_4,decL i _ h,Af,aaa,Ag h,Ai,aag h,aft acc _ (by omega),Aa,aat i (by omega),aad]) (λacc=>by
  simp only [S18_4step,S18_4,decN,Ah]) [] (by grind)
 have l1:=ach (c:=cB) (key:=aad) A0 [];rw [Aw] at l1;generalize ax:aca cB aad A0 []=K0 at e1 l1;have e2:=aci (step:=S18_9step 0) cB aad (λi acc=>((),(),acc.map PV.str,[],[],Z,(Z.length:Int),((i:Nat):Int),a,b)) Z (λacc=>((),(),acc.map PV.str,[],[],a,b)) (λi acc h O=>by
  simp only [S18_9step,S18_9,decL i _ h,Af,aaa,Ag h,Ai,aag h,aft acc _ (by omega),Aa,aat i (by omega),aad]) (λacc=>by
  simp only [S18_9step,S18_9,decN,Ah]) K0 (by omega)
 have l2:=ach (c:=cB) (key:=aad) Z K0;have ak:∀ k,k∈aca cB aad Z K0->k∈A0.map aad\/k∈Z.map aad:=λk z=>af8 Key.cB (by grind);unfold mrgF at I ⊢;rw [ax] at I ⊢;generalize aca cB aad Z K0=o at e2 l2 ak I ⊢;have e3:=aci (step:=S18_14step 0) cB aad (λi acc=>((),(),o.map PV.str,acc.map PV.str,[],A1,(A1.length:Int),((i:Nat):Int),a,b)) A1 (λacc=>((),(),o.map PV.str,acc.map PV.str,[],a,b)) (λi acc h O=>by
  simp only [S18_14step,S18_14,decL i _ h,Af,aaa,Ag h,Ai,aag h,aft acc _ (by omega),Aa,aat i (by omega),aad]) (λacc=>by
  simp only [S18_14step,S18_14,decN,Ah]) [] (by grind)
 have l3:=ach (c:=cB) (key:=aad) A1 [];rw [Aw] at l3;generalize ah:aca cB aad A1 []=K1 at e3 l3;have e4:=aci (step:=S18_19step 0) cB aad (λi acc=>((),(),o.map PV.str,acc.map PV.str,[],B1,(B1.length:Int),((i:Nat):Int),a,b)) B1 (λacc=>((),(),o.map PV.str,acc.map PV.str,[],a,b)) (λi acc h O=>by
  simp only [S18_19step,S18_19,decL i _ h,Af,aaa,Ag h,Ai,aag h,aft acc _ (by omega),Aa,aat i (by omega),aad]) (λacc=>by
  simp only [S18_19step,S18_19,decN,Ah]) K1 (by omega)
 have l4:=ach (c:=cB) (key:=aad) B1 K1;have al:∀ k,k∈aca cB aad B1 K1->k∈A1.map aad\/k∈B1.map aad:=λk z=>af8 Key.cB (by grind);try rw [ah] at I
 try rw [ah]
 generalize aca cB aad B1 K1=es at e4 l4 al I ⊢;have e5:=aci (step:=S18_24step 0) cB aad (λi acc=>((),(),o.map PV.str,es.map PV.str,acc.map PV.str,A2,(A2.length:Int),((i:Nat):Int),a,b)) A2 (λacc=>((),(),o.map PV.str,es.map PV.str,acc.map PV.str,a,b)) (λi acc h O=>by
  simp only [S18_24step,S18_24,decL i _ h,Af,aaa,Ag h,Ai,aag h,aft acc _ (by omega),Aa,aat i (by omega),aad]) (λacc=>by
  simp only [S18_24step,S18_24,decN,Ah]) [] (by grind)
 have l5:=ach (c:=cB) (key:=aad) A2 [];rw [Aw] at l5;generalize ai:aca cB aad A2 []=K2 at e5 l5;have e6:=aci (step:=S18_29step 0) cB aad (λi acc=>((),(),o.map PV.str,es.map PV.str,acc.map PV.str,B2,(B2.length:Int),((i:Nat):Int),a,b)) B2 (λacc=>((),(),o.map PV.str,es.map PV.str,acc.map PV.str,a,b)) (λi acc h O=>by
  simp only [S18_29step,S18_29,decL i _ h,Af,aaa,Ag h,Ai,aag h,aft acc _ (by omega),Aa,aat i (by omega),aad]) (λacc=>by
  simp only [S18_29step,S18_29,decN,Ah]) K2 (by omega)
 have l6:=ach (c:=cB) (key:=aad) B2 K2;have an:∀ k,k∈aca cB aad B2 K2->k∈A2.map aad\/k∈B2.map aad:=λk z=>af8 Key.cB (by grind);try rw [ai] at I
 try rw [ai]
 generalize aca cB aad B2 K2=H at e6 l6 an I ⊢;rw [Al,Al] at I;have f1:=aba (step:=S18_35step 0) (λi c=>((),(),es.map PV.str,H.map PV.str,c,o.map PV.str,((o.map PV.str).length:Int),((i:Nat):Int),a,b)) o (blk aad afr (λm=>chg 1 (aad m) (-1) [] []) (λm=>chg 2 (aad m) (-1) [] []) A0 Z) (λc=>((),(),es.map PV.str,H.map PV.str,c,a,b)) 90000000 (λi c h hc=>by
  have O:i<(o.map PV.str).length:=by simpa using h
  have hg:(o.map PV.str).getD i .bad=.str o[i]:=by grind
  have is:∀ n:Bo,(PV.str n).asStr=n:=λ_=>rfl;have z:=ak _ (List.getElem_mem h);simp only [S18_35step,S18_35,decL i _ O,Af,aaa,Ag O,Ai,hg,is,RM,af,Aa,aat i (by omega)];generalize o[i]=k at z hc ⊢;have aj:c.length<=90000000:=by omega
  unfold dmem blk at*;cases h1:fst aad k A0 with
  | some x=>
   have kx:aad x=k:=(fst_key h1:aad x=k);cases J:fst aad k Z with
   | some y=>dsimp only;rw [h1,J] at hc;dsimp only at hc;rw [Ay,Ah,Ah,a0p (ap x (abf h1)) (au y (abf J)) (ca x (abf h1)) (cb y (abf J)),Aa,accO (by omega),Af]
   | none=>dsimp only;rw [Av,Af,addB (by omega),Af,kx];rfl
  | none=>
   cases J:fst aad k Z with
   | some y=>have ky:aad y=k:=(fst_key J:aad y=k);dsimp only;rw [Ay,Ah,Av,Af,addB (by omega),Af,ky];rfl
   | none=>
    exfalso;rcases z with z | z
    ·obtain ⟨x,hx⟩:=ad9 z;grind
    ·obtain ⟨x,hx⟩:=ad9 z;grind) (λc=>by
  have hn:¬((o.length:Int)<((o.map PV.str).length:Int)):=by simp
  simp only [S18_35step,S18_35,An hn,Ah]) o.length 0 [] (Nat.zero_add _) (by grind)
 rw [Ap,A6] at f1;generalize o.flatMap (blk aad afr (λm=>chg 1 (aad m) (-1) [] []) (λm=>chg 2 (aad m) (-1) [] []) A0 Z)=r0 at f1 I ⊢;have f2:=aba (step:=S18_46step 0) (λi c=>((),(),H.map PV.str,c,es.map PV.str,((es.map PV.str).length:Int),((i:Nat):Int),a,b)) es (blk aad anz (λm=>chg 11 (aad m) (-1) [] []) (λm=>chg 12 (aad m) (-1) [] []) A1 B1) (λc=>((),(),H.map PV.str,c,a,b)) 90000000 (λi c h hc=>by
  have O:i<(es.map PV.str).length:=by simpa using h
  have hg:(es.map PV.str).getD i .bad=.str es[i]:=by grind
  have is:∀ n:Bo,(PV.str n).asStr=n:=λ_=>rfl;have z:=al _ (List.getElem_mem h);simp only [S18_46step,S18_46,decL i _ O,Af,aaa,Ag O,Ai,hg,is,RE,ad,Aa,aat i (by omega)];generalize es[i]=k at z hc ⊢;have aj:c.length<=90000000:=by omega
  unfold dmem blk at*;cases h1:fst aad k A1 with
  | some x=>
   have kx:aad x=k:=(fst_key h1:aad x=k);cases J:fst aad k B1 with
   | some y=>dsimp only;rw [h1,J] at hc;dsimp only at hc;rw [Ay,Ah,Ah,bb5 (ao x (abf h1)) (ar y (abf J)),Aa,accO (by omega),Af]
   | none=>dsimp only;rw [Av,Af,addB (by omega),Af,kx];rfl
  | none=>
   cases J:fst aad k B1 with
   | some y=>have ky:aad y=k:=(fst_key J:aad y=k);dsimp only;rw [Ay,Ah,Av,Af,addB (by omega),Af,ky];rfl
   | none=>
    exfalso;rcases z with z | z
    ·obtain ⟨x,hx⟩:=ad9 z;grind
    ·obtain ⟨x,hx⟩:=ad9 z;grind) (λc=>by
  have hn:¬((es.length:Int)<((es.map PV.str).length:Int)):=by simp
  simp only [S18_46step,S18_46,An hn,Ah]) es.length 0 r0 (Nat.zero_add _) (by grind)
 rw [Ap] at f2;generalize es.flatMap (blk aad anz (λm=>chg 11 (aad m) (-1) [] []) (λm=>chg 12 (aad m) (-1) [] []) A1 B1)=r1 at f2 I ⊢;have f3:=aba (step:=S18_57step 0) (λi c=>((),(),c,H.map PV.str,((H.map PV.str).length:Int),((i:Nat):Int),a,b)) H (blk aad svcR (λm=>chg 17 (aad m) (-1) [] []) (λm=>chg 18 (aad m) (-1) [] []) A2 B2) (λc=>(c,a,b)) 90000000 (λi c h hc=>by
  have O:i<(H.map PV.str).length:=by simpa using h
  have hg:(H.map PV.str).getD i .bad=.str H[i]:=by grind
  have is:∀ n:Bo,(PV.str n).asStr=n:=λ_=>rfl;have z:=an _ (List.getElem_mem h);simp only [S18_57step,S18_57,decL i _ O,Af,aaa,Ag O,Ai,hg,is,RS,ag,Aa,aat i (by omega)];generalize H[i]=k at z hc ⊢;have aj:c.length<=90000000:=by omega
  unfold dmem blk at*;cases h1:fst aad k A2 with
  | some x=>
   have kx:aad x=k:=(fst_key h1:aad x=k);cases J:fst aad k B2 with
   | some y=>dsimp only;rw [h1,J] at hc;dsimp only at hc;rw [Ay,Ah,Ah,a03 (aq x (abf h1)) (aw y (abf J)) (sa x (abf h1)) (sb y (abf J)),Aa,accO (by omega),Af]
   | none=>dsimp only;rw [Av,Af,addB (by omega),Af,kx];rfl
  | none=>
   cases J:fst aad k B2 with
   | some y=>have ky:aad y=k:=(fst_key J:aad y=k);dsimp only;rw [Ay,Ah,Av,Af,addB (by omega),Af,ky];rfl
   | none=>
    exfalso;rcases z with z | z
    ·obtain ⟨x,hx⟩:=ad9 z;grind
    ·obtain ⟨x,hx⟩:=ad9 z;grind) (λc=>by
  have hn:¬((H.length:Int)<((H.map PV.str).length:Int)):=by simp
  simp only [S18_57step,S18_57,An hn,Ah]) H.length 0 (r0++r1) (Nat.zero_add _) (by grind)
 rw [Ap] at f3;have ay:aaf 0 (S18_4step 0) ((),(),[],[],[],A0,(A0.length:Int),(0:Int),a,b)=_:=e1;have az:aaf 0 (S18_9step 0) ((),(),K0.map PV.str,[],[],Z,(Z.length:Int),(0:Int),a,b)=_:=e2;have aA:aaf 0 (S18_14step 0) ((),(),o.map PV.str,[],[],A1,(A1.length:Int),(0:Int),a,b)=_:=e3;have aB:aaf 0 (S18_19step 0) ((),(),o.map PV.str,K1.map PV.str,[],B1,(B1.length:Int),(0:Int),a,b)=_:=e4;have aC:aaf 0 (S18_24step 0) ((),(),o.map PV.str,es.map PV.str,[],A2,(A2.length:Int),(0:Int),a,b)=_:=e5;have aD:aaf 0 (S18_29step 0) ((),(),o.map PV.str,es.map PV.str,K2.map PV.str,B2,(B2.length:Int),(0:Int),a,b)=_:=e6;have aE:aaf 0 (S18_35step 0) ((),(),es.map PV.str,H.map PV.str,[],o.map PV.str,((o.map PV.str).length:Int),(0:Int),a,b)=_:=f1;have aF:aaf 0 (S18_46step 0) ((),(),H.map PV.str,r0,es.map PV.str,((es.map PV.str).length:Int),(0:Int),a,b)=_:=f2;have aG:aaf 0 (S18_57step 0) ((),(),r0++r1,H.map PV.str,((H.map PV.str).length:Int),(0:Int),a,b)=_:=f3;unfold F18;simp_all
theorem avo {s:PV} (h:SOk s) (bs:aaq s<=1048576):∃ v,F4 0 s=some v/\(v=true->SchemaV s):=a6x h bs
end Go.Ab
