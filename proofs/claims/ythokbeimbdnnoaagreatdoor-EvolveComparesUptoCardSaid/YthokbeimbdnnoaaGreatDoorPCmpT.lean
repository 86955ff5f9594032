/- What evolve.Compare collects. -/
import Derived.Test.YthokbeimbdnnoaaGreatDoorPSrt5T
set_option linter.unusedVariables false
set_option linter.unusedSimpArgs false
set_option linter.unnecessarySimpa false
namespace Go.Ab
open Go
set_option maxRecDepth 100000
theorem aa8 {I Z O:Type}{step:I->Option (I⊕Z)} (st:Nat->List PV->I) (xs:List O) (g:O->List PV) (z:List PV->Z) (N:Nat)
 (H:∀ i acc (M:i<xs.length),acc.length+(g xs[i]).length<=N->step (st i acc)=some (.inl (st (i+1) (acc++g xs[i]))))
 (o:∀ acc,step (st xs.length acc)=some (.inr (z acc))):
 ∀ k i acc,i+k=xs.length->acc.length+((xs.drop i).flatMap g).length<=N->aba step (st i acc)=some (z (acc++(xs.drop i).flatMap g)):=by
 intro k
 induction k with
 | zero=>
  intro i acc M J
  have:i=xs.length:=by omega
  subst this
  rw [aai (o acc)]
  simp
 | succ k ih=>
  intro i acc M J
  have h:i<xs.length:=by omega
  rw [List.drop_eq_getElem_cons h,List.flatMap_cons,Ak] at J
  rw [aat (H i acc h (by omega)),ih (i+1) _ (by omega) (by rw [Ak];omega),List.drop_eq_getElem_cons h,List.flatMap_cons,Ap]
theorem acd {O Z M:Type}{step:O->Option (O⊕Z)} (st:Nat->O) (xs:List M) (p:M->Bool) (I:M->Z) (o:Z)
 (J:∀ i (hi:i<xs.length),step (st i)=some (bif p xs[i] then .inr (I xs[i]) else .inl (st (i+1)))) (z:step (st xs.length)=some (.inr o)):
 ∀ k i,i+k=xs.length->aba step (st i)=some (match (xs.drop i).find? p with | some x=>I x | none=>o):=by
 intro k
 induction k with
 | zero=>
  intro i hi
  have:i=xs.length:=by omega
  subst this
  rw [aai z]
  simp
 | succ k ih=>
  intro i hi
  have H:i<xs.length:=by omega
  have h:=J i H
  rw [List.drop_eq_getElem_cons H,List.find?_cons]
  cases hp:p xs[i] with
  | true=>rw [hp] at h;rw [aai h]
  | false=>rw [hp] at h;rw [aat h];exact ih (i+1) (by omega)
def chg (k:Int) (d:Bq) (n:Int) (o w:Bq):PV:=.agg [.int k,.str d,.int n,.str o,.str w]
def dif (b:Bool) (c:PV):List PV:=bif b then [c] else []
theorem ab1 (b:Bool) (c:PV):(dif b c).length<=1:=by cases b<;>simp [dif]
theorem cadd {l acc:List PV} (h:acc.length+l.length<=100000000):F36 0 () l acc=some (acc++l):=by unfold F36;rw [Ag (show acc.length+l.length<=aae by unfold aae;omega)];rfl
theorem aex {k n:Int}{d o w:Bq}{b:Bool}{acc:List PV} (h:acc.length+1<=100000000):F153 0 () k d n o w b acc=some (acc++dif b (chg k d n o w)):=by
 unfold F153;cases b with
 | false=>simp [dif]
 | true=>rw [cadd (by simpa using h)];rfl
def agr (c:Int):Bq:=bif c==1 then [114,101,113,117,105,114,101,100] else bif c==2 then [111,112,116,105,111,110,97,108] else bif c==3 then [112,108,97,105,110] else bif c==4 then [108,105,115,116] else bif c==5 then [109,97,112] else []
theorem at9 (c:Int):F213 0 c=some (agr c):=by unfold F213 agr;cases c==(1:Int)<;>cases c==(2:Int)<;>cases c==(3:Int)<;>cases c==(4:Int)<;>cases c==(5:Int)<;>rfl
def agc (c:Int):Bq:=bif c==1 then [117,110,97,114,121] else bif c==2 then [115,101,114,118,101,114] else bif c==3 then [99,108,105,101,110,116] else bif c==4 then [98,111,116,104] else []
theorem ari (c:Int):F157 0 c=some (agc c):=by unfold F157 agc;cases c==(1:Int)<;>cases c==(2:Int)<;>cases c==(3:Int)<;>cases c==(4:Int)<;>rfl
theorem aeb (c:Int):(agc c).length<=6:=by unfold agc;cases c==(1:Int)<;>cases c==(2:Int)<;>cases c==(3:Int)<;>cases c==(4:Int)<;>simp
theorem ap8 (c:Int):(agr c).length<=8:=by unfold agr;cases c==(1:Int)<;>cases c==(2:Int)<;>cases c==(3:Int)<;>cases c==(4:Int)<;>cases c==(5:Int)<;>simp
def ajx (b:Bool):Bq:=bif b then [111,112,101,110] else [99,108,111,115,101,100]
theorem aux (b:Bool):F154 0 b=some (ajx b):=by cases b<;>rfl
theorem aq1 (b:Bool):(ajx b).length<=6:=by cases b<;>simp [ajx]
noncomputable def litF (f:PV):Bq:=bif (f.fld 6).asBool then litT (f.fld 7) else []
theorem ay2 (f:PV) (h:acv (f.fld 7)):F215 0 f=some (litF f):=by unfold F215 litF;rw [a7u _ h];cases (f.fld 6).asBool<;>rfl
theorem auq (f:PV) (h:acv (f.fld 7)):(litF f).length<=5000000:=by have:=a2a _ h;unfold litF;cases (f.fld 6).asBool<;>simp [this]
def ne5 (a b:PV):Bool:=!((a.fld 1).asStr==(b.fld 1).asStr)
def ne6 (a b:PV):Bool:=bif (((a.fld 4).fld 0).asInt != ((b.fld 4).fld 0).asInt) then true else (!(((a.fld 4).fld 1).asStr==((b.fld 4).fld 1).asStr))
def ne7 (a b:PV):Bool:=(a.fld 2).asInt != (b.fld 2).asInt
def ne8 (a b:PV):Bool:=(a.fld 3).asInt != (b.fld 3).asInt
def ne9 (a b:PV):Bool:=!((a.fld 5).asStr==(b.fld 5).asStr)
def ne10 (a b:PV):Bool:=bif (bif (bif (!((a.fld 6).asBool==(b.fld 6).asBool)) then true else (((a.fld 7).fld 0).asInt != ((b.fld 7).fld 0).asInt)) then true else (((a.fld 7).fld 1).asInt != ((b.fld 7).fld 1).asInt)) then true else (!(((a.fld 7).fld 2).asStr==((b.fld 7).fld 2).asStr))
noncomputable def acq (d:Bq) (a b:PV):List PV:=
 dif (ne5 a b) (chg 5 d (a.fld 0).asInt (a.fld 1).asStr (b.fld 1).asStr)++(dif (ne6 a b) (chg 6 d (a.fld 0).asInt (agl (a.fld 4)) (agl (b.fld 4)))++(dif (ne7 a b) (chg 7 d (a.fld 0).asInt (agr (a.fld 2).asInt) (agr (b.fld 2).asInt))++(dif (ne8 a b) (chg 8 d (a.fld 0).asInt (kw (a.fld 3).asInt) (kw (b.fld 3).asInt))++(dif (ne9 a b) (chg 9 d (a.fld 0).asInt (a.fld 5).asStr (b.fld 5).asStr)++dif (ne10 a b) (chg 10 d (a.fld 0).asInt (litF a) (litF b))))))
theorem ax2 {d:Bq}{a b:PV}{acc:List PV} (o:OkFld a) (z:OkFld b) (h:acc.length<=90000000):F152 0 () d a b acc=some (acc++acq d a b):=by have H:=ab1 (ne5 a b) (chg 5 d (a.fld 0).asInt (a.fld 1).asStr (b.fld 1).asStr);have I:=ab1 (ne6 a b) (chg 6 d (a.fld 0).asInt (agl (a.fld 4)) (agl (b.fld 4)));have J:=ab1 (ne7 a b) (chg 7 d (a.fld 0).asInt (agr (a.fld 2).asInt) (agr (b.fld 2).asInt));have M:=ab1 (ne8 a b) (chg 8 d (a.fld 0).asInt (kw (a.fld 3).asInt) (kw (b.fld 3).asInt));have O:=ab1 (ne9 a b) (chg 9 d (a.fld 0).asInt (a.fld 5).asStr (b.fld 5).asStr);unfold F152;rw [aex (by omega),Ae,a0f _ o.type,Ae,a0f _ z.type,Ae];rw [aex (by rw [Ak];change _+(dif (ne5 a b) _).length+_<=_;omega),Ae,at9,Ae,at9,Ae];rw [aex (by rw [Ak,Ak];change _+(dif (ne5 a b) _).length+(dif (ne6 a b) _).length+_<=_;omega),Ae,a5u,Ae,a5u,Ae];rw [aex (by rw [Ak,Ak,Ak];change _+(dif (ne5 a b) _).length+(dif (ne6 a b) _).length+(dif (ne7 a b) _).length+_<=_;omega),Ae];rw [aex (by rw [Ak,Ak,Ak,Ak];change _+(dif (ne5 a b) _).length+(dif (ne6 a b) _).length+(dif (ne7 a b) _).length+(dif (ne8 a b) _).length+_<=_;omega),Ae];dsimp only;rw [ay2 _ o.dflt,Ae,ay2 _ z.dflt,Ae];rw [aex (by rw [Ak,Ak,Ak,Ak,Ak];change _+(dif (ne5 a b) _).length+(dif (ne6 a b) _).length+(dif (ne7 a b) _).length+(dif (ne8 a b) _).length+(dif (ne9 a b) _).length+_<=_;omega),Ae];simp only [Ap];rfl
theorem anp (d:Bq) (a b:PV):(acq d a b).length<=6:=by have h:=ab1 (ne5 a b) (chg 5 d (a.fld 0).asInt (a.fld 1).asStr (b.fld 1).asStr);have o:=ab1 (ne6 a b) (chg 6 d (a.fld 0).asInt (agl (a.fld 4)) (agl (b.fld 4)));have z:=ab1 (ne7 a b) (chg 7 d (a.fld 0).asInt (agr (a.fld 2).asInt) (agr (b.fld 2).asInt));have H:=ab1 (ne8 a b) (chg 8 d (a.fld 0).asInt (kw (a.fld 3).asInt) (kw (b.fld 3).asInt));have I:=ab1 (ne9 a b) (chg 9 d (a.fld 0).asInt (a.fld 5).asStr (b.fld 5).asStr);have J:=ab1 (ne10 a b) (chg 10 d (a.fld 0).asInt (litF a) (litF b));unfold acq;simp only [Ak];omega
def fst {h:Type} [BEq h] (key:PV->h) (k:h) (l:List PV):Option PV:=l.find? λx=>key x==k
def cmn {h:Type} [BEq h] (key:PV->h) (both:PV->PV->List PV) (gone:PV->PV) (B:List PV) (x:PV):List PV:=match fst key (key x) B with | some y=>both x y | none=>[gone x]
def nws {h:Type} [BEq h] (key:PV->h) (new:PV->PV) (A:List PV) (y:PV):List PV:=match fst key (key y) A with | some _=>[] | none=>[new y]
def kNum (x:PV):Int:=(x.fld 0).asInt
def abg (x:PV):Int:=(x.fld 1).asInt
def aac (x:PV):Bq:=(x.fld 0).asStr
def dmem {h:Type} [BEq h] (key:PV->h) (k:h) (l:List PV) (z:PV):PV×Bool:=match fst key k l with | some x=>(x,true) | none=>(z,false)
theorem aa2 {o:Type} [BEq o] {key:PV->o}{k:o}{l:List PV}{y:PV} (h:fst key k l=some y):y∈l:=List.mem_of_find?_eq_some h
def zMsg:PV:=PV.agg [(PV.str ([]:Bq)),(PV.slice []),(PV.slice []),(PV.slice []),(PV.slice [])]
def zFld:PV:=PV.agg [(PV.int (0:Int)),(PV.str ([]:Bq)),(PV.int (0:Int)),(PV.int (0:Int)),(PV.agg [(PV.int (0:Int)),(PV.str ([]:Bq))]),(PV.str ([]:Bq)),(PV.bool false),(PV.agg [(PV.int (0:Int)),(PV.int (0:Int)),(PV.str ([]:Bq)),(PV.slice []),(PV.slice []),(PV.slice []),(PV.slice [])]),(PV.slice [])]
def akr:PV:=PV.agg [(PV.str ([]:Bq)),(PV.bool false),(PV.slice []),(PV.slice []),(PV.slice [])]
def ana:PV:=PV.agg [(PV.str ([]:Bq)),(PV.int (0:Int)),(PV.slice [])]
def zSvc:PV:=PV.agg [(PV.str ([]:Bq)),(PV.slice []),(PV.slice [])]
def anb:PV:=PV.agg [(PV.str ([]:Bq)),(PV.str ([]:Bq)),(PV.str ([]:Bq)),(PV.int (0:Int)),(PV.slice [])]
theorem a3z (s:PV) (n:Bq) (h:(s.fld 0).asList.length<=1048576):F35 0 s n=some (dmem aac n (s.fld 0).asList zMsg):=by
 generalize I:(s.fld 0).asList=l at h;have z:=acd (step:=S85_3step 0) (λi=>((),(),l,(l.length:Int),((i:Nat):Int),n,zMsg)) l (λx=>aac x==n) (λx=>.inl ((),true,n,x)) (.inr ((),n,zMsg)) (λi o=>by
  simp only [S85_3step,S85_3,decL i _ o,Af,aab,Ag o,Aj,aaf o,F86,Ae,aaz i (by omega),aac];cases ((l[i]).fld 0).asStr==n<;>rfl) (by
  simp only [S85_3step,S85_3,decN,Ah]) l.length 0 (by omega)
 rw [As] at z;have H:aag 0 (S85_3step 0) ((),(),l,(l.length:Int),(0:Int),n,zMsg)=_:=z;unfold F35 F85;rw [I];change ((Option.bind (aag 0 (S85_3step 0) ((),(),l,(l.length:Int),(0:Int),n,zMsg)) _).bind _)=_;rw [H];unfold dmem fst;cases l.find? (λx=>aac x==n)<;>rfl
theorem a3w (s:PV) (n:Bq) (h:(s.fld 1).asList.length<=1048576):F37 0 s n=some (dmem aac n (s.fld 1).asList akr):=by
 generalize I:(s.fld 1).asList=l at h;have z:=acd (step:=S87_3step 0) (λi=>((),(),l,(l.length:Int),((i:Nat):Int),n,akr)) l (λx=>aac x==n) (λx=>.inl ((),true,n,x)) (.inr ((),n,akr)) (λi o=>by
  simp only [S87_3step,S87_3,decL i _ o,Af,aab,Ag o,Aj,aaf o,F88,Ae,aaz i (by omega),aac];cases ((l[i]).fld 0).asStr==n<;>rfl) (by
  simp only [S87_3step,S87_3,decN,Ah]) l.length 0 (by omega)
 rw [As] at z;have H:aag 0 (S87_3step 0) ((),(),l,(l.length:Int),(0:Int),n,akr)=_:=z;unfold F37 F87;rw [I];change ((Option.bind (aag 0 (S87_3step 0) ((),(),l,(l.length:Int),(0:Int),n,akr)) _).bind _)=_;rw [H];unfold dmem fst;cases l.find? (λx=>aac x==n)<;>rfl
theorem a4a (s:PV) (n:Bq) (h:(s.fld 2).asList.length<=1048576):F38 0 s n=some (dmem aac n (s.fld 2).asList zSvc):=by
 generalize I:(s.fld 2).asList=l at h;have z:=acd (step:=S89_3step 0) (λi=>((),(),l,(l.length:Int),((i:Nat):Int),n,zSvc)) l (λx=>aac x==n) (λx=>.inl ((),true,n,x)) (.inr ((),n,zSvc)) (λi o=>by
  simp only [S89_3step,S89_3,decL i _ o,Af,aab,Ag o,Aj,aaf o,F90,Ae,aaz i (by omega),aac];cases ((l[i]).fld 0).asStr==n<;>rfl) (by
  simp only [S89_3step,S89_3,decN,Ah]) l.length 0 (by omega)
 rw [As] at z;have H:aag 0 (S89_3step 0) ((),(),l,(l.length:Int),(0:Int),n,zSvc)=_:=z;unfold F38 F89;rw [I];change ((Option.bind (aag 0 (S89_3step 0) ((),(),l,(l.length:Int),(0:Int),n,zSvc)) _).bind _)=_;rw [H];unfold dmem fst;cases l.find? (λx=>aac x==n)<;>rfl
theorem a3x (s:PV) (n:Int) (h:(s.fld 1).asList.length<=1048576):F129 0 s n=some (dmem kNum n (s.fld 1).asList zFld):=by
 generalize I:(s.fld 1).asList=l at h;have z:=acd (step:=S193_3step 0) (λi=>((),(),l,(l.length:Int),((i:Nat):Int),n,zFld)) l (λx=>kNum x==n) (λx=>.inl ((),true,n,x)) (.inr ((),n,zFld)) (λi o=>by
  simp only [S193_3step,S193_3,decL i _ o,Af,aab,Ag o,Aj,aaf o,F194,Ae,aaz i (by omega),kNum];cases ((l[i]).fld 0).asInt==n<;>rfl) (by
  simp only [S193_3step,S193_3,decN,Ah]) l.length 0 (by omega)
 rw [As] at z;have H:aag 0 (S193_3step 0) ((),(),l,(l.length:Int),(0:Int),n,zFld)=_:=z;unfold F129 F193;rw [I];change ((Option.bind (aag 0 (S193_3step 0) ((),(),l,(l.length:Int),(0:Int),n,zFld)) _).bind _)=_;rw [H];unfold dmem fst;cases l.find? (λx=>kNum x==n)<;>rfl
theorem a3y (s:PV) (n:Int) (h:(s.fld 2).asList.length<=1048576):F130 0 s n=some (dmem abg n (s.fld 2).asList ana):=by
 generalize I:(s.fld 2).asList=l at h;have z:=acd (step:=S195_3step 0) (λi=>((),(),l,(l.length:Int),((i:Nat):Int),n,ana)) l (λx=>abg x==n) (λx=>.inl ((),true,n,x)) (.inr ((),n,ana)) (λi o=>by
  simp only [S195_3step,S195_3,decL i _ o,Af,aab,Ag o,Aj,aaf o,F196,Ae,aaz i (by omega),abg];cases ((l[i]).fld 1).asInt==n<;>rfl) (by
  simp only [S195_3step,S195_3,decN,Ah]) l.length 0 (by omega)
 rw [As] at z;have H:aag 0 (S195_3step 0) ((),(),l,(l.length:Int),(0:Int),n,ana)=_:=z;unfold F130 F195;rw [I];change ((Option.bind (aag 0 (S195_3step 0) ((),(),l,(l.length:Int),(0:Int),n,ana)) _).bind _)=_;rw [H];unfold dmem fst;cases l.find? (λx=>abg x==n)<;>rfl
theorem firstT (s:PV) (n:Bq) (h:(s.fld 1).asList.length<=1048576):F155 0 s n=some (dmem aac n (s.fld 1).asList anb):=by
 generalize I:(s.fld 1).asList=l at h;have z:=acd (step:=S155_3step 0) (λi=>(n,(),l,(l.length:Int),((i:Nat):Int),s,anb)) l (λx=>aac x==n) (λx=>.inl ((),true,s,x)) (.inr ((),s,anb)) (λi o=>by
  simp only [S155_3step,S155_3,decL i _ o,Af,aab,Ag o,Aj,aaf o,aaz i (by omega),aac];cases ((l[i]).fld 0).asStr==n<;>rfl) (by
  simp only [S155_3step,S155_3,decN,Ah]) l.length 0 (by omega)
 rw [As] at z;have H:aag 0 (S155_3step 0) (n,(),l,(l.length:Int),(0:Int),s,anb)=_:=z;unfold F155;rw [I];dsimp only;change (Option.bind (aag 0 (S155_3step 0) (n,(),l,(l.length:Int),(0:Int),s,anb)) _)=_;rw [H];unfold dmem fst;cases l.find? (λx=>aac x==n)<;>rfl
noncomputable def ac5 (a b:PV):List PV:=
 (a.fld 1).asList.flatMap (cmn kNum (acq (aac a)) (λf=>chg 3 (aac a) (f.fld 0).asInt (f.fld 1).asStr []) (b.fld 1).asList)++(b.fld 1).asList.flatMap (nws kNum (λf=>chg 4 (aac a) (f.fld 0).asInt [] (f.fld 1).asStr) (a.fld 1).asList)
theorem ax3 {a b:PV}{acc:List PV} (J:OkMsg a) (M:OkMsg b) (h:acc.length+(ac5 a b).length<=90000000):F82 0 () a b acc=some (acc++ac5 a b):=by
 have la:=J.fields;have lb:=M.fields;unfold ac5 at h ⊢;rw [Ak] at h;generalize I:(a.fld 1).asList=A at h la ⊢;generalize hB:(b.fld 1).asList=B at h lb ⊢;have O:=aa8 (step:=S82_3step 0) (λi c=>((),(),(),A,(A.length:Int),((i:Nat):Int),c,a,b)) A (cmn kNum (acq (aac a)) (λf=>chg 3 (aac a) (f.fld 0).asInt (f.fld 1).asStr []) B) (λc=>((),(),(),c,a,b)) 90000000 (λi c o hc=>by
  have fa:OkFld A[i]:=J.field _ (by rw [I];exact List.getElem_mem o);simp only [S82_3step,S82_3,decL i _ o,Af,aab,Ag o,Aj,aaf o,a3x b _ M.fields,Ae,aaz i (by omega),hB];unfold dmem cmn;have e:fst kNum (A[i].fld 0).asInt B=fst kNum (kNum A[i]) B:=rfl;rw [e];cases hf:fst kNum (kNum A[i]) B with
  | some y=>have fb:OkFld y:=M.field _ (by rw [hB];exact aa2 hf);dsimp only;rw [Af,ax2 fa fb (by omega)];rfl
  | none=>dsimp only;rw [Ah,cadd (by simp only [Am,Ao];omega)];rfl) (λc=>by
  simp only [S82_3step,S82_3,decN,Ah]) A.length 0 acc (Nat.zero_add _) (by rw [As];omega)
 rw [As] at O;have Z:=aa8 (step:=S82_11step 0) (λi c=>((),(),B,(B.length:Int),((i:Nat):Int),c,a,b)) B (nws kNum (λf=>chg 4 (aac a) (f.fld 0).asInt [] (f.fld 1).asStr) A) (λc=>(c,a,b)) 90000000 (λi c o hc=>by
  simp only [S82_11step,S82_11,decL i _ o,Af,aab,Ag o,Aj,aaf o,a3x a _ J.fields,Ae,aaz i (by omega),I];unfold dmem nws;have e:fst kNum (B[i].fld 0).asInt A=fst kNum (kNum B[i]) A:=rfl;rw [e];cases hf:fst kNum (kNum B[i]) A with
  | some y=>dsimp only;rw [A3,Ah,List.append_nil]
  | none=>dsimp only;rw [Az,Af,cadd (by simp only [Am,Ao];omega)];rfl) (λc=>by
  simp only [S82_11step,S82_11,decN,Ah]) B.length 0 (acc++A.flatMap (cmn kNum (acq (aac a)) (λf=>chg 3 (aac a) (f.fld 0).asInt (f.fld 1).asStr []) B)) (Nat.zero_add _) (by rw [As,Ak];omega)
 rw [As] at Z;have z:aag 0 (S82_3step 0) ((),(),(),A,(A.length:Int),(0:Int),acc,a,b)=_:=O;have H:aag 0 (S82_11step 0) ((),(),B,(B.length:Int),(0:Int),_,a,b)=_:=Z;unfold F82;dsimp only;rw [I,z,Ae];dsimp only;rw [hB,H,Ae,Ap]
def ahw (d:Bq) (x y:PV):List PV:=dif (!((x.fld 0).asStr==(y.fld 0).asStr)) (chg 16 d (x.fld 1).asInt (x.fld 0).asStr (y.fld 0).asStr)
def aul (a b:PV):List PV:=
 (a.fld 2).asList.flatMap (cmn abg (ahw (aac a)) (λf=>chg 14 (aac a) (f.fld 1).asInt (f.fld 0).asStr []) (b.fld 2).asList)++(b.fld 2).asList.flatMap (nws abg (λf=>chg 15 (aac a) (f.fld 1).asInt [] (f.fld 0).asStr) (a.fld 2).asList)
def ajw (a b:PV):List PV:=dif (!((a.fld 1).asBool==(b.fld 1).asBool)) (chg 13 (aac a) (-1) (ajx (a.fld 1).asBool) (ajx (b.fld 1).asBool))
def aip (a b:PV):List PV:=ajw a b++aul a b
theorem a1u {a b:PV}{acc:List PV} (O:OkEnum a) (Z:OkEnum b) (h:acc.length+(aip a b).length<=90000000):F83 0 () a b acc=some (acc++aip a b):=by
 have la:=O.items;have lb:=Z.items;unfold aip aul at h ⊢;rw [Ak,Ak] at h;have ho:=ab1 (!((a.fld 1).asBool==(b.fld 1).asBool)) (chg 13 (aac a) (-1) (ajx (a.fld 1).asBool) (ajx (b.fld 1).asBool));change (ajw a b).length<=1 at ho;unfold F83;rw [aux,Ae,aux,Ae,aex (by omega),Ae];change (let z:=(a.fld 2).asList;Option.bind (aag 0 (S83_4step 0) ((),(),(),z,(z.length:Int),(0:Int),acc++ajw a b,a,b)) _)=_;dsimp only;generalize hA:(a.fld 2).asList=A at h la ⊢;generalize hB:(b.fld 2).asList=B at h lb ⊢;have J:=aa8 (step:=S83_4step 0) (λi c=>((),(),(),A,(A.length:Int),((i:Nat):Int),c,a,b)) A (cmn abg (ahw (aac a)) (λf=>chg 14 (aac a) (f.fld 1).asInt (f.fld 0).asStr []) B) (λc=>((),(),(),c,a,b)) 90000000 (λi c o hc=>by
  simp only [S83_4step,S83_4,decL i _ o,Af,aab,Ag o,Aj,aaf o,a3y b _ Z.items,Ae,aaz i (by omega),hB];unfold dmem cmn;have e:fst abg (A[i].fld 1).asInt B=fst abg (abg A[i]) B:=rfl;rw [e];cases hf:fst abg (abg A[i]) B with
  | some y=>dsimp only;rw [Af,aex (by omega)];rfl
  | none=>dsimp only;rw [Ah,cadd (by simp only [Am,Ao];omega)];rfl) (λc=>by
  simp only [S83_4step,S83_4,decN,Ah]) A.length 0 (acc++ajw a b) (Nat.zero_add _) (by rw [As,Ak];omega)
 rw [As] at J;have M:=aa8 (step:=S83_12step 0) (λi c=>((),(),B,(B.length:Int),((i:Nat):Int),c,a,b)) B (nws abg (λf=>chg 15 (aac a) (f.fld 1).asInt [] (f.fld 0).asStr) A) (λc=>(c,a,b)) 90000000 (λi c o hc=>by
  simp only [S83_12step,S83_12,decL i _ o,Af,aab,Ag o,Aj,aaf o,a3y a _ O.items,Ae,aaz i (by omega),hA];unfold dmem nws;have e:fst abg (B[i].fld 1).asInt A=fst abg (abg B[i]) A:=rfl;rw [e];cases hf:fst abg (abg B[i]) A with
  | some y=>dsimp only;rw [A3,Ah,List.append_nil]
  | none=>dsimp only;rw [Az,Af,cadd (by simp only [Am,Ao];omega)];rfl) (λc=>by
  simp only [S83_12step,S83_12,decN,Ah]) B.length 0 ((acc++ajw a b)++A.flatMap (cmn abg (ahw (aac a)) (λf=>chg 14 (aac a) (f.fld 1).asInt (f.fld 0).asStr []) B)) (Nat.zero_add _) (by rw [As,Ak,Ak];omega)
 rw [As] at M;have H:aag 0 (S83_4step 0) ((),(),(),A,(A.length:Int),(0:Int),acc++ajw a b,a,b)=_:=J;have I:aag 0 (S83_12step 0) ((),(),B,(B.length:Int),(0:Int),_,a,b)=_:=M;rw [H,Ae];dsimp only;rw [hB,I,Ae,Ap,Ap]
def act (m:PV):Bq:=(((m.fld 0).asStr++[58,32])++(m.fld 1).asStr++[32,45,62,32])++(m.fld 2).asStr
theorem au1 {m:PV} (h:OkMeth m):F156 0 m=some (act m):=by have o:=h.name;have z:=h.inn;have H:=h.out;unfold F156;dsimp only;rw [Ag (show (m.fld 0).asStr.length+([58,32]:Bq).length<=aan by simp only [Am,Ao];unfold aan;omega),Af];rw [Ag (show ((m.fld 0).asStr++([58,32]:Bq)).length+(m.fld 1).asStr.length<=aan by simp only [Ak,Am,Ao];unfold aan;omega),Af];rw [Ag (show (((m.fld 0).asStr++([58,32]:Bq))++(m.fld 1).asStr).length+([32,45,62,32]:Bq).length<=aan by simp only [Ak,Am,Ao];unfold aan;omega),Af];rw [Ag (show ((((m.fld 0).asStr++([58,32]:Bq))++(m.fld 1).asStr)++([32,45,62,32]:Bq)).length+(m.fld 2).asStr.length<=aan by simp only [Ak,Am,Ao];unfold aan;omega),Af];rfl
theorem an3 {m:PV} (h:OkMeth m):(act m).length<=4000000:=by have o:=h.name;have z:=h.inn;have H:=h.out;unfold act;simp only [Ak,Am,Ao];omega
def ne21 (x y:PV):Bool:=bif !((x.fld 1).asStr==(y.fld 1).asStr) then true else !((x.fld 2).asStr==(y.fld 2).asStr)
def ne22 (x y:PV):Bool:=(x.fld 3).asInt != (y.fld 3).asInt
def shT (x y:PV):Bq:=((x.fld 0).asStr++[58,32])++agc (y.fld 3).asInt
def afz (d:Bq) (x y:PV):List PV:=dif (ne21 x y) (chg 21 d (-1) (act x) (act y))++dif (ne22 x y) (chg 22 d (-1) (shT x x) (shT x y))
def svcC (a b:PV):List PV:=
 (a.fld 1).asList.flatMap (cmn aac (afz (aac a)) (λf=>chg 19 (aac a) (-1) (f.fld 0).asStr []) (b.fld 1).asList)++(b.fld 1).asList.flatMap (nws aac (λf=>chg 20 (aac a) (-1) [] (f.fld 0).asStr) (a.fld 1).asList)
theorem awc {a b:PV}{acc:List PV} (J:OkSvc a) (M:OkSvc b) (h:acc.length+(svcC a b).length<=90000000):F84 0 () a b acc=some (acc++svcC a b):=by
 have la:=J.meths;have lb:=M.meths;unfold svcC at h ⊢;rw [Ak] at h;generalize I:(a.fld 1).asList=A at h la ⊢;generalize hB:(b.fld 1).asList=B at h lb ⊢;have Z:=aa8 (step:=S84_3step 0) (λi c=>((),(),(),A,(A.length:Int),((i:Nat):Int),c,a,b)) A (cmn aac (afz (aac a)) (λf=>chg 19 (aac a) (-1) (f.fld 0).asStr []) B) (λc=>((),(),(),c,a,b)) 90000000 (λi c o hc=>by
  have O:OkMeth A[i]:=J.meth _ (by rw [I];exact List.getElem_mem o);have aa:=O.name;simp only [S84_3step,S84_3,decL i _ o,Af,aab,Ag o,Aj,aaf o,firstT b _ M.meths,Ae,aaz i (by omega),hB];unfold dmem cmn;have e:fst aac (A[i].fld 0).asStr B=fst aac (aac A[i]) B:=rfl;rw [e];cases hf:fst aac (aac A[i]) B with
  | some y=>have fb:OkMeth y:=M.meth _ (by rw [hB];exact aa2 hf);have d1:=ab1 (ne21 A[i] y) (chg 21 (aac a) (-1) (act A[i]) (act y));have s1:=aeb (A[i].fld 3).asInt;have s2:=aeb (y.fld 3).asInt;dsimp only;rw [A3,Ah,au1 O,Ae,au1 fb,Ae,aex (by omega),Ae];rw [Ag (show (A[i].fld 0).asStr.length+([58,32]:Bq).length<=aan by simp only [Am,Ao];unfold aan;omega),Af,ari,Ae];rw [Ag (show ((A[i].fld 0).asStr++([58,32]:Bq)).length+(agc (A[i].fld 3).asInt).length<=aan by simp only [Ak,Am,Ao];unfold aan;omega),Af,Af,ari,Ae];rw [Ag (show ((A[i].fld 0).asStr++([58,32]:Bq)).length+(agc (y.fld 3).asInt).length<=aan by simp only [Ak,Am,Ao];unfold aan;omega),Af];rw [aex (by rw [Ak];change c.length+(dif (ne21 A[i] y) (chg 21 (aac a) (-1) (act A[i]) (act y))).length+1<=_;omega),Ae,Ap];rfl
  | none=>dsimp only;rw [Az,Af,cadd (by simp only [Am,Ao];omega)];rfl) (λc=>by
  simp only [S84_3step,S84_3,decN,Ah]) A.length 0 acc (Nat.zero_add _) (by rw [As];omega)
 rw [As] at Z;have h2:=aa8 (step:=S84_12step 0) (λi c=>((),(),B,(B.length:Int),((i:Nat):Int),c,a,b)) B (nws aac (λf=>chg 20 (aac a) (-1) [] (f.fld 0).asStr) A) (λc=>(c,a,b)) 90000000 (λi c o hc=>by
  simp only [S84_12step,S84_12,decL i _ o,Af,aab,Ag o,Aj,aaf o,firstT a _ J.meths,Ae,aaz i (by omega),I];unfold dmem nws;have e:fst aac (B[i].fld 0).asStr A=fst aac (aac B[i]) A:=rfl;rw [e];cases hf:fst aac (aac B[i]) A with
  | some y=>dsimp only;rw [A3,Ah,List.append_nil]
  | none=>dsimp only;rw [Az,Af,cadd (by simp only [Am,Ao];omega)];rfl) (λc=>by
  simp only [S84_12step,S84_12,decN,Ah]) B.length 0 (acc++A.flatMap (cmn aac (afz (aac a)) (λf=>chg 19 (aac a) (-1) (f.fld 0).asStr []) B)) (Nat.zero_add _) (by rw [As,Ak];omega)
 rw [As] at h2;have z:aag 0 (S84_3step 0) ((),(),(),A,(A.length:Int),(0:Int),acc,a,b)=_:=Z;have H:aag 0 (S84_12step 0) ((),(),B,(B.length:Int),(0:Int),_,a,b)=_:=h2;unfold F84;dsimp only;rw [I,z,Ae];dsimp only;rw [hB,H,Ae,Ap]
noncomputable def gM (a b:PV):List PV:=(a.fld 0).asList.flatMap (cmn aac ac5 (λm=>chg 1 (aac m) (-1) [] []) (b.fld 0).asList)
def gE (a b:PV):List PV:=(a.fld 1).asList.flatMap (cmn aac aip (λm=>chg 11 (aac m) (-1) [] []) (b.fld 1).asList)
def gS (a b:PV):List PV:=(a.fld 2).asList.flatMap (cmn aac svcC (λm=>chg 17 (aac m) (-1) [] []) (b.fld 2).asList)
def nM (a b:PV):List PV:=(b.fld 0).asList.flatMap (nws aac (λm=>chg 2 (aac m) (-1) [] []) (a.fld 0).asList)
def nE (a b:PV):List PV:=(b.fld 1).asList.flatMap (nws aac (λm=>chg 12 (aac m) (-1) [] []) (a.fld 1).asList)
def nS (a b:PV):List PV:=(b.fld 2).asList.flatMap (nws aac (λm=>chg 18 (aac m) (-1) [] []) (a.fld 2).asList)
noncomputable def aic (a b:PV):List PV:=gM a b++(gE a b++gS a b)
noncomputable def raw (a b:PV):List PV:=aic a b++(nM a b++(nE a b++nS a b))
theorem a5m {a b:PV}{acc:List PV} (I:SOk a) (J:SOk b) (h:acc.length+(aic a b).length<=90000000):F34 0 () a b acc=some (acc++aic a b):=by
 have l0:=I.len.m;have l1:=I.len.e;have l2:=I.len.v;have m0:=J.len.m;have m1:=J.len.e;have m2:=J.len.v;unfold aic at h ⊢;rw [Ak,Ak] at h;have h1:=aa8 (step:=S34_3step 0) (λi c=>((),(),(),(a.fld 0).asList,((a.fld 0).asList.length:Int),((i:Nat):Int),c,a,b)) (a.fld 0).asList (cmn aac ac5 (λm=>chg 1 (aac m) (-1) [] []) (b.fld 0).asList) (λc=>((),(),(),c,a,b)) 90000000 (λi c z o=>by
  have M:OkMsg (a.fld 0).asList[i]:=I.msg _ (List.getElem_mem z);simp only [S34_3step,S34_3,decL i _ z,Af,aab,Ag z,Aj,aaf z,a3z b _ m0,Ae,aaz i (by omega)];unfold dmem;unfold cmn at o ⊢;have e:fst aac ((a.fld 0).asList[i].fld 0).asStr (b.fld 0).asList=fst aac (aac (a.fld 0).asList[i]) (b.fld 0).asList:=rfl;rw [e];cases H:fst aac (aac (a.fld 0).asList[i]) (b.fld 0).asList with
  | some y=>rw [H] at o;have O:OkMsg y:=J.msg _ (aa2 H);dsimp only at o ⊢;rw [Af,ax3 M O o];rfl
  | none=>dsimp only;rw [Ah,cadd (by simp only [Am,Ao];omega)];rfl) (λc=>by
  simp only [S34_3step,S34_3,decN,Ah]) _ 0 acc (Nat.zero_add _) (by rw [As];change _+(gM a b).length<=_;omega)
 rw [As] at h1;have h2:=aa8 (step:=S34_11step 0) (λi c=>((),(),(),(a.fld 1).asList,((a.fld 1).asList.length:Int),((i:Nat):Int),c,a,b)) (a.fld 1).asList (cmn aac aip (λm=>chg 11 (aac m) (-1) [] []) (b.fld 1).asList) (λc=>((),(),(),c,a,b)) 90000000 (λi c z o=>by
  have M:OkEnum (a.fld 1).asList[i]:=I.enum _ (List.getElem_mem z);simp only [S34_11step,S34_11,decL i _ z,Af,aab,Ag z,Aj,aaf z,a3w b _ m1,Ae,aaz i (by omega)];unfold dmem;unfold cmn at o ⊢;have e:fst aac ((a.fld 1).asList[i].fld 0).asStr (b.fld 1).asList=fst aac (aac (a.fld 1).asList[i]) (b.fld 1).asList:=rfl;rw [e];cases H:fst aac (aac (a.fld 1).asList[i]) (b.fld 1).asList with
  | some y=>rw [H] at o;have O:OkEnum y:=J.enum _ (aa2 H);dsimp only at o ⊢;rw [Af,a1u M O o];rfl
  | none=>dsimp only;rw [Ah,cadd (by simp only [Am,Ao];omega)];rfl) (λc=>by
  simp only [S34_11step,S34_11,decN,Ah]) _ 0 (acc++gM a b) (Nat.zero_add _) (by rw [As,Ak];change _+(gE a b).length<=_;omega)
 rw [As] at h2;have h3:=aa8 (step:=S34_19step 0) (λi c=>((),(),(a.fld 2).asList,((a.fld 2).asList.length:Int),((i:Nat):Int),c,a,b)) (a.fld 2).asList (cmn aac svcC (λm=>chg 17 (aac m) (-1) [] []) (b.fld 2).asList) (λc=>(c,a,b)) 90000000 (λi c z o=>by
  have M:OkSvc (a.fld 2).asList[i]:=I.svc _ (List.getElem_mem z);simp only [S34_19step,S34_19,decL i _ z,Af,aab,Ag z,Aj,aaf z,a4a b _ m2,Ae,aaz i (by omega)];unfold dmem;unfold cmn at o ⊢;have e:fst aac ((a.fld 2).asList[i].fld 0).asStr (b.fld 2).asList=fst aac (aac (a.fld 2).asList[i]) (b.fld 2).asList:=rfl;rw [e];cases H:fst aac (aac (a.fld 2).asList[i]) (b.fld 2).asList with
  | some y=>rw [H] at o;have O:OkSvc y:=J.svc _ (aa2 H);dsimp only at o ⊢;rw [Af,awc M O o];rfl
  | none=>dsimp only;rw [Ah,cadd (by simp only [Am,Ao];omega)];rfl) (λc=>by
  simp only [S34_19step,S34_19,decN,Ah]) _ 0 ((acc++gM a b)++gE a b) (Nat.zero_add _) (by rw [As,Ak,Ak];change _+(gS a b).length<=_;omega)
 rw [As] at h3;have Z:aag 0 (S34_3step 0) ((),(),(),(a.fld 0).asList,((a.fld 0).asList.length:Int),(0:Int),acc,a,b)=some ((),(),(),acc++gM a b,a,b):=h1;have aa:aag 0 (S34_11step 0) ((),(),(),(a.fld 1).asList,((a.fld 1).asList.length:Int),(0:Int),acc++gM a b,a,b)=some ((),(),(),(acc++gM a b)++gE a b,a,b):=h2;have ab:aag 0 (S34_19step 0) ((),(),(a.fld 2).asList,((a.fld 2).asList.length:Int),(0:Int),(acc++gM a b)++gE a b,a,b)=some (((acc++gM a b)++gE a b)++gS a b,a,b):=h3;unfold F34;dsimp only;rw [Z,Ae];dsimp only;rw [aa,Ae];dsimp only;rw [ab,Ae,Ap,Ap]
theorem avh {a b:PV} (z:SOk a) (H:SOk b) (h:(raw a b).length<=90000000):F14 0 a b=(F39 0 (raw a b)).bind λy=>some y:=by
 have l0:=z.len.m;have l1:=z.len.e;have l2:=z.len.v;have m0:=H.len.m;have m1:=H.len.e;have m2:=H.len.v;unfold raw at h ⊢;rw [Ak,Ak,Ak] at h;have O:=aa8 (step:=S14_5step 0) (λi c=>((),(),(),(b.fld 0).asList,((b.fld 0).asList.length:Int),((i:Nat):Int),a,b,c)) (b.fld 0).asList (nws aac (λm=>chg 2 (aac m) (-1) [] []) (a.fld 0).asList) (λc=>((),(),(),a,b,c)) 90000000 (λi c o hc=>by
  simp only [S14_5step,S14_5,decL i _ o,Af,aab,Ag o,Aj,aaf o,a3z a _ l0,Ae,aaz i (by omega)];unfold dmem nws;have e:fst aac ((b.fld 0).asList[i].fld 0).asStr (a.fld 0).asList=fst aac (aac (b.fld 0).asList[i]) (a.fld 0).asList:=rfl;rw [e];cases hf:fst aac (aac (b.fld 0).asList[i]) (a.fld 0).asList with
  | some y=>dsimp only;rw [A3,Ah,List.append_nil]
  | none=>dsimp only;rw [Az,Af,cadd (by simp only [Am,Ao];omega)];rfl) (λc=>by
  simp only [S14_5step,S14_5,decN,Ah]) _ 0 (aic a b) (Nat.zero_add _) (by rw [As];change _+(nM a b).length<=_;omega)
 rw [As] at O;have Z:=aa8 (step:=S14_12step 0) (λi c=>((),(),(),(b.fld 1).asList,((b.fld 1).asList.length:Int),((i:Nat):Int),a,b,c)) (b.fld 1).asList (nws aac (λm=>chg 12 (aac m) (-1) [] []) (a.fld 1).asList) (λc=>((),(),(),a,b,c)) 90000000 (λi c o hc=>by
  simp only [S14_12step,S14_12,decL i _ o,Af,aab,Ag o,Aj,aaf o,a3w a _ l1,Ae,aaz i (by omega)];unfold dmem nws;have e:fst aac ((b.fld 1).asList[i].fld 0).asStr (a.fld 1).asList=fst aac (aac (b.fld 1).asList[i]) (a.fld 1).asList:=rfl;rw [e];cases hf:fst aac (aac (b.fld 1).asList[i]) (a.fld 1).asList with
  | some y=>dsimp only;rw [A3,Ah,List.append_nil]
  | none=>dsimp only;rw [Az,Af,cadd (by simp only [Am,Ao];omega)];rfl) (λc=>by
  simp only [S14_12step,S14_12,decN,Ah]) _ 0 (aic a b++nM a b) (Nat.zero_add _) (by rw [As,Ak];change _+(nE a b).length<=_;omega)
 rw [As] at Z;have h3:=aa8 (step:=S14_19step 0) (λi c=>((),(),(b.fld 2).asList,((b.fld 2).asList.length:Int),((i:Nat):Int),a,b,c)) (b.fld 2).asList (nws aac (λm=>chg 18 (aac m) (-1) [] []) (a.fld 2).asList) (λc=>((),a,b,c)) 90000000 (λi c o hc=>by
  simp only [S14_19step,S14_19,decL i _ o,Af,aab,Ag o,Aj,aaf o,a4a a _ l2,Ae,aaz i (by omega)];unfold dmem nws;have e:fst aac ((b.fld 2).asList[i].fld 0).asStr (a.fld 2).asList=fst aac (aac (b.fld 2).asList[i]) (a.fld 2).asList:=rfl;rw [e];cases hf:fst aac (aac (b.fld 2).asList[i]) (a.fld 2).asList with
  | some y=>dsimp only;rw [A3,Ah,List.append_nil]
  | none=>dsimp only;rw [Az,Af,cadd (by simp only [Am,Ao];omega)];rfl) (λc=>by
  simp only [S14_19step,S14_19,decN,Ah]) _ 0 ((aic a b++nM a b)++nE a b) (Nat.zero_add _) (by rw [As,Ak,Ak];change _+(nS a b).length<=_;omega)
 rw [As] at h3;have I:aag 0 (S14_5step 0) ((),(),(),(b.fld 0).asList,((b.fld 0).asList.length:Int),(0:Int),a,b,aic a b)=some ((),(),(),a,b,aic a b++nM a b):=O;have J:aag 0 (S14_12step 0) ((),(),(),(b.fld 1).asList,((b.fld 1).asList.length:Int),(0:Int),a,b,aic a b++nM a b)=some ((),(),(),a,b,(aic a b++nM a b)++nE a b):=Z;have M:aag 0 (S14_19step 0) ((),(),(b.fld 2).asList,((b.fld 2).asList.length:Int),(0:Int),a,b,(aic a b++nM a b)++nE a b)=some ((),a,b,((aic a b++nM a b)++nE a b)++nS a b):=h3;unfold F14;rw [a5m z H (by simp only [Ao];omega),Ae,A9];dsimp only;rw [I,Ae];dsimp only;rw [J,Ae];dsimp only;rw [M,Ae,Ap,Ap]
end Go.Ab
