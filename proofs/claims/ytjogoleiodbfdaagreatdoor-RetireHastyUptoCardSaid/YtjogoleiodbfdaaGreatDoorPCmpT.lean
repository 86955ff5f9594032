/- What evolve.Compare collects. -/
import Derived.Test.YtjogoleiodbfdaaGreatDoorPSrt5T
set_option linter.unusedVariables false
set_option linter.unusedSimpArgs false
set_option linter.unnecessarySimpa false
namespace Go.Ab
open Go
set_option maxRecDepth 100000
theorem aa1 {J τ Z:Type}{step:J->Option (J⊕τ)} (st:Nat->List PV->J) (xs:List Z) (g:Z->List PV) (H:List PV->τ) (N:Nat)
 (I:∀ i acc (O:i<xs.length),acc.length+(g xs[i]).length<=N->step (st i acc)=some (.inl (st (i+1) (acc++g xs[i]))))
 (o:∀ acc,step (st xs.length acc)=some (.inr (H acc))):
 ∀ k i acc,i+k=xs.length->acc.length+((xs.drop i).flatMap g).length<=N->aa9 step (st i acc)=some (H (acc++(xs.drop i).flatMap g)):=by
 intro k
 induction k with
 | zero=>
  intro i acc O M
  have:i=xs.length:=by omega
  subst this
  rw [aah (o acc)]
  simp
 | succ k ih=>
  intro i acc O M
  have h:i<xs.length:=by omega
  rw [List.drop_eq_getElem_cons h,List.flatMap_cons,Ak] at M
  rw [aaq (I i acc h (by omega)),ih (i+1) _ (by omega) (by rw [Ak];omega),List.drop_eq_getElem_cons h,List.flatMap_cons,Ar]
theorem abj {Z τ O:Type}{step:Z->Option (Z⊕τ)} (st:Nat->Z) (xs:List O) (p:O->Bool) (J:O->τ) (o:τ)
 (M:∀ i (hi:i<xs.length),step (st i)=some (bif p xs[i] then .inr (J xs[i]) else .inl (st (i+1)))) (H:step (st xs.length)=some (.inr o)):
 ∀ k i,i+k=xs.length->aa9 step (st i)=some (match (xs.drop i).find? p with | some x=>J x | none=>o):=by
 intro k
 induction k with
 | zero=>
  intro i hi
  have:i=xs.length:=by omega
  subst this
  rw [aah H]
  simp
 | succ k ih=>
  intro i hi
  have I:i<xs.length:=by omega
  have h:=M i I
  rw [List.drop_eq_getElem_cons I,List.find?_cons]
  cases hp:p xs[i] with
  | true=>rw [hp] at h;rw [aah h]
  | false=>rw [hp] at h;rw [aaq h];exact ih (i+1) (by omega)
def chg (k:Int) (d:Bt) (n:Int) (o w:Bt):PV:=.agg [.int k,.str d,.int n,.str o,.str w]
def dif (b:Bool) (c:PV):List PV:=bif b then [c] else []
theorem ab2 (b:Bool) (c:PV):(dif b c).length<=1:=by cases b<;>simp [dif]
theorem cadd {l acc:List PV} (h:acc.length+l.length<=100000000):F21 0 () l acc=some (acc++l):=by unfold F21;rw [Ag (show acc.length+l.length<=aaf by unfold aaf;omega)];rfl
theorem ae9 {k n:Int}{d o w:Bt}{b:Bool}{acc:List PV} (h:acc.length+1<=100000000):F96 0 () k d n o w b acc=some (acc++dif b (chg k d n o w)):=by
 unfold F96;cases b with
 | false=>simp [dif]
 | true=>rw [cadd (by simpa using h)];rfl
def ag2 (c:Int):Bt:=bif c==1 then [114,101,113,117,105,114,101,100] else bif c==2 then [111,112,116,105,111,110,97,108] else bif c==3 then [112,108,97,105,110] else bif c==4 then [108,105,115,116] else bif c==5 then [109,97,112] else []
theorem avt (c:Int):F131 0 c=some (ag2 c):=by unfold F131 ag2;cases c==(1:Int)<;>cases c==(2:Int)<;>cases c==(3:Int)<;>cases c==(4:Int)<;>cases c==(5:Int)<;>rfl
def ags (c:Int):Bt:=bif c==1 then [117,110,97,114,121] else bif c==2 then [115,101,114,118,101,114] else bif c==3 then [99,108,105,101,110,116] else bif c==4 then [98,111,116,104] else []
theorem ass (c:Int):F100 0 c=some (ags c):=by unfold F100 ags;cases c==(1:Int)<;>cases c==(2:Int)<;>cases c==(3:Int)<;>cases c==(4:Int)<;>rfl
theorem ael (c:Int):(ags c).length<=6:=by unfold ags;cases c==(1:Int)<;>cases c==(2:Int)<;>cases c==(3:Int)<;>cases c==(4:Int)<;>simp
theorem ara (c:Int):(ag2 c).length<=8:=by unfold ag2;cases c==(1:Int)<;>cases c==(2:Int)<;>cases c==(3:Int)<;>cases c==(4:Int)<;>cases c==(5:Int)<;>simp
def akr (b:Bool):Bt:=bif b then [111,112,101,110] else [99,108,111,115,101,100]
theorem awr (b:Bool):F97 0 b=some (akr b):=by cases b<;>rfl
theorem asc (b:Bool):(akr b).length<=6:=by cases b<;>simp [akr]
noncomputable def litF (f:PV):Bt:=bif (f.fld 6).asBool then litT (f.fld 7) else []
theorem a04 (f:PV) (h:ac3 (f.fld 7)):F133 0 f=some (litF f):=by unfold F133 litF;rw [bar _ h];cases (f.fld 6).asBool<;>rfl
theorem awh (f:PV) (h:ac3 (f.fld 7)):(litF f).length<=5000000:=by have:=a4y _ h;unfold litF;cases (f.fld 6).asBool<;>simp [this]
def ne5 (a b:PV):Bool:=!((a.fld 1).asStr==(b.fld 1).asStr)
def ne6 (a b:PV):Bool:=bif (((a.fld 4).fld 0).asInt != ((b.fld 4).fld 0).asInt) then true else (!(((a.fld 4).fld 1).asStr==((b.fld 4).fld 1).asStr))
def ne7 (a b:PV):Bool:=(a.fld 2).asInt != (b.fld 2).asInt
def ne8 (a b:PV):Bool:=(a.fld 3).asInt != (b.fld 3).asInt
def ne9 (a b:PV):Bool:=!((a.fld 5).asStr==(b.fld 5).asStr)
def ne10 (a b:PV):Bool:=bif (bif (bif (!((a.fld 6).asBool==(b.fld 6).asBool)) then true else (((a.fld 7).fld 0).asInt != ((b.fld 7).fld 0).asInt)) then true else (((a.fld 7).fld 1).asInt != ((b.fld 7).fld 1).asInt)) then true else (!(((a.fld 7).fld 2).asStr==((b.fld 7).fld 2).asStr))
noncomputable def act (d:Bt) (a b:PV):List PV:=
 dif (ne5 a b) (chg 5 d (a.fld 0).asInt (a.fld 1).asStr (b.fld 1).asStr)++(dif (ne6 a b) (chg 6 d (a.fld 0).asInt (agy (a.fld 4)) (agy (b.fld 4)))++(dif (ne7 a b) (chg 7 d (a.fld 0).asInt (ag2 (a.fld 2).asInt) (ag2 (b.fld 2).asInt))++(dif (ne8 a b) (chg 8 d (a.fld 0).asInt (kw (a.fld 3).asInt) (kw (b.fld 3).asInt))++(dif (ne9 a b) (chg 9 d (a.fld 0).asInt (a.fld 5).asStr (b.fld 5).asStr)++dif (ne10 a b) (chg 10 d (a.fld 0).asInt (litF a) (litF b))))))
theorem az0 {d:Bt}{a b:PV}{acc:List PV} (o:OkFld a) (H:OkFld b) (h:acc.length<=90000000):F95 0 () d a b acc=some (acc++act d a b):=by have I:=ab2 (ne5 a b) (chg 5 d (a.fld 0).asInt (a.fld 1).asStr (b.fld 1).asStr);have J:=ab2 (ne6 a b) (chg 6 d (a.fld 0).asInt (agy (a.fld 4)) (agy (b.fld 4)));have M:=ab2 (ne7 a b) (chg 7 d (a.fld 0).asInt (ag2 (a.fld 2).asInt) (ag2 (b.fld 2).asInt));have O:=ab2 (ne8 a b) (chg 8 d (a.fld 0).asInt (kw (a.fld 3).asInt) (kw (b.fld 3).asInt));have Z:=ab2 (ne9 a b) (chg 9 d (a.fld 0).asInt (a.fld 5).asStr (b.fld 5).asStr);unfold F95;rw [ae9 (by omega),Aa,a2r _ o.type,Aa,a2r _ H.type,Aa];rw [ae9 (by rw [Ak];change _+(dif (ne5 a b) _).length+_<=_;omega),Aa,avt,Aa,avt,Aa];rw [ae9 (by rw [Ak,Ak];change _+(dif (ne5 a b) _).length+(dif (ne6 a b) _).length+_<=_;omega),Aa,a8p,Aa,a8p,Aa];rw [ae9 (by rw [Ak,Ak,Ak];change _+(dif (ne5 a b) _).length+(dif (ne6 a b) _).length+(dif (ne7 a b) _).length+_<=_;omega),Aa];rw [ae9 (by rw [Ak,Ak,Ak,Ak];change _+(dif (ne5 a b) _).length+(dif (ne6 a b) _).length+(dif (ne7 a b) _).length+(dif (ne8 a b) _).length+_<=_;omega),Aa];dsimp only;rw [a04 _ o.dflt,Aa,a04 _ H.dflt,Aa];rw [ae9 (by rw [Ak,Ak,Ak,Ak,Ak];change _+(dif (ne5 a b) _).length+(dif (ne6 a b) _).length+(dif (ne7 a b) _).length+(dif (ne8 a b) _).length+(dif (ne9 a b) _).length+_<=_;omega),Aa];simp only [Ar];rfl
theorem aop (d:Bt) (a b:PV):(act d a b).length<=6:=by have h:=ab2 (ne5 a b) (chg 5 d (a.fld 0).asInt (a.fld 1).asStr (b.fld 1).asStr);have o:=ab2 (ne6 a b) (chg 6 d (a.fld 0).asInt (agy (a.fld 4)) (agy (b.fld 4)));have H:=ab2 (ne7 a b) (chg 7 d (a.fld 0).asInt (ag2 (a.fld 2).asInt) (ag2 (b.fld 2).asInt));have I:=ab2 (ne8 a b) (chg 8 d (a.fld 0).asInt (kw (a.fld 3).asInt) (kw (b.fld 3).asInt));have J:=ab2 (ne9 a b) (chg 9 d (a.fld 0).asInt (a.fld 5).asStr (b.fld 5).asStr);have M:=ab2 (ne10 a b) (chg 10 d (a.fld 0).asInt (litF a) (litF b));unfold act;simp only [Ak];omega
def fst {h:Type} [BEq h] (key:PV->h) (k:h) (l:List PV):Option PV:=l.find? λx=>key x==k
def cmn {h:Type} [BEq h] (key:PV->h) (both:PV->PV->List PV) (gone:PV->PV) (B:List PV) (x:PV):List PV:=match fst key (key x) B with | some y=>both x y | none=>[gone x]
def nws {h:Type} [BEq h] (key:PV->h) (new:PV->PV) (A:List PV) (y:PV):List PV:=match fst key (key y) A with | some _=>[] | none=>[new y]
def kNum (x:PV):Int:=(x.fld 0).asInt
def abc (x:PV):Int:=(x.fld 1).asInt
def aac (x:PV):Bt:=(x.fld 0).asStr
def dmem {h:Type} [BEq h] (key:PV->h) (k:h) (l:List PV) (z:PV):PV×Bool:=match fst key k l with | some x=>(x,true) | none=>(z,false)
theorem aaz {o:Type} [BEq o] {key:PV->o}{k:o}{l:List PV}{y:PV} (h:fst key k l=some y):y∈l:=List.mem_of_find?_eq_some h
def zMsg:PV:=PV.agg [(PV.str ([]:Bt)),(PV.slice []),(PV.slice []),(PV.slice []),(PV.slice [])]
def zFld:PV:=PV.agg [(PV.int (0:Int)),(PV.str ([]:Bt)),(PV.int (0:Int)),(PV.int (0:Int)),(PV.agg [(PV.int (0:Int)),(PV.str ([]:Bt))]),(PV.str ([]:Bt)),(PV.bool false),(PV.agg [(PV.int (0:Int)),(PV.int (0:Int)),(PV.str ([]:Bt)),(PV.slice []),(PV.slice []),(PV.slice []),(PV.slice [])]),(PV.slice [])]
def acz:PV:=PV.agg [(PV.str ([]:Bt)),(PV.bool false),(PV.slice []),(PV.slice []),(PV.slice [])]
def ak5:PV:=PV.agg [(PV.str ([]:Bt)),(PV.int (0:Int)),(PV.slice [])]
def zSvc:PV:=PV.agg [(PV.str ([]:Bt)),(PV.slice []),(PV.slice [])]
def agm:PV:=PV.agg [(PV.str ([]:Bt)),(PV.str ([]:Bt)),(PV.str ([]:Bt)),(PV.int (0:Int)),(PV.slice [])]
theorem av3 (s:PV) (n:Bt) (h:(s.fld 0).asList.length<=1048576):F20 0 s n=some (dmem aac n (s.fld 0).asList zMsg):=by
 generalize J:(s.fld 0).asList=l at h;have H:=abj (step:=S54_3step 0) (λi=>((),(),l,(l.length:Int),((i:Nat):Int),n,zMsg)) l (λx=>aac x==n) (λx=>.inl ((),true,n,x)) (.inr ((),n,zMsg)) (λi o=>by
  simp only [S54_3step,S54_3,decL i _ o,Af,aab,Ag o,Ai,aae o,F55,Aa,aax i (by omega),aac];cases ((l[i]).fld 0).asStr==n<;>rfl) (by
  simp only [S54_3step,S54_3,decN,Ah]) l.length 0 (by omega)
 rw [Ap] at H;have I:aag 0 (S54_3step 0) ((),(),l,(l.length:Int),(0:Int),n,zMsg)=_:=H;unfold F20 F54;rw [J];change ((Option.bind (aag 0 (S54_3step 0) ((),(),l,(l.length:Int),(0:Int),n,zMsg)) _).bind _)=_;rw [I];unfold dmem fst;cases l.find? (λx=>aac x==n)<;>rfl
theorem av2 (s:PV) (n:Bt) (h:(s.fld 1).asList.length<=1048576):F22 0 s n=some (dmem aac n (s.fld 1).asList acz):=by
 generalize J:(s.fld 1).asList=l at h;have H:=abj (step:=S56_3step 0) (λi=>((),(),l,(l.length:Int),((i:Nat):Int),n,acz)) l (λx=>aac x==n) (λx=>.inl ((),true,n,x)) (.inr ((),n,acz)) (λi o=>by
  simp only [S56_3step,S56_3,decL i _ o,Af,aab,Ag o,Ai,aae o,F57,Aa,aax i (by omega),aac];cases ((l[i]).fld 0).asStr==n<;>rfl) (by
  simp only [S56_3step,S56_3,decN,Ah]) l.length 0 (by omega)
 rw [Ap] at H;have I:aag 0 (S56_3step 0) ((),(),l,(l.length:Int),(0:Int),n,acz)=_:=H;unfold F22 F56;rw [J];change ((Option.bind (aag 0 (S56_3step 0) ((),(),l,(l.length:Int),(0:Int),n,acz)) _).bind _)=_;rw [I];unfold dmem fst;cases l.find? (λx=>aac x==n)<;>rfl
theorem av4 (s:PV) (n:Bt) (h:(s.fld 2).asList.length<=1048576):F23 0 s n=some (dmem aac n (s.fld 2).asList zSvc):=by
 generalize J:(s.fld 2).asList=l at h;have H:=abj (step:=S58_3step 0) (λi=>((),(),l,(l.length:Int),((i:Nat):Int),n,zSvc)) l (λx=>aac x==n) (λx=>.inl ((),true,n,x)) (.inr ((),n,zSvc)) (λi o=>by
  simp only [S58_3step,S58_3,decL i _ o,Af,aab,Ag o,Ai,aae o,F59,Aa,aax i (by omega),aac];cases ((l[i]).fld 0).asStr==n<;>rfl) (by
  simp only [S58_3step,S58_3,decN,Ah]) l.length 0 (by omega)
 rw [Ap] at H;have I:aag 0 (S58_3step 0) ((),(),l,(l.length:Int),(0:Int),n,zSvc)=_:=H;unfold F23 F58;rw [J];change ((Option.bind (aag 0 (S58_3step 0) ((),(),l,(l.length:Int),(0:Int),n,zSvc)) _).bind _)=_;rw [I];unfold dmem fst;cases l.find? (λx=>aac x==n)<;>rfl
theorem az4 (s:PV) (n:Int) (h:(s.fld 1).asList.length<=1048576):F26 0 s n=some (dmem kNum n (s.fld 1).asList zFld):=by
 generalize J:(s.fld 1).asList=l at h;have H:=abj (step:=S64_3step 0) (λi=>((),(),l,(l.length:Int),((i:Nat):Int),n,zFld)) l (λx=>kNum x==n) (λx=>.inl ((),true,n,x)) (.inr ((),n,zFld)) (λi o=>by
  simp only [S64_3step,S64_3,decL i _ o,Af,aab,Ag o,Ai,aae o,F65,Aa,aax i (by omega),kNum];cases ((l[i]).fld 0).asInt==n<;>rfl) (by
  simp only [S64_3step,S64_3,decN,Ah]) l.length 0 (by omega)
 rw [Ap] at H;have I:aag 0 (S64_3step 0) ((),(),l,(l.length:Int),(0:Int),n,zFld)=_:=H;unfold F26 F64;rw [J];change ((Option.bind (aag 0 (S64_3step 0) ((),(),l,(l.length:Int),(0:Int),n,zFld)) _).bind _)=_;rw [I];unfold dmem fst;cases l.find? (λx=>kNum x==n)<;>rfl
theorem az5 (s:PV) (n:Int) (h:(s.fld 2).asList.length<=1048576):F27 0 s n=some (dmem abc n (s.fld 2).asList ak5):=by
 generalize J:(s.fld 2).asList=l at h;have H:=abj (step:=S66_3step 0) (λi=>((),(),l,(l.length:Int),((i:Nat):Int),n,ak5)) l (λx=>abc x==n) (λx=>.inl ((),true,n,x)) (.inr ((),n,ak5)) (λi o=>by
  simp only [S66_3step,S66_3,decL i _ o,Af,aab,Ag o,Ai,aae o,F67,Aa,aax i (by omega),abc];cases ((l[i]).fld 1).asInt==n<;>rfl) (by
  simp only [S66_3step,S66_3,decN,Ah]) l.length 0 (by omega)
 rw [Ap] at H;have I:aag 0 (S66_3step 0) ((),(),l,(l.length:Int),(0:Int),n,ak5)=_:=H;unfold F27 F66;rw [J];change ((Option.bind (aag 0 (S66_3step 0) ((),(),l,(l.length:Int),(0:Int),n,ak5)) _).bind _)=_;rw [I];unfold dmem fst;cases l.find? (λx=>abc x==n)<;>rfl
theorem firstT (s:PV) (n:Bt) (h:(s.fld 1).asList.length<=1048576):F98 0 s n=some (dmem aac n (s.fld 1).asList agm):=by
 generalize J:(s.fld 1).asList=l at h;have H:=abj (step:=S98_3step 0) (λi=>(n,(),l,(l.length:Int),((i:Nat):Int),s,agm)) l (λx=>aac x==n) (λx=>.inl ((),true,s,x)) (.inr ((),s,agm)) (λi o=>by
  simp only [S98_3step,S98_3,decL i _ o,Af,aab,Ag o,Ai,aae o,aax i (by omega),aac];cases ((l[i]).fld 0).asStr==n<;>rfl) (by
  simp only [S98_3step,S98_3,decN,Ah]) l.length 0 (by omega)
 rw [Ap] at H;have I:aag 0 (S98_3step 0) (n,(),l,(l.length:Int),(0:Int),s,agm)=_:=H;unfold F98;rw [J];dsimp only;change (Option.bind (aag 0 (S98_3step 0) (n,(),l,(l.length:Int),(0:Int),s,agm)) _)=_;rw [I];unfold dmem fst;cases l.find? (λx=>aac x==n)<;>rfl
noncomputable def adi (a b:PV):List PV:=
 (a.fld 1).asList.flatMap (cmn kNum (act (aac a)) (λf=>chg 3 (aac a) (f.fld 0).asInt (f.fld 1).asStr []) (b.fld 1).asList)++(b.fld 1).asList.flatMap (nws kNum (λf=>chg 4 (aac a) (f.fld 0).asInt [] (f.fld 1).asStr) (a.fld 1).asList)
theorem az1 {a b:PV}{acc:List PV} (M:OkMsg a) (O:OkMsg b) (h:acc.length+(adi a b).length<=90000000):F51 0 () a b acc=some (acc++adi a b):=by
 have la:=M.fields;have lb:=O.fields;unfold adi at h ⊢;rw [Ak] at h;generalize J:(a.fld 1).asList=A at h la ⊢;generalize hB:(b.fld 1).asList=B at h lb ⊢;have Z:=aa1 (step:=S51_3step 0) (λi c=>((),(),(),A,(A.length:Int),((i:Nat):Int),c,a,b)) A (cmn kNum (act (aac a)) (λf=>chg 3 (aac a) (f.fld 0).asInt (f.fld 1).asStr []) B) (λc=>((),(),(),c,a,b)) 90000000 (λi c o hc=>by
  have fa:OkFld A[i]:=M.field _ (by rw [J];exact List.getElem_mem o);simp only [S51_3step,S51_3,decL i _ o,Af,aab,Ag o,Ai,aae o,az4 b _ O.fields,Aa,aax i (by omega),hB];unfold dmem cmn;have e:fst kNum (A[i].fld 0).asInt B=fst kNum (kNum A[i]) B:=rfl;rw [e];cases hf:fst kNum (kNum A[i]) B with
  | some y=>have fb:OkFld y:=O.field _ (by rw [hB];exact aaz hf);dsimp only;rw [Af,az0 fa fb (by omega)];rfl
  | none=>dsimp only;rw [Ah,cadd (by simp only [Am,Ao];omega)];rfl) (λc=>by
  simp only [S51_3step,S51_3,decN,Ah]) A.length 0 acc (Nat.zero_add _) (by rw [Ap];omega)
 rw [Ap] at Z;have h2:=aa1 (step:=S51_11step 0) (λi c=>((),(),B,(B.length:Int),((i:Nat):Int),c,a,b)) B (nws kNum (λf=>chg 4 (aac a) (f.fld 0).asInt [] (f.fld 1).asStr) A) (λc=>(c,a,b)) 90000000 (λi c o hc=>by
  simp only [S51_11step,S51_11,decL i _ o,Af,aab,Ag o,Ai,aae o,az4 a _ M.fields,Aa,aax i (by omega),J];unfold dmem nws;have e:fst kNum (B[i].fld 0).asInt A=fst kNum (kNum B[i]) A:=rfl;rw [e];cases hf:fst kNum (kNum B[i]) A with
  | some y=>dsimp only;rw [Az,Ah,List.append_nil]
  | none=>dsimp only;rw [Ay,Af,cadd (by simp only [Am,Ao];omega)];rfl) (λc=>by
  simp only [S51_11step,S51_11,decN,Ah]) B.length 0 (acc++A.flatMap (cmn kNum (act (aac a)) (λf=>chg 3 (aac a) (f.fld 0).asInt (f.fld 1).asStr []) B)) (Nat.zero_add _) (by rw [Ap,Ak];omega)
 rw [Ap] at h2;have H:aag 0 (S51_3step 0) ((),(),(),A,(A.length:Int),(0:Int),acc,a,b)=_:=Z;have I:aag 0 (S51_11step 0) ((),(),B,(B.length:Int),(0:Int),_,a,b)=_:=h2;unfold F51;dsimp only;rw [J,H,Aa];dsimp only;rw [hB,I,Aa,Ar]
def aif (d:Bt) (x y:PV):List PV:=dif (!((x.fld 0).asStr==(y.fld 0).asStr)) (chg 16 d (x.fld 1).asInt (x.fld 0).asStr (y.fld 0).asStr)
def awc (a b:PV):List PV:=
 (a.fld 2).asList.flatMap (cmn abc (aif (aac a)) (λf=>chg 14 (aac a) (f.fld 1).asInt (f.fld 0).asStr []) (b.fld 2).asList)++(b.fld 2).asList.flatMap (nws abc (λf=>chg 15 (aac a) (f.fld 1).asInt [] (f.fld 0).asStr) (a.fld 2).asList)
def akq (a b:PV):List PV:=dif (!((a.fld 1).asBool==(b.fld 1).asBool)) (chg 13 (aac a) (-1) (akr (a.fld 1).asBool) (akr (b.fld 1).asBool))
def aje (a b:PV):List PV:=akq a b++awc a b
theorem a4s {a b:PV}{acc:List PV} (Z:OkEnum a) (hb:OkEnum b) (h:acc.length+(aje a b).length<=90000000):F52 0 () a b acc=some (acc++aje a b):=by
 have la:=Z.items;have lb:=hb.items;unfold aje awc at h ⊢;rw [Ak,Ak] at h;have ho:=ab2 (!((a.fld 1).asBool==(b.fld 1).asBool)) (chg 13 (aac a) (-1) (akr (a.fld 1).asBool) (akr (b.fld 1).asBool));change (akq a b).length<=1 at ho;unfold F52;rw [awr,Aa,awr,Aa,ae9 (by omega),Aa];change (let H:=(a.fld 2).asList;Option.bind (aag 0 (S52_4step 0) ((),(),(),H,(H.length:Int),(0:Int),acc++akq a b,a,b)) _)=_;dsimp only;generalize hA:(a.fld 2).asList=A at h la ⊢;generalize hB:(b.fld 2).asList=B at h lb ⊢;have M:=aa1 (step:=S52_4step 0) (λi c=>((),(),(),A,(A.length:Int),((i:Nat):Int),c,a,b)) A (cmn abc (aif (aac a)) (λf=>chg 14 (aac a) (f.fld 1).asInt (f.fld 0).asStr []) B) (λc=>((),(),(),c,a,b)) 90000000 (λi c o hc=>by
  simp only [S52_4step,S52_4,decL i _ o,Af,aab,Ag o,Ai,aae o,az5 b _ hb.items,Aa,aax i (by omega),hB];unfold dmem cmn;have e:fst abc (A[i].fld 1).asInt B=fst abc (abc A[i]) B:=rfl;rw [e];cases hf:fst abc (abc A[i]) B with
  | some y=>dsimp only;rw [Af,ae9 (by omega)];rfl
  | none=>dsimp only;rw [Ah,cadd (by simp only [Am,Ao];omega)];rfl) (λc=>by
  simp only [S52_4step,S52_4,decN,Ah]) A.length 0 (acc++akq a b) (Nat.zero_add _) (by rw [Ap,Ak];omega)
 rw [Ap] at M;have O:=aa1 (step:=S52_12step 0) (λi c=>((),(),B,(B.length:Int),((i:Nat):Int),c,a,b)) B (nws abc (λf=>chg 15 (aac a) (f.fld 1).asInt [] (f.fld 0).asStr) A) (λc=>(c,a,b)) 90000000 (λi c o hc=>by
  simp only [S52_12step,S52_12,decL i _ o,Af,aab,Ag o,Ai,aae o,az5 a _ Z.items,Aa,aax i (by omega),hA];unfold dmem nws;have e:fst abc (B[i].fld 1).asInt A=fst abc (abc B[i]) A:=rfl;rw [e];cases hf:fst abc (abc B[i]) A with
  | some y=>dsimp only;rw [Az,Ah,List.append_nil]
  | none=>dsimp only;rw [Ay,Af,cadd (by simp only [Am,Ao];omega)];rfl) (λc=>by
  simp only [S52_12step,S52_12,decN,Ah]) B.length 0 ((acc++akq a b)++A.flatMap (cmn abc (aif (aac a)) (λf=>chg 14 (aac a) (f.fld 1).asInt (f.fld 0).asStr []) B)) (Nat.zero_add _) (by rw [Ap,Ak,Ak];omega)
 rw [Ap] at O;have I:aag 0 (S52_4step 0) ((),(),(),A,(A.length:Int),(0:Int),acc++akq a b,a,b)=_:=M;have J:aag 0 (S52_12step 0) ((),(),B,(B.length:Int),(0:Int),_,a,b)=_:=O;rw [I,Aa];dsimp only;rw [hB,J,Aa,Ar,Ar]
def acx (m:PV):Bt:=(((m.fld 0).asStr++[58,32])++(m.fld 1).asStr++[32,45,62,32])++(m.fld 2).asStr
theorem awu {m:PV} (h:OkMeth m):F99 0 m=some (acx m):=by have o:=h.name;have H:=h.inn;have I:=h.out;unfold F99;dsimp only;rw [Ag (show (m.fld 0).asStr.length+([58,32]:Bt).length<=aao by simp only [Am,Ao];unfold aao;omega),Af];rw [Ag (show ((m.fld 0).asStr++([58,32]:Bt)).length+(m.fld 1).asStr.length<=aao by simp only [Ak,Am,Ao];unfold aao;omega),Af];rw [Ag (show (((m.fld 0).asStr++([58,32]:Bt))++(m.fld 1).asStr).length+([32,45,62,32]:Bt).length<=aao by simp only [Ak,Am,Ao];unfold aao;omega),Af];rw [Ag (show ((((m.fld 0).asStr++([58,32]:Bt))++(m.fld 1).asStr)++([32,45,62,32]:Bt)).length+(m.fld 2).asStr.length<=aao by simp only [Ak,Am,Ao];unfold aao;omega),Af];rfl
theorem ao4 {m:PV} (h:OkMeth m):(acx m).length<=4000000:=by have o:=h.name;have H:=h.inn;have I:=h.out;unfold acx;simp only [Ak,Am,Ao];omega
def ne21 (x y:PV):Bool:=bif !((x.fld 1).asStr==(y.fld 1).asStr) then true else !((x.fld 2).asStr==(y.fld 2).asStr)
def ne22 (x y:PV):Bool:=(x.fld 3).asInt != (y.fld 3).asInt
def shT (x y:PV):Bt:=((x.fld 0).asStr++[58,32])++ags (y.fld 3).asInt
def agd (d:Bt) (x y:PV):List PV:=dif (ne21 x y) (chg 21 d (-1) (acx x) (acx y))++dif (ne22 x y) (chg 22 d (-1) (shT x x) (shT x y))
def svcC (a b:PV):List PV:=
 (a.fld 1).asList.flatMap (cmn aac (agd (aac a)) (λf=>chg 19 (aac a) (-1) (f.fld 0).asStr []) (b.fld 1).asList)++(b.fld 1).asList.flatMap (nws aac (λf=>chg 20 (aac a) (-1) [] (f.fld 0).asStr) (a.fld 1).asList)
theorem ax8 {a b:PV}{acc:List PV} (M:OkSvc a) (O:OkSvc b) (h:acc.length+(svcC a b).length<=90000000):F53 0 () a b acc=some (acc++svcC a b):=by
 have la:=M.meths;have lb:=O.meths;unfold svcC at h ⊢;rw [Ak] at h;generalize J:(a.fld 1).asList=A at h la ⊢;generalize hB:(b.fld 1).asList=B at h lb ⊢;have h1:=aa1 (step:=S53_3step 0) (λi c=>((),(),(),A,(A.length:Int),((i:Nat):Int),c,a,b)) A (cmn aac (agd (aac a)) (λf=>chg 19 (aac a) (-1) (f.fld 0).asStr []) B) (λc=>((),(),(),c,a,b)) 90000000 (λi c o hc=>by
  have Z:OkMeth A[i]:=M.meth _ (by rw [J];exact List.getElem_mem o);have aa:=Z.name;simp only [S53_3step,S53_3,decL i _ o,Af,aab,Ag o,Ai,aae o,firstT b _ O.meths,Aa,aax i (by omega),hB];unfold dmem cmn;have e:fst aac (A[i].fld 0).asStr B=fst aac (aac A[i]) B:=rfl;rw [e];cases hf:fst aac (aac A[i]) B with
  | some y=>have fb:OkMeth y:=O.meth _ (by rw [hB];exact aaz hf);have d1:=ab2 (ne21 A[i] y) (chg 21 (aac a) (-1) (acx A[i]) (acx y));have s1:=ael (A[i].fld 3).asInt;have s2:=ael (y.fld 3).asInt;dsimp only;rw [Az,Ah,awu Z,Aa,awu fb,Aa,ae9 (by omega),Aa];rw [Ag (show (A[i].fld 0).asStr.length+([58,32]:Bt).length<=aao by simp only [Am,Ao];unfold aao;omega),Af,ass,Aa];rw [Ag (show ((A[i].fld 0).asStr++([58,32]:Bt)).length+(ags (A[i].fld 3).asInt).length<=aao by simp only [Ak,Am,Ao];unfold aao;omega),Af,Af,ass,Aa];rw [Ag (show ((A[i].fld 0).asStr++([58,32]:Bt)).length+(ags (y.fld 3).asInt).length<=aao by simp only [Ak,Am,Ao];unfold aao;omega),Af];rw [ae9 (by rw [Ak];change c.length+(dif (ne21 A[i] y) (chg 21 (aac a) (-1) (acx A[i]) (acx y))).length+1<=_;omega),Aa,Ar];rfl
  | none=>dsimp only;rw [Ay,Af,cadd (by simp only [Am,Ao];omega)];rfl) (λc=>by
  simp only [S53_3step,S53_3,decN,Ah]) A.length 0 acc (Nat.zero_add _) (by rw [Ap];omega)
 rw [Ap] at h1;have h2:=aa1 (step:=S53_12step 0) (λi c=>((),(),B,(B.length:Int),((i:Nat):Int),c,a,b)) B (nws aac (λf=>chg 20 (aac a) (-1) [] (f.fld 0).asStr) A) (λc=>(c,a,b)) 90000000 (λi c o hc=>by
  simp only [S53_12step,S53_12,decL i _ o,Af,aab,Ag o,Ai,aae o,firstT a _ M.meths,Aa,aax i (by omega),J];unfold dmem nws;have e:fst aac (B[i].fld 0).asStr A=fst aac (aac B[i]) A:=rfl;rw [e];cases hf:fst aac (aac B[i]) A with
  | some y=>dsimp only;rw [Az,Ah,List.append_nil]
  | none=>dsimp only;rw [Ay,Af,cadd (by simp only [Am,Ao];omega)];rfl) (λc=>by
  simp only [S53_12step,S53_12,decN,Ah]) B.length 0 (acc++A.flatMap (cmn aac (agd (aac a)) (λf=>chg 19 (aac a) (-1) (f.fld 0).asStr []) B)) (Nat.zero_add _) (by rw [Ap,Ak];omega)
 rw [Ap] at h2;have H:aag 0 (S53_3step 0) ((),(),(),A,(A.length:Int),(0:Int),acc,a,b)=_:=h1;have I:aag 0 (S53_12step 0) ((),(),B,(B.length:Int),(0:Int),_,a,b)=_:=h2;unfold F53;dsimp only;rw [J,H,Aa];dsimp only;rw [hB,I,Aa,Ar]
noncomputable def gM (a b:PV):List PV:=(a.fld 0).asList.flatMap (cmn aac adi (λm=>chg 1 (aac m) (-1) [] []) (b.fld 0).asList)
def gE (a b:PV):List PV:=(a.fld 1).asList.flatMap (cmn aac aje (λm=>chg 11 (aac m) (-1) [] []) (b.fld 1).asList)
def gS (a b:PV):List PV:=(a.fld 2).asList.flatMap (cmn aac svcC (λm=>chg 17 (aac m) (-1) [] []) (b.fld 2).asList)
def nM (a b:PV):List PV:=(b.fld 0).asList.flatMap (nws aac (λm=>chg 2 (aac m) (-1) [] []) (a.fld 0).asList)
def nE (a b:PV):List PV:=(b.fld 1).asList.flatMap (nws aac (λm=>chg 12 (aac m) (-1) [] []) (a.fld 1).asList)
def nS (a b:PV):List PV:=(b.fld 2).asList.flatMap (nws aac (λm=>chg 18 (aac m) (-1) [] []) (a.fld 2).asList)
noncomputable def aiw (a b:PV):List PV:=gM a b++(gE a b++gS a b)
noncomputable def raw (a b:PV):List PV:=aiw a b++(nM a b++(nE a b++nS a b))
theorem a8h {a b:PV}{acc:List PV} (J:SOk a) (M:SOk b) (h:acc.length+(aiw a b).length<=90000000):F19 0 () a b acc=some (acc++aiw a b):=by
 have l0:=J.len.m;have l1:=J.len.e;have l2:=J.len.v;have m0:=M.len.m;have m1:=M.len.e;have m2:=M.len.v;unfold aiw at h ⊢;rw [Ak,Ak] at h;have h1:=aa1 (step:=S19_3step 0) (λi c=>((),(),(),(a.fld 0).asList,((a.fld 0).asList.length:Int),((i:Nat):Int),c,a,b)) (a.fld 0).asList (cmn aac adi (λm=>chg 1 (aac m) (-1) [] []) (b.fld 0).asList) (λc=>((),(),(),c,a,b)) 90000000 (λi c H o=>by
  have O:OkMsg (a.fld 0).asList[i]:=J.msg _ (List.getElem_mem H);simp only [S19_3step,S19_3,decL i _ H,Af,aab,Ag H,Ai,aae H,av3 b _ m0,Aa,aax i (by omega)];unfold dmem;unfold cmn at o ⊢;have e:fst aac ((a.fld 0).asList[i].fld 0).asStr (b.fld 0).asList=fst aac (aac (a.fld 0).asList[i]) (b.fld 0).asList:=rfl;rw [e];cases I:fst aac (aac (a.fld 0).asList[i]) (b.fld 0).asList with
  | some y=>rw [I] at o;have Z:OkMsg y:=M.msg _ (aaz I);dsimp only at o ⊢;rw [Af,az1 O Z o];rfl
  | none=>dsimp only;rw [Ah,cadd (by simp only [Am,Ao];omega)];rfl) (λc=>by
  simp only [S19_3step,S19_3,decN,Ah]) _ 0 acc (Nat.zero_add _) (by rw [Ap];change _+(gM a b).length<=_;omega)
 rw [Ap] at h1;have h2:=aa1 (step:=S19_11step 0) (λi c=>((),(),(),(a.fld 1).asList,((a.fld 1).asList.length:Int),((i:Nat):Int),c,a,b)) (a.fld 1).asList (cmn aac aje (λm=>chg 11 (aac m) (-1) [] []) (b.fld 1).asList) (λc=>((),(),(),c,a,b)) 90000000 (λi c H o=>by
  have O:OkEnum (a.fld 1).asList[i]:=J.enum _ (List.getElem_mem H);simp only [S19_11step,S19_11,decL i _ H,Af,aab,Ag H,Ai,aae H,av2 b _ m1,Aa,aax i (by omega)];unfold dmem;unfold cmn at o ⊢;have e:fst aac ((a.fld 1).asList[i].fld 0).asStr (b.fld 1).asList=fst aac (aac (a.fld 1).asList[i]) (b.fld 1).asList:=rfl;rw [e];cases I:fst aac (aac (a.fld 1).asList[i]) (b.fld 1).asList with
  | some y=>rw [I] at o;have Z:OkEnum y:=M.enum _ (aaz I);dsimp only at o ⊢;rw [Af,a4s O Z o];rfl
  | none=>dsimp only;rw [Ah,cadd (by simp only [Am,Ao];omega)];rfl) (λc=>by
  simp only [S19_11step,S19_11,decN,Ah]) _ 0 (acc++gM a b) (Nat.zero_add _) (by rw [Ap,Ak];change _+(gE a b).length<=_;omega)
 rw [Ap] at h2;have h3:=aa1 (step:=S19_19step 0) (λi c=>((),(),(a.fld 2).asList,((a.fld 2).asList.length:Int),((i:Nat):Int),c,a,b)) (a.fld 2).asList (cmn aac svcC (λm=>chg 17 (aac m) (-1) [] []) (b.fld 2).asList) (λc=>(c,a,b)) 90000000 (λi c H o=>by
  have O:OkSvc (a.fld 2).asList[i]:=J.svc _ (List.getElem_mem H);simp only [S19_19step,S19_19,decL i _ H,Af,aab,Ag H,Ai,aae H,av4 b _ m2,Aa,aax i (by omega)];unfold dmem;unfold cmn at o ⊢;have e:fst aac ((a.fld 2).asList[i].fld 0).asStr (b.fld 2).asList=fst aac (aac (a.fld 2).asList[i]) (b.fld 2).asList:=rfl;rw [e];cases I:fst aac (aac (a.fld 2).asList[i]) (b.fld 2).asList with
  | some y=>rw [I] at o;have Z:OkSvc y:=M.svc _ (aaz I);dsimp only at o ⊢;rw [Af,ax8 O Z o];rfl
  | none=>dsimp only;rw [Ah,cadd (by simp only [Am,Ao];omega)];rfl) (λc=>by
  simp only [S19_19step,S19_19,decN,Ah]) _ 0 ((acc++gM a b)++gE a b) (Nat.zero_add _) (by rw [Ap,Ak,Ak];change _+(gS a b).length<=_;omega)
 rw [Ap] at h3;have aa:aag 0 (S19_3step 0) ((),(),(),(a.fld 0).asList,((a.fld 0).asList.length:Int),(0:Int),acc,a,b)=some ((),(),(),acc++gM a b,a,b):=h1;have ab:aag 0 (S19_11step 0) ((),(),(),(a.fld 1).asList,((a.fld 1).asList.length:Int),(0:Int),acc++gM a b,a,b)=some ((),(),(),(acc++gM a b)++gE a b,a,b):=h2;have ad:aag 0 (S19_19step 0) ((),(),(a.fld 2).asList,((a.fld 2).asList.length:Int),(0:Int),(acc++gM a b)++gE a b,a,b)=some (((acc++gM a b)++gE a b)++gS a b,a,b):=h3;unfold F19;dsimp only;rw [aa,Aa];dsimp only;rw [ab,Aa];dsimp only;rw [ad,Aa,Ar,Ar]
theorem aw9 {a b:PV} (H:SOk a) (I:SOk b) (h:(raw a b).length<=90000000):F10 0 a b=(F24 0 (raw a b)).bind λy=>some y:=by
 have l0:=H.len.m;have l1:=H.len.e;have l2:=H.len.v;have m0:=I.len.m;have m1:=I.len.e;have m2:=I.len.v;unfold raw at h ⊢;rw [Ak,Ak,Ak] at h;have Z:=aa1 (step:=S10_5step 0) (λi c=>((),(),(),(b.fld 0).asList,((b.fld 0).asList.length:Int),((i:Nat):Int),a,b,c)) (b.fld 0).asList (nws aac (λm=>chg 2 (aac m) (-1) [] []) (a.fld 0).asList) (λc=>((),(),(),a,b,c)) 90000000 (λi c o hc=>by
  simp only [S10_5step,S10_5,decL i _ o,Af,aab,Ag o,Ai,aae o,av3 a _ l0,Aa,aax i (by omega)];unfold dmem nws;have e:fst aac ((b.fld 0).asList[i].fld 0).asStr (a.fld 0).asList=fst aac (aac (b.fld 0).asList[i]) (a.fld 0).asList:=rfl;rw [e];cases hf:fst aac (aac (b.fld 0).asList[i]) (a.fld 0).asList with
  | some y=>dsimp only;rw [Az,Ah,List.append_nil]
  | none=>dsimp only;rw [Ay,Af,cadd (by simp only [Am,Ao];omega)];rfl) (λc=>by
  simp only [S10_5step,S10_5,decN,Ah]) _ 0 (aiw a b) (Nat.zero_add _) (by rw [Ap];change _+(nM a b).length<=_;omega)
 rw [Ap] at Z;have h2:=aa1 (step:=S10_12step 0) (λi c=>((),(),(),(b.fld 1).asList,((b.fld 1).asList.length:Int),((i:Nat):Int),a,b,c)) (b.fld 1).asList (nws aac (λm=>chg 12 (aac m) (-1) [] []) (a.fld 1).asList) (λc=>((),(),(),a,b,c)) 90000000 (λi c o hc=>by
  simp only [S10_12step,S10_12,decL i _ o,Af,aab,Ag o,Ai,aae o,av2 a _ l1,Aa,aax i (by omega)];unfold dmem nws;have e:fst aac ((b.fld 1).asList[i].fld 0).asStr (a.fld 1).asList=fst aac (aac (b.fld 1).asList[i]) (a.fld 1).asList:=rfl;rw [e];cases hf:fst aac (aac (b.fld 1).asList[i]) (a.fld 1).asList with
  | some y=>dsimp only;rw [Az,Ah,List.append_nil]
  | none=>dsimp only;rw [Ay,Af,cadd (by simp only [Am,Ao];omega)];rfl) (λc=>by
  simp only [S10_12step,S10_12,decN,Ah]) _ 0 (aiw a b++nM a b) (Nat.zero_add _) (by rw [Ap,Ak];change _+(nE a b).length<=_;omega)
 rw [Ap] at h2;have h3:=aa1 (step:=S10_19step 0) (λi c=>((),(),(b.fld 2).asList,((b.fld 2).asList.length:Int),((i:Nat):Int),a,b,c)) (b.fld 2).asList (nws aac (λm=>chg 18 (aac m) (-1) [] []) (a.fld 2).asList) (λc=>((),a,b,c)) 90000000 (λi c o hc=>by
  simp only [S10_19step,S10_19,decL i _ o,Af,aab,Ag o,Ai,aae o,av4 a _ l2,Aa,aax i (by omega)];unfold dmem nws;have e:fst aac ((b.fld 2).asList[i].fld 0).asStr (a.fld 2).asList=fst aac (aac (b.fld 2).asList[i]) (a.fld 2).asList:=rfl;rw [e];cases hf:fst aac (aac (b.fld 2).asList[i]) (a.fld 2).asList with
  | some y=>dsimp only;rw [Az,Ah,List.append_nil]
  | none=>dsimp only;rw [Ay,Af,cadd (by simp only [Am,Ao];omega)];rfl) (λc=>by
  simp only [S10_19step,S10_19,decN,Ah]) _ 0 ((aiw a b++nM a b)++nE a b) (Nat.zero_add _) (by rw [Ap,Ak,Ak];change _+(nS a b).length<=_;omega)
 rw [Ap] at h3;have J:aag 0 (S10_5step 0) ((),(),(),(b.fld 0).asList,((b.fld 0).asList.length:Int),(0:Int),a,b,aiw a b)=some ((),(),(),a,b,aiw a b++nM a b):=Z;have M:aag 0 (S10_12step 0) ((),(),(),(b.fld 1).asList,((b.fld 1).asList.length:Int),(0:Int),a,b,aiw a b++nM a b)=some ((),(),(),a,b,(aiw a b++nM a b)++nE a b):=h2;have O:aag 0 (S10_19step 0) ((),(),(b.fld 2).asList,((b.fld 2).asList.length:Int),(0:Int),a,b,(aiw a b++nM a b)++nE a b)=some ((),a,b,((aiw a b++nM a b)++nE a b)++nS a b):=h3;unfold F10;rw [a8h H I (by simp only [Ao];omega),Aa,Ba];dsimp only;rw [J,Aa];dsimp only;rw [M,Aa];dsimp only;rw [O,Aa,Ar,Ar]
end Go.Ab
