/- What evolve.Compare collects. -/
import Derived.Test.YtodichgnoiaanaaGreatDoorPSrt5T
set_option linter.unusedVariables false
set_option linter.unusedSimpArgs false
set_option linter.unnecessarySimpa false
namespace Go.Ab
open Go
set_option maxRecDepth 100000
theorem aba {o I H:Type}{step:o->Option (o⊕I)} (st:Nat->List PV->o) (xs:List H) (g:H->List PV) (h:List PV->I) (N:Nat)
 (J:∀ i acc (M:i<xs.length),acc.length+(g xs[i]).length<=N->step (st i acc)=some (.inl (st (i+1) (acc++g xs[i]))))
 (z:∀ acc,step (st xs.length acc)=some (.inr (h acc))):
 ∀ k i acc,i+k=xs.length->acc.length+((xs.drop i).flatMap g).length<=N->aa3 step (st i acc)=some (h (acc++(xs.drop i).flatMap g)):=by
 intro k
 induction k with
 | zero=>grind [aai]
 | succ k O=>grind [List.drop_eq_getElem_cons,List.length_append,aao,List.append_assoc]
theorem acj {H I z:Type}{step:H->Option (H⊕I)} (st:Nat->H) (xs:List z) (p:z->Bool) (o:z->I) (h:I)
 (M:∀ i (O:i<xs.length),step (st i)=some (bif p xs[i] then .inr (o xs[i]) else .inl (st (i+1)))) (J:step (st xs.length)=some (.inr h)):
 ∀ k i,i+k=xs.length->aa3 step (st i)=some (match (xs.drop i).find? p with | some x=>o x | none=>h):=by
 intro k
 induction k with
 | zero=>grind [aai]
 | succ k Z=>grind [List.drop_eq_getElem_cons,aai,aao]
def chg (k:Int) (d:Bo) (n:Int) (o w:Bo):PV:=.agg [.int k,.str d,.int n,.str o,.str w]
def dif (b:Bool) (c:PV):List PV:=bif b then [c] else []
theorem ada (b:Bool) (c:PV):(dif b c).length<=1:=by grind [dif]
theorem cadd {l acc:List PV} (h:acc.length+l.length<=100000000):F30 0 () l acc=some (acc++l):=by grind [F30,decide_eq_true,aae]
theorem afp {k n:Int}{d o w:Bo}{b:Bool}{acc:List PV} (h:acc.length+1<=100000000):F122 0 () k d n o w b acc=some (acc++dif b (chg k d n o w)):=by
 unfold F122;cases b with
 | false=>simp [dif]
 | true=>rw [cadd (by simpa using h)];rfl
def aiy (c:Int):Bo:=bif c==1 then [114,101,113,117,105,114,101,100] else bif c==2 then [111,112,116,105,111,110,97,108] else bif c==3 then [112,108,97,105,110] else bif c==4 then [108,105,115,116] else bif c==5 then [109,97,112] else []
theorem aya (c:Int):F163 0 c=some (aiy c):=by grind [F163,aiy]
def ahd (c:Int):Bo:=bif c==1 then [117,110,97,114,121] else bif c==2 then [115,101,114,118,101,114] else bif c==3 then [99,108,105,101,110,116] else bif c==4 then [98,111,116,104] else []
theorem au5 (c:Int):F127 0 c=some (ahd c):=by grind [F127,ahd]
theorem aex (c:Int):(ahd c).length<=6:=by unfold ahd;cases c==(1:Int)<;>cases c==(2:Int)<;>cases c==(3:Int)<;>cases c==(4:Int)<;>simp
theorem atc (c:Int):(aiy c).length<=8:=by unfold aiy;cases c==(1:Int)<;>cases c==(2:Int)<;>cases c==(3:Int)<;>cases c==(4:Int)<;>cases c==(5:Int)<;>simp
def amt (b:Bool):Bo:=bif b then [111,112,101,110] else [99,108,111,115,101,100]
theorem ay4 (b:Bool):F123 0 b=some (amt b):=by cases b<;>rfl
theorem aun (b:Bool):(amt b).length<=6:=by cases b<;>simp [amt]
noncomputable def litF (f:PV):Bo:=bif (f.fld 6).asBool then litT (f.fld 7) else []
theorem a4p (f:PV) (h:ac7 (f.fld 7)):F165 0 f=some (litF f):=by grind [F165,litF,bd5,asBool]
theorem ayu (f:PV) (h:ac7 (f.fld 7)):(litF f).length<=5000000:=by grind [a9a,litF,asBool]
def ne5 (a b:PV):Bool:=!((a.fld 1).asStr==(b.fld 1).asStr)
def ne6 (a b:PV):Bool:=bif (((a.fld 4).fld 0).asInt != ((b.fld 4).fld 0).asInt) then true else (!(((a.fld 4).fld 1).asStr==((b.fld 4).fld 1).asStr))
def ne7 (a b:PV):Bool:=(a.fld 2).asInt != (b.fld 2).asInt
def ne8 (a b:PV):Bool:=(a.fld 3).asInt != (b.fld 3).asInt
def ne9 (a b:PV):Bool:=!((a.fld 5).asStr==(b.fld 5).asStr)
def ne10 (a b:PV):Bool:=bif (bif (bif (!((a.fld 6).asBool==(b.fld 6).asBool)) then true else (((a.fld 7).fld 0).asInt != ((b.fld 7).fld 0).asInt)) then true else (((a.fld 7).fld 1).asInt != ((b.fld 7).fld 1).asInt)) then true else (!(((a.fld 7).fld 2).asStr==((b.fld 7).fld 2).asStr))
noncomputable def acw (d:Bo) (a b:PV):List PV:=
 dif (ne5 a b) (chg 5 d (a.fld 0).asInt (a.fld 1).asStr (b.fld 1).asStr)++(dif (ne6 a b) (chg 6 d (a.fld 0).asInt (ahi (a.fld 4)) (ahi (b.fld 4)))++(dif (ne7 a b) (chg 7 d (a.fld 0).asInt (aiy (a.fld 2).asInt) (aiy (b.fld 2).asInt))++(dif (ne8 a b) (chg 8 d (a.fld 0).asInt (kw (a.fld 3).asInt) (kw (b.fld 3).asInt))++(dif (ne9 a b) (chg 9 d (a.fld 0).asInt (a.fld 5).asStr (b.fld 5).asStr)++dif (ne10 a b) (chg 10 d (a.fld 0).asInt (litF a) (litF b))))))
theorem a2v {d:Bo}{a b:PV}{acc:List PV} (o:OkFld a) (z:OkFld b) (h:acc.length<=90000000):F121 0 () d a b acc=some (acc++acw d a b):=by have H:=ada (ne5 a b) (chg 5 d (a.fld 0).asInt (a.fld 1).asStr (b.fld 1).asStr);have I:=ada (ne6 a b) (chg 6 d (a.fld 0).asInt (ahi (a.fld 4)) (ahi (b.fld 4)));have J:=ada (ne7 a b) (chg 7 d (a.fld 0).asInt (aiy (a.fld 2).asInt) (aiy (b.fld 2).asInt));have M:=ada (ne8 a b) (chg 8 d (a.fld 0).asInt (kw (a.fld 3).asInt) (kw (b.fld 3).asInt));have O:=ada (ne9 a b) (chg 9 d (a.fld 0).asInt (a.fld 5).asStr (b.fld 5).asStr);unfold F121;rw [afp (by omega),Aa,a6r _ o.type,Aa,a6r _ z.type,Aa];rw [afp (by grind [List.length_append,dif,ne5]),Aa,aya,Aa,aya,Aa];rw [afp (by grind [List.length_append,dif,ne5,ne6]),Aa,bcf,Aa,bcf,Aa];rw [afp (by grind [List.length_append,dif,ne5,ne6,ne7]),Aa];rw [afp (by rw [Al,Al,Al,Al];grind [dif,ne5,ne6,ne7,ne8]),Aa];dsimp only;rw [a4p _ o.dflt,Aa,a4p _ z.dflt,Aa];rw [afp (by rw [Al,Al,Al,Al,Al];grind [dif,ne5,ne6,ne7,ne8,ne9]),Aa];simp only [As];rfl
theorem aqe (d:Bo) (a b:PV):(acw d a b).length<=6:=by have h:=ada (ne5 a b) (chg 5 d (a.fld 0).asInt (a.fld 1).asStr (b.fld 1).asStr);have o:=ada (ne6 a b) (chg 6 d (a.fld 0).asInt (ahi (a.fld 4)) (ahi (b.fld 4)));grind [ada,ne7,chg,asInt,aiy,ne8,kw,ne9,ne10,litF,acw,List.length_append]
def fst {h:Type} [BEq h] (key:PV->h) (k:h) (l:List PV):Option PV:=l.find? λx=>key x==k
def cmn {h:Type} [BEq h] (key:PV->h) (both:PV->PV->List PV) (gone:PV->PV) (B:List PV) (x:PV):List PV:=match fst key (key x) B with | some y=>both x y | none=>[gone x]
def nws {h:Type} [BEq h] (key:PV->h) (new:PV->PV) (A:List PV) (y:PV):List PV:=match fst key (key y) A with | some _=>[] | none=>[new y]
def kNum (x:PV):Int:=(x.fld 0).asInt
def abj (x:PV):Int:=(x.fld 1).asInt
def aad (x:PV):Bo:=(x.fld 0).asStr
def dmem {h:Type} [BEq h] (key:PV->h) (k:h) (l:List PV) (z:PV):PV×Bool:=match fst key k l with | some x=>(x,true) | none=>(z,false)
theorem abf {o:Type} [BEq o] {key:PV->o}{k:o}{l:List PV}{y:PV} (h:fst key k l=some y):y∈l:=List.mem_of_find?_eq_some h
def zMsg:PV:=PV.agg [(PV.str ([]:Bo)),(PV.slice []),(PV.slice []),(PV.slice []),(PV.slice [])]
def zFld:PV:=PV.agg [(PV.int (0:Int)),(PV.str ([]:Bo)),(PV.int (0:Int)),(PV.int (0:Int)),(PV.agg [(PV.int (0:Int)),(PV.str ([]:Bo))]),(PV.str ([]:Bo)),(PV.bool false),(PV.agg [(PV.int (0:Int)),(PV.int (0:Int)),(PV.str ([]:Bo)),(PV.slice []),(PV.slice []),(PV.slice []),(PV.slice [])]),(PV.slice [])]
def amv:PV:=PV.agg [(PV.str ([]:Bo)),(PV.bool false),(PV.slice []),(PV.slice []),(PV.slice [])]
def apz:PV:=PV.agg [(PV.str ([]:Bo)),(PV.int (0:Int)),(PV.slice [])]
def zSvc:PV:=PV.agg [(PV.str ([]:Bo)),(PV.slice []),(PV.slice [])]
def ap0:PV:=PV.agg [(PV.str ([]:Bo)),(PV.str ([]:Bo)),(PV.str ([]:Bo)),(PV.int (0:Int)),(PV.slice [])]
theorem ba6 (s:PV) (n:Bo) (h:(s.fld 0).asList.length<=1048576):F29 0 s n=some (dmem aad n (s.fld 0).asList zMsg):=by
 generalize I:(s.fld 0).asList=l at h;have z:=acj (step:=S72_3step 0) (λi=>((),(),l,(l.length:Int),((i:Nat):Int),n,zMsg)) l (λx=>aad x==n) (λx=>.inl ((),true,n,x)) (.inr ((),n,zMsg)) (λi o=>by
  simp only [S72_3step,S72_3,decL i _ o,Af,aaa,Ag o,Ai,aag o,F73,Aa,aat i (by omega),aad];grind) (by
  simp only [S72_3step,S72_3,decN,Ah]) l.length 0 (by omega)
 rw [Ap] at z;have H:aaf 0 (S72_3step 0) ((),(),l,(l.length:Int),(0:Int),n,zMsg)=_:=z;unfold F29 F72;rw [I];change ((Option.bind (aaf 0 (S72_3step 0) ((),(),l,(l.length:Int),(0:Int),n,zMsg)) _).bind _)=_;rw [H];unfold dmem fst;cases l.find? (λx=>aad x==n)<;>rfl
theorem ba3 (s:PV) (n:Bo) (h:(s.fld 1).asList.length<=1048576):F31 0 s n=some (dmem aad n (s.fld 1).asList amv):=by
 generalize I:(s.fld 1).asList=l at h;have z:=acj (step:=S74_3step 0) (λi=>((),(),l,(l.length:Int),((i:Nat):Int),n,amv)) l (λx=>aad x==n) (λx=>.inl ((),true,n,x)) (.inr ((),n,amv)) (λi o=>by
  simp only [S74_3step,S74_3,decL i _ o,Af,aaa,Ag o,Ai,aag o,F75,Aa,aat i (by omega),aad];grind) (by
  simp only [S74_3step,S74_3,decN,Ah]) l.length 0 (by omega)
 rw [Ap] at z;have H:aaf 0 (S74_3step 0) ((),(),l,(l.length:Int),(0:Int),n,amv)=_:=z;unfold F31 F74;rw [I];change ((Option.bind (aaf 0 (S74_3step 0) ((),(),l,(l.length:Int),(0:Int),n,amv)) _).bind _)=_;rw [H];unfold dmem fst;cases l.find? (λx=>aad x==n)<;>rfl
theorem ba7 (s:PV) (n:Bo) (h:(s.fld 2).asList.length<=1048576):F32 0 s n=some (dmem aad n (s.fld 2).asList zSvc):=by
 generalize I:(s.fld 2).asList=l at h;have z:=acj (step:=S76_3step 0) (λi=>((),(),l,(l.length:Int),((i:Nat):Int),n,zSvc)) l (λx=>aad x==n) (λx=>.inl ((),true,n,x)) (.inr ((),n,zSvc)) (λi o=>by
  simp only [S76_3step,S76_3,decL i _ o,Af,aaa,Ag o,Ai,aag o,F77,Aa,aat i (by omega),aad];grind) (by
  simp only [S76_3step,S76_3,decN,Ah]) l.length 0 (by omega)
 rw [Ap] at z;have H:aaf 0 (S76_3step 0) ((),(),l,(l.length:Int),(0:Int),n,zSvc)=_:=z;unfold F32 F76;rw [I];change ((Option.bind (aaf 0 (S76_3step 0) ((),(),l,(l.length:Int),(0:Int),n,zSvc)) _).bind _)=_;rw [H];unfold dmem fst;cases l.find? (λx=>aad x==n)<;>rfl
theorem ba4 (s:PV) (n:Int) (h:(s.fld 1).asList.length<=1048576):F120 0 s n=some (dmem kNum n (s.fld 1).asList zFld):=by
 generalize I:(s.fld 1).asList=l at h;have z:=acj (step:=S160_3step 0) (λi=>((),(),l,(l.length:Int),((i:Nat):Int),n,zFld)) l (λx=>kNum x==n) (λx=>.inl ((),true,n,x)) (.inr ((),n,zFld)) (λi o=>by
  simp only [S160_3step,S160_3,decL i _ o,Af,aaa,Ag o,Ai,aag o,F161,Aa,aat i (by omega),kNum];grind) (by
  simp only [S160_3step,S160_3,decN,Ah]) l.length 0 (by omega)
 rw [Ap] at z;have H:aaf 0 (S160_3step 0) ((),(),l,(l.length:Int),(0:Int),n,zFld)=_:=z;unfold F120 F160;rw [I];change ((Option.bind (aaf 0 (S160_3step 0) ((),(),l,(l.length:Int),(0:Int),n,zFld)) _).bind _)=_;rw [H];unfold dmem fst;cases l.find? (λx=>kNum x==n)<;>rfl
theorem ba5 (s:PV) (n:Int) (h:(s.fld 2).asList.length<=1048576):F124 0 s n=some (dmem abj n (s.fld 2).asList apz):=by
 generalize I:(s.fld 2).asList=l at h;have z:=acj (step:=S166_3step 0) (λi=>((),(),l,(l.length:Int),((i:Nat):Int),n,apz)) l (λx=>abj x==n) (λx=>.inl ((),true,n,x)) (.inr ((),n,apz)) (λi o=>by
  simp only [S166_3step,S166_3,decL i _ o,Af,aaa,Ag o,Ai,aag o,F167,Aa,aat i (by omega),abj];grind) (by
  simp only [S166_3step,S166_3,decN,Ah]) l.length 0 (by omega)
 rw [Ap] at z;have H:aaf 0 (S166_3step 0) ((),(),l,(l.length:Int),(0:Int),n,apz)=_:=z;unfold F124 F166;rw [I];change ((Option.bind (aaf 0 (S166_3step 0) ((),(),l,(l.length:Int),(0:Int),n,apz)) _).bind _)=_;rw [H];unfold dmem fst;cases l.find? (λx=>abj x==n)<;>rfl
theorem firstT (s:PV) (n:Bo) (h:(s.fld 1).asList.length<=1048576):F125 0 s n=some (dmem aad n (s.fld 1).asList ap0):=by
 generalize I:(s.fld 1).asList=l at h;have z:=acj (step:=S125_3step 0) (λi=>(n,(),l,(l.length:Int),((i:Nat):Int),s,ap0)) l (λx=>aad x==n) (λx=>.inl ((),true,s,x)) (.inr ((),s,ap0)) (λi o=>by
  simp only [S125_3step,S125_3,decL i _ o,Af,aaa,Ag o,Ai,aag o,aat i (by omega),aad];grind) (by
  simp only [S125_3step,S125_3,decN,Ah]) l.length 0 (by omega)
 rw [Ap] at z;have H:aaf 0 (S125_3step 0) (n,(),l,(l.length:Int),(0:Int),s,ap0)=_:=z;unfold F125;rw [I];dsimp only;change (Option.bind (aaf 0 (S125_3step 0) (n,(),l,(l.length:Int),(0:Int),s,ap0)) _)=_;rw [H];unfold dmem fst;cases l.find? (λx=>aad x==n)<;>rfl
noncomputable def ads (a b:PV):List PV:=
 (a.fld 1).asList.flatMap (cmn kNum (acw (aad a)) (λf=>chg 3 (aad a) (f.fld 0).asInt (f.fld 1).asStr []) (b.fld 1).asList)++(b.fld 1).asList.flatMap (nws kNum (λf=>chg 4 (aad a) (f.fld 0).asInt [] (f.fld 1).asStr) (a.fld 1).asList)
theorem a2w {a b:PV}{acc:List PV} (z:OkMsg a) (H:OkMsg b) (h:acc.length+(ads a b).length<=90000000):F69 0 () a b acc=some (acc++ads a b):=by
 have la:=z.fields;have lb:=H.fields;unfold ads at h ⊢;rw [Al] at h;generalize O:(a.fld 1).asList=A at h la ⊢;generalize hB:(b.fld 1).asList=B at h lb ⊢;have M:=aba (step:=S69_3step 0) (λi c=>((),(),(),A,(A.length:Int),((i:Nat):Int),c,a,b)) A (cmn kNum (acw (aad a)) (λf=>chg 3 (aad a) (f.fld 0).asInt (f.fld 1).asStr []) B) (λc=>((),(),(),c,a,b)) 90000000 (λi c o Z=>by
  have I:OkFld A[i]:=z.field _ (by grind);simp only [S69_3step,S69_3,decL i _ o,Af,aaa,Ag o,Ai,aag o,ba4 b _ H.fields,Aa,aat i (by omega),hB];unfold dmem cmn;have e:fst kNum (A[i].fld 0).asInt B=fst kNum (kNum A[i]) B:=rfl;rw [e];cases hf:fst kNum (kNum A[i]) B with
  | some y=>have J:OkFld y:=H.field _ (by grind [abf]);dsimp only;rw [Af,a2v I J (by omega)];rfl
  | none=>dsimp only;rw [Ah,cadd (by grind)];rfl) (λc=>by
  simp only [S69_3step,S69_3,decN,Ah]) A.length 0 acc (Nat.zero_add _) (by grind)
 rw [Ap] at M;have h2:=aba (step:=S69_11step 0) (λi c=>((),(),B,(B.length:Int),((i:Nat):Int),c,a,b)) B (nws kNum (λf=>chg 4 (aad a) (f.fld 0).asInt [] (f.fld 1).asStr) A) (λc=>(c,a,b)) 90000000 (λi c o Z=>by
  simp only [S69_11step,S69_11,decL i _ o,Af,aaa,Ag o,Ai,aag o,ba4 a _ z.fields,Aa,aat i (by omega),O];unfold dmem nws;have e:fst kNum (B[i].fld 0).asInt A=fst kNum (kNum B[i]) A:=rfl;rw [e];cases hf:fst kNum (kNum B[i]) A with
  | some y=>grind
  | none=>dsimp only;rw [Av,Af,cadd (by grind)];rfl) (λc=>by
  simp only [S69_11step,S69_11,decN,Ah]) B.length 0 (acc++A.flatMap (cmn kNum (acw (aad a)) (λf=>chg 3 (aad a) (f.fld 0).asInt (f.fld 1).asStr []) B)) (Nat.zero_add _) (by grind)
 grind [aaf,S69_3step,S69_11step,F69,List.append_assoc]
def ai0 (d:Bo) (x y:PV):List PV:=dif (!((x.fld 0).asStr==(y.fld 0).asStr)) (chg 16 d (x.fld 1).asInt (x.fld 0).asStr (y.fld 0).asStr)
def ayp (a b:PV):List PV:=
 (a.fld 2).asList.flatMap (cmn abj (ai0 (aad a)) (λf=>chg 14 (aad a) (f.fld 1).asInt (f.fld 0).asStr []) (b.fld 2).asList)++(b.fld 2).asList.flatMap (nws abj (λf=>chg 15 (aad a) (f.fld 1).asInt [] (f.fld 0).asStr) (a.fld 2).asList)
def alm (a b:PV):List PV:=dif (!((a.fld 1).asBool==(b.fld 1).asBool)) (chg 13 (aad a) (-1) (amt (a.fld 1).asBool) (amt (b.fld 1).asBool))
def aj5 (a b:PV):List PV:=alm a b++ayp a b
theorem a8s {a b:PV}{acc:List PV} (H:OkEnum a) (I:OkEnum b) (h:acc.length+(aj5 a b).length<=90000000):F70 0 () a b acc=some (acc++aj5 a b):=by
 have la:=H.items;have lb:=I.items;unfold aj5 ayp at h ⊢;rw [Al,Al] at h;have ho:=ada (!((a.fld 1).asBool==(b.fld 1).asBool)) (chg 13 (aad a) (-1) (amt (a.fld 1).asBool) (amt (b.fld 1).asBool));change (alm a b).length<=1 at ho;unfold F70;rw [ay4,Aa,ay4,Aa,afp (by omega),Aa];change (let z:=(a.fld 2).asList;Option.bind (aaf 0 (S70_4step 0) ((),(),(),z,(z.length:Int),(0:Int),acc++alm a b,a,b)) _)=_;dsimp only;generalize M:(a.fld 2).asList=A at h la ⊢;generalize hB:(b.fld 2).asList=B at h lb ⊢;have J:=aba (step:=S70_4step 0) (λi c=>((),(),(),A,(A.length:Int),((i:Nat):Int),c,a,b)) A (cmn abj (ai0 (aad a)) (λf=>chg 14 (aad a) (f.fld 1).asInt (f.fld 0).asStr []) B) (λc=>((),(),(),c,a,b)) 90000000 (λi c o O=>by
  simp only [S70_4step,S70_4,decL i _ o,Af,aaa,Ag o,Ai,aag o,ba5 b _ I.items,Aa,aat i (by omega),hB];unfold dmem cmn;have e:fst abj (A[i].fld 1).asInt B=fst abj (abj A[i]) B:=rfl;rw [e];cases Z:fst abj (abj A[i]) B with
  | some y=>dsimp only;rw [Af,afp (by omega)];rfl
  | none=>dsimp only;rw [Ah,cadd (by grind)];rfl) (λc=>by
  simp only [S70_4step,S70_4,decN,Ah]) A.length 0 (acc++alm a b) (Nat.zero_add _) (by grind)
 rw [Ap] at J;have h2:=aba (step:=S70_12step 0) (λi c=>((),(),B,(B.length:Int),((i:Nat):Int),c,a,b)) B (nws abj (λf=>chg 15 (aad a) (f.fld 1).asInt [] (f.fld 0).asStr) A) (λc=>(c,a,b)) 90000000 (λi c o O=>by
  simp only [S70_12step,S70_12,decL i _ o,Af,aaa,Ag o,Ai,aag o,ba5 a _ H.items,Aa,aat i (by omega),M];unfold dmem nws;have e:fst abj (B[i].fld 1).asInt A=fst abj (abj B[i]) A:=rfl;rw [e];cases Z:fst abj (abj B[i]) A with
  | some y=>grind
  | none=>dsimp only;rw [Av,Af,cadd (by grind)];rfl) (λc=>by
  simp only [S70_12step,S70_12,decN,Ah]) B.length 0 ((acc++alm a b)++A.flatMap (cmn abj (ai0 (aad a)) (λf=>chg 14 (aad a) (f.fld 1).asInt (f.fld 0).asStr []) B)) (Nat.zero_add _) (by grind)
 grind [aaf,S70_4step,alm,S70_12step,List.append_assoc]
def adn (m:PV):Bo:=(((m.fld 0).asStr++[58,32])++(m.fld 1).asStr++[32,45,62,32])++(m.fld 2).asStr
theorem ay8 {m:PV} (h:OkMeth m):F126 0 m=some (adn m):=by have o:=h.name;have z:=h.inn;have H:=h.out;unfold F126;dsimp only;rw [Ag (show (m.fld 0).asStr.length+([58,32]:Bo).length<=aam by grind [List.length_cons,List.length_nil,aam]),Af];rw [Ag (show ((m.fld 0).asStr++([58,32]:Bo)).length+(m.fld 1).asStr.length<=aam by grind [List.length_append,List.length_cons,List.length_nil,aam]),Af];rw [Ag (show (((m.fld 0).asStr++([58,32]:Bo))++(m.fld 1).asStr).length+([32,45,62,32]:Bo).length<=aam by grind [List.length_append,List.length_cons,List.length_nil,aam]),Af];rw [Ag (show ((((m.fld 0).asStr++([58,32]:Bo))++(m.fld 1).asStr)++([32,45,62,32]:Bo)).length+(m.fld 2).asStr.length<=aam by grind [List.length_append,List.length_cons,List.length_nil,aam]),Af];rfl
theorem aqn {m:PV} (h:OkMeth m):(adn m).length<=4000000:=by have o:=h.name;have z:=h.inn;have H:=h.out;grind [adn,List.length_append,List.length_cons,List.length_nil]
def ne21 (x y:PV):Bool:=bif !((x.fld 1).asStr==(y.fld 1).asStr) then true else !((x.fld 2).asStr==(y.fld 2).asStr)
def ne22 (x y:PV):Bool:=(x.fld 3).asInt != (y.fld 3).asInt
def shT (x y:PV):Bo:=((x.fld 0).asStr++[58,32])++ahd (y.fld 3).asInt
def ag1 (d:Bo) (x y:PV):List PV:=dif (ne21 x y) (chg 21 d (-1) (adn x) (adn y))++dif (ne22 x y) (chg 22 d (-1) (shT x x) (shT x y))
def svcC (a b:PV):List PV:=
 (a.fld 1).asList.flatMap (cmn aad (ag1 (aad a)) (λf=>chg 19 (aad a) (-1) (f.fld 0).asStr []) (b.fld 1).asList)++(b.fld 1).asList.flatMap (nws aad (λf=>chg 20 (aad a) (-1) [] (f.fld 0).asStr) (a.fld 1).asList)
theorem a0q {a b:PV}{acc:List PV} (z:OkSvc a) (H:OkSvc b) (h:acc.length+(svcC a b).length<=90000000):F71 0 () a b acc=some (acc++svcC a b):=by
 have la:=z.meths;have lb:=H.meths;unfold svcC at h ⊢;rw [Al] at h;generalize Z:(a.fld 1).asList=A at h la ⊢;generalize hB:(b.fld 1).asList=B at h lb ⊢;have O:=aba (step:=S71_3step 0) (λi c=>((),(),(),A,(A.length:Int),((i:Nat):Int),c,a,b)) A (cmn aad (ag1 (aad a)) (λf=>chg 19 (aad a) (-1) (f.fld 0).asStr []) B) (λc=>((),(),(),c,a,b)) 90000000 (λi c o hc=>by
  have I:OkMeth A[i]:=z.meth _ (by grind);have J:=I.name;simp only [S71_3step,S71_3,decL i _ o,Af,aaa,Ag o,Ai,aag o,firstT b _ H.meths,Aa,aat i (by omega),hB];unfold dmem cmn;have e:fst aad (A[i].fld 0).asStr B=fst aad (aad A[i]) B:=rfl;rw [e];cases hf:fst aad (aad A[i]) B with
  | some y=>have M:OkMeth y:=H.meth _ (by grind [abf]);have d1:=ada (ne21 A[i] y) (chg 21 (aad a) (-1) (adn A[i]) (adn y));have s1:=aex (A[i].fld 3).asInt;have s2:=aex (y.fld 3).asInt;dsimp only;rw [Ay,Ah,ay8 I,Aa,ay8 M,Aa,afp (by omega),Aa];rw [Ag (show (A[i].fld 0).asStr.length+([58,32]:Bo).length<=aam by grind [List.length_cons,List.length_nil,aam]),Af,au5,Aa];rw [Ag (show ((A[i].fld 0).asStr++([58,32]:Bo)).length+(ahd (A[i].fld 3).asInt).length<=aam by grind [List.length_append,List.length_cons,List.length_nil,aam]),Af,Af,au5,Aa];rw [Ag (show ((A[i].fld 0).asStr++([58,32]:Bo)).length+(ahd (y.fld 3).asInt).length<=aam by grind [List.length_append,List.length_cons,List.length_nil,aam]),Af];rw [afp (by grind [List.length_append,dif,ne21,chg,aad,adn]),Aa,As];rfl
  | none=>dsimp only;rw [Av,Af,cadd (by grind)];rfl) (λc=>by
  simp only [S71_3step,S71_3,decN,Ah]) A.length 0 acc (Nat.zero_add _) (by grind)
 rw [Ap] at O;have h2:=aba (step:=S71_12step 0) (λi c=>((),(),B,(B.length:Int),((i:Nat):Int),c,a,b)) B (nws aad (λf=>chg 20 (aad a) (-1) [] (f.fld 0).asStr) A) (λc=>(c,a,b)) 90000000 (λi c o hc=>by
  simp only [S71_12step,S71_12,decL i _ o,Af,aaa,Ag o,Ai,aag o,firstT a _ z.meths,Aa,aat i (by omega),Z];unfold dmem nws;have e:fst aad (B[i].fld 0).asStr A=fst aad (aad B[i]) A:=rfl;rw [e];cases hf:fst aad (aad B[i]) A with
  | some y=>grind
  | none=>dsimp only;rw [Av,Af,cadd (by grind)];rfl) (λc=>by
  simp only [S71_12step,S71_12,decN,Ah]) B.length 0 (acc++A.flatMap (cmn aad (ag1 (aad a)) (λf=>chg 19 (aad a) (-1) (f.fld 0).asStr []) B)) (Nat.zero_add _) (by grind)
 grind [aaf,S71_3step,S71_12step,F71,List.append_assoc]
noncomputable def gM (a b:PV):List PV:=(a.fld 0).asList.flatMap (cmn aad ads (λm=>chg 1 (aad m) (-1) [] []) (b.fld 0).asList)
def gE (a b:PV):List PV:=(a.fld 1).asList.flatMap (cmn aad aj5 (λm=>chg 11 (aad m) (-1) [] []) (b.fld 1).asList)
def gS (a b:PV):List PV:=(a.fld 2).asList.flatMap (cmn aad svcC (λm=>chg 17 (aad m) (-1) [] []) (b.fld 2).asList)
def nM (a b:PV):List PV:=(b.fld 0).asList.flatMap (nws aad (λm=>chg 2 (aad m) (-1) [] []) (a.fld 0).asList)
def nE (a b:PV):List PV:=(b.fld 1).asList.flatMap (nws aad (λm=>chg 12 (aad m) (-1) [] []) (a.fld 1).asList)
def nS (a b:PV):List PV:=(b.fld 2).asList.flatMap (nws aad (λm=>chg 18 (aad m) (-1) [] []) (a.fld 2).asList)
noncomputable def aka (a b:PV):List PV:=gM a b++(gE a b++gS a b)
noncomputable def raw (a b:PV):List PV:=aka a b++(nM a b++(nE a b++nS a b))
theorem bb8 {a b:PV}{acc:List PV} (I:SOk a) (J:SOk b) (h:acc.length+(aka a b).length<=90000000):F28 0 () a b acc=some (acc++aka a b):=by
 have l0:=I.len.m;have l1:=I.len.e;have l2:=I.len.v;have m0:=J.len.m;have m1:=J.len.e;have m2:=J.len.v;unfold aka at h ⊢;rw [Al,Al] at h;have Z:=aba (step:=S28_3step 0) (λi c=>((),(),(),(a.fld 0).asList,((a.fld 0).asList.length:Int),((i:Nat):Int),c,a,b)) (a.fld 0).asList (cmn aad ads (λm=>chg 1 (aad m) (-1) [] []) (b.fld 0).asList) (λc=>((),(),(),c,a,b)) 90000000 (λi c z o=>by
  have M:OkMsg (a.fld 0).asList[i]:=I.msg _ (List.getElem_mem z);simp only [S28_3step,S28_3,decL i _ z,Af,aaa,Ag z,Ai,aag z,ba6 b _ m0,Aa,aat i (by omega)];unfold dmem;unfold cmn at o ⊢;have e:fst aad ((a.fld 0).asList[i].fld 0).asStr (b.fld 0).asList=fst aad (aad (a.fld 0).asList[i]) (b.fld 0).asList:=rfl;rw [e];cases H:fst aad (aad (a.fld 0).asList[i]) (b.fld 0).asList with
  | some y=>rw [H] at o;have O:OkMsg y:=J.msg _ (abf H);dsimp only at o ⊢;rw [Af,a2w M O o];rfl
  | none=>dsimp only;rw [Ah,cadd (by grind)];rfl) (λc=>by
  simp only [S28_3step,S28_3,decN,Ah]) _ 0 acc (Nat.zero_add _) (by grind [gM])
 rw [Ap] at Z;have h2:=aba (step:=S28_11step 0) (λi c=>((),(),(),(a.fld 1).asList,((a.fld 1).asList.length:Int),((i:Nat):Int),c,a,b)) (a.fld 1).asList (cmn aad aj5 (λm=>chg 11 (aad m) (-1) [] []) (b.fld 1).asList) (λc=>((),(),(),c,a,b)) 90000000 (λi c z o=>by
  have M:OkEnum (a.fld 1).asList[i]:=I.enum _ (List.getElem_mem z);simp only [S28_11step,S28_11,decL i _ z,Af,aaa,Ag z,Ai,aag z,ba3 b _ m1,Aa,aat i (by omega)];unfold dmem;unfold cmn at o ⊢;have e:fst aad ((a.fld 1).asList[i].fld 0).asStr (b.fld 1).asList=fst aad (aad (a.fld 1).asList[i]) (b.fld 1).asList:=rfl;rw [e];cases H:fst aad (aad (a.fld 1).asList[i]) (b.fld 1).asList with
  | some y=>rw [H] at o;have O:OkEnum y:=J.enum _ (abf H);dsimp only at o ⊢;rw [Af,a8s M O o];rfl
  | none=>dsimp only;rw [Ah,cadd (by grind)];rfl) (λc=>by
  simp only [S28_11step,S28_11,decN,Ah]) _ 0 (acc++gM a b) (Nat.zero_add _) (by grind [List.length_append,gE])
 rw [Ap] at h2;have h3:=aba (step:=S28_19step 0) (λi c=>((),(),(a.fld 2).asList,((a.fld 2).asList.length:Int),((i:Nat):Int),c,a,b)) (a.fld 2).asList (cmn aad svcC (λm=>chg 17 (aad m) (-1) [] []) (b.fld 2).asList) (λc=>(c,a,b)) 90000000 (λi c z o=>by
  have M:OkSvc (a.fld 2).asList[i]:=I.svc _ (List.getElem_mem z);simp only [S28_19step,S28_19,decL i _ z,Af,aaa,Ag z,Ai,aag z,ba7 b _ m2,Aa,aat i (by omega)];unfold dmem;unfold cmn at o ⊢;have e:fst aad ((a.fld 2).asList[i].fld 0).asStr (b.fld 2).asList=fst aad (aad (a.fld 2).asList[i]) (b.fld 2).asList:=rfl;rw [e];cases H:fst aad (aad (a.fld 2).asList[i]) (b.fld 2).asList with
  | some y=>rw [H] at o;have O:OkSvc y:=J.svc _ (abf H);dsimp only at o ⊢;rw [Af,a0q M O o];rfl
  | none=>dsimp only;rw [Ah,cadd (by grind)];rfl) (λc=>by
  simp only [S28_19step,S28_19,decN,Ah]) _ 0 ((acc++gM a b)++gE a b) (Nat.zero_add _) (by grind [List.length_append,gS])
 rw [Ap] at h3;have aa:aaf 0 (S28_3step 0) ((),(),(),(a.fld 0).asList,((a.fld 0).asList.length:Int),(0:Int),acc,a,b)=some ((),(),(),acc++gM a b,a,b):=Z;grind [aaf,S28_11step,gM,gE,S28_19step,gS,F28,List.append_assoc]
theorem azr {a b:PV} (z:SOk a) (H:SOk b) (h:(raw a b).length<=90000000):F9 0 a b=(F33 0 (raw a b)).bind λy=>some y:=by
 have l0:=z.len.m;have l1:=z.len.e;have l2:=z.len.v;have m0:=H.len.m;have m1:=H.len.e;have m2:=H.len.v;unfold raw at h ⊢;rw [Al,Al,Al] at h;have I:=aba (step:=S9_5step 0) (λi c=>((),(),(),(b.fld 0).asList,((b.fld 0).asList.length:Int),((i:Nat):Int),a,b,c)) (b.fld 0).asList (nws aad (λm=>chg 2 (aad m) (-1) [] []) (a.fld 0).asList) (λc=>((),(),(),a,b,c)) 90000000 (λi c o M=>by
  simp only [S9_5step,S9_5,decL i _ o,Af,aaa,Ag o,Ai,aag o,ba6 a _ l0,Aa,aat i (by omega)];unfold dmem nws;have e:fst aad ((b.fld 0).asList[i].fld 0).asStr (a.fld 0).asList=fst aad (aad (b.fld 0).asList[i]) (a.fld 0).asList:=rfl;rw [e];cases O:fst aad (aad (b.fld 0).asList[i]) (a.fld 0).asList with
  | some y=>grind
  | none=>dsimp only;rw [Av,Af,cadd (by grind)];rfl) (λc=>by
  simp only [S9_5step,S9_5,decN,Ah]) _ 0 (aka a b) (Nat.zero_add _) (by grind [nM])
 rw [Ap] at I;have J:=aba (step:=S9_12step 0) (λi c=>((),(),(),(b.fld 1).asList,((b.fld 1).asList.length:Int),((i:Nat):Int),a,b,c)) (b.fld 1).asList (nws aad (λm=>chg 12 (aad m) (-1) [] []) (a.fld 1).asList) (λc=>((),(),(),a,b,c)) 90000000 (λi c o M=>by
  simp only [S9_12step,S9_12,decL i _ o,Af,aaa,Ag o,Ai,aag o,ba3 a _ l1,Aa,aat i (by omega)];unfold dmem nws;have e:fst aad ((b.fld 1).asList[i].fld 0).asStr (a.fld 1).asList=fst aad (aad (b.fld 1).asList[i]) (a.fld 1).asList:=rfl;rw [e];cases O:fst aad (aad (b.fld 1).asList[i]) (a.fld 1).asList with
  | some y=>grind
  | none=>dsimp only;rw [Av,Af,cadd (by grind)];rfl) (λc=>by
  simp only [S9_12step,S9_12,decN,Ah]) _ 0 (aka a b++nM a b) (Nat.zero_add _) (by grind [List.length_append,nE])
 rw [Ap] at J;have h3:=aba (step:=S9_19step 0) (λi c=>((),(),(b.fld 2).asList,((b.fld 2).asList.length:Int),((i:Nat):Int),a,b,c)) (b.fld 2).asList (nws aad (λm=>chg 18 (aad m) (-1) [] []) (a.fld 2).asList) (λc=>((),a,b,c)) 90000000 (λi c o M=>by
  simp only [S9_19step,S9_19,decL i _ o,Af,aaa,Ag o,Ai,aag o,ba7 a _ l2,Aa,aat i (by omega)];unfold dmem nws;have e:fst aad ((b.fld 2).asList[i].fld 0).asStr (a.fld 2).asList=fst aad (aad (b.fld 2).asList[i]) (a.fld 2).asList:=rfl;rw [e];cases O:fst aad (aad (b.fld 2).asList[i]) (a.fld 2).asList with
  | some y=>grind
  | none=>dsimp only;rw [Av,Af,cadd (by grind)];rfl) (λc=>by
  simp only [S9_19step,S9_19,decN,Ah]) _ 0 ((aka a b++nM a b)++nE a b) (Nat.zero_add _) (by grind [List.length_append,nS])
 rw [Ap] at h3;have Z:aaf 0 (S9_5step 0) ((),(),(),(b.fld 0).asList,((b.fld 0).asList.length:Int),(0:Int),a,b,aka a b)=some ((),(),(),a,b,aka a b++nM a b):=I;have aa:aaf 0 (S9_12step 0) ((),(),(),(b.fld 1).asList,((b.fld 1).asList.length:Int),(0:Int),a,b,aka a b++nM a b)=some ((),(),(),a,b,(aka a b++nM a b)++nE a b):=J;grind [aaf,S9_19step,aka,nM,nE,nS,F9,bb8,List.length_nil,List.append_assoc]
end Go.Ab
