/- The law RetireKeeps. -/
import Derived.Test.YticdffgjgfmicaaGreatDoorPK5K
set_option linter.unusedVariables false
set_option linter.unusedSimpArgs false
set_option linter.unnecessarySimpa false
namespace Go.Ab
open Go
set_option maxRecDepth 100000
theorem bek{r:PV}{nm:Bn}{no:Int}(I:(sbL r).length<=1048576)(G:∀i,i<(sbL r).length->(vsL (sbA r i)).length<=1048576):F16 r nm no=some ((fstI (λi=>((sbA r i).fld 0).asStr==nm) 0 (sbL r).length).elim (0,0,false) λi=>(fstI (λk=>((vsA r i k).fld 0).asInt==no) 0 (vsL (sbA r i)).length).elim (0,0,false) λk=>((i:Int),(k:Int),true)):=by
 have m:∀i,i<(sbL r).length->aad 0 ((Y7 S16_7)) (no,((i:Nat):Int),vsL (sbA r i),((vsL (sbA r i)).length:Int),(0:Int),r,sbA r i)=some ((fstI (λk=>((vsA r i k).fld 0).asInt==no) 0 (vsL (sbA r i)).length).elim (.inr (r,sbA r i)) λk=>.inl (((i:Nat):Int),((k:Nat):Int),true,r,sbA r i)):=λi t=>by
  have H:=G i t;exact ade (step:=(Y7 S16_7)) (λk=>(no,((i:Nat):Int),vsL (sbA r i),((vsL (sbA r i)).length:Int),((k:Nat):Int),r,sbA r i)) (vsL (sbA r i)).length (λk=>((vsA r i k).fld 0).asInt==no) (λk=>.inl (((i:Nat):Int),((k:Nat):Int),true,r,sbA r i)) (.inr (r,sbA r i)) (λk z=>by
   simp only[Y7,S16_7,decL k _ z,Ad,aaa,Ah z,Ae,aao k (show k<=1000000000000 by omega)];grind) (by
   simp only[Y7,S16_7,decN,Af]) _ 0 (Nat.zero_add _)
 have o:aad 0 ((Y6 S16_3)) (nm,no,sbL r,((sbL r).length:Int),(0:Int),r)=some ((fstI (λi=>((sbA r i).fld 0).asStr==nm) 0 (sbL r).length).elim (.inr r) λi=>.inl ((fstI (λk=>((vsA r i k).fld 0).asInt==no) 0 (vsL (sbA r i)).length).elim (0,0,false,r) λk=>(((i:Nat):Int),((k:Nat):Int),true,r))):=
  ade (step:=(Y6 S16_3)) (λi=>(nm,no,sbL r,((sbL r).length:Int),((i:Nat):Int),r)) (sbL r).length (λi=>((sbA r i).fld 0).asStr==nm) (λi=>.inl ((fstI (λk=>((vsA r i k).fld 0).asInt==no) 0 (vsL (sbA r i)).length).elim (0,0,false,r) λk=>(((i:Nat):Int),((k:Nat):Int),true,r))) (.inr r) (λi t=>by
   simp only[Y6,S16_3,decL i _ t,Ad,aaa,Ah t,Ae,aao i (show i<=1000000000000 by omega),m i t,Aa];cases((sbA r i).fld 0).asStr==nm with
   |false=>rfl
   |true=>cases fstI (λk=>((vsA r i k).fld 0).asInt==no) 0 (vsL (sbA r i)).length<;>rfl) (by
   simp only[Y6,S16_3,decN,Af]) _ 0 (Nat.zero_add _)
 unfold F16;dsimp only;rw[o,Aa];cases fstI (λi=>((sbA r i).fld 0).asStr==nm) 0 (sbL r).length with
 |none=>rfl
 |some i=>simp only[Option.elim];cases fstI (λk=>((vsA r i k).fld 0).asInt==no) 0 (vsL (sbA r i)).length<;>rfl
theorem a2g{r:PV}{nm:Bn}{no:Int}(t:(sbL r).length<=1048576)(z:∀i,i<(sbL r).length->(vsL (sbA r i)).length<=1048576):∃y,F16 r nm no=some y/\(y.2.2=false\/∃i k:Nat,y=((i:Int),(k:Int),true)/\i<(sbL r).length/\k<(vsL (sbA r i)).length):=by
 refine⟨_,bek t z,?_⟩;cases m:fstI (λi=>((sbA r i).fld 0).asStr==nm) 0 (sbL r).length with
 |none=>exact Or.inl rfl
 |some i=>
  simp only[Option.elim];obtain⟨_,G,H⟩:=aea m;cases o:fstI (λk=>((vsA r i k).fld 0).asInt==no) 0 (vsL (sbA r i)).length with
  |none=>exact Or.inl rfl
  |some k=>obtain⟨_,I,J⟩:=aea o;grind
theorem a4o{x:PV}(h:(vsL x).length<=1048576):Ret (F17 x) λ_=>True:=by
 obtain⟨y,I,J⟩:=aw8 (step:=(Y3 S17_3)) (λs=>(s.2.1+1).toNat) (λs=>s.2.2=x/\∃j:Nat,j<=(vsL x).length/\s.2.1=(j:Int)-1) (λr=>∃z,r=.inl z\/r=.inr x) (λs M=>by
  obtain⟨⟨⟩,n,y⟩:=s;obtain⟨rfl,j,o,rfl⟩:=M;dsimp only;cases j with
  |zero=>right;exact⟨_,by simp only[Y3,S17_3];grind,(0,y),Or.inr rfl⟩
  |succ j=>
   have o:j+1<=(vsL y).length:=o;have h:(vsL y).length<=1048576:=h;have t:((j+1:Nat):Int)-1=(j:Int):=by omega
   have G:decide ((j:Int)>=(0:Int))=true:=Ah (by omega);have H:IntKind.wrap .i64 ((j:Int)-1)=(j:Int)-1:=by rw[IntKind.wrap_i64];omega
   simp only[Y3,S17_3,t,G,Ad,aaa,Ah (show j<(vsL y).length by omega),Ae,H];cases((((vsL y).getD j .bad).fld 3).asInt != (3:Int))with
   |true=>grind
   |false=>left;exact⟨_,rfl,⟨rfl,j,(show j<=(vsL y).length by omega),rfl⟩,by grind⟩) ((),(IntKind.wrap .i64 (((vsL x).length:Int)-1)),x) ⟨rfl,(vsL x).length,Nat.le_refl _,by grind[IntKind.wrap_i64]⟩
 have m:aad 0 ((Y3 S17_3)) ((),(IntKind.wrap .i64 (((vsL x).length:Int)-(1:Int))),x)=some y:=I;unfold F17;rw[m,Aa];obtain⟨z,rfl|rfl⟩:=J<;>exact aep _
def verS(v:PV)(st un:Int):PV:=PV.agg [(PV.int (v.fld 0).asInt),v.fld 1,(PV.int (v.fld 2).asInt),(PV.int st),(PV.int un)]
def subS(x:PV)(k:Nat)(st un:Int):PV:=PV.agg [(PV.str (x.fld 0).asStr),(PV.str (x.fld 1).asStr),(PV.int (x.fld 2).asInt),(PV.int (x.fld 3).asInt),(PV.slice ((vsL x).set k (verS ((vsL x).getD k .bad) st un)))]
def regS(r:PV)(i k:Nat)(st un:Int):PV:=PV.agg [(PV.int (r.fld 0).asInt),(PV.slice ((sbL r).set i (subS (sbA r i) k st un)))]
theorem a2j{r:PV}{i k:Nat}{st un:Int}(G:(sbL r).length<=1048576)(H:(vsL (sbA r i)).length<=1048576)(t:i<(sbL r).length)(z:k<(vsL (sbA r i)).length):F18 r (i:Int) (k:Int) st un=some (regS r i k st un):=by unfold F18;have m:decide ((sbL r).length<=accMax)=true:=Ah (by unfold accMax;omega);have o:decide ((vsL (sbA r i)).length<=accMax)=true:=Ah (by unfold accMax;omega);simp only[m,o,aaa,Ah t,Ah z,Ad,Ae];rfl
theorem a8l{l:List PV}{i j:Nat}{x:PV}(m:i<l.length):(l.set i x).getD j .bad=if j=i then x else l.getD j .bad:=by grind
theorem avh{r:PV}{i k j:Nat}{st un:Int}(m:i<(sbL r).length):sbA (regS r i k st un) j=if j=i then subS (sbA r i) k st un else sbA r j:=a8l m
theorem afz{r:PV}{i k:Nat}{st un:Int}:(sbL (regS r i k st un)).length=(sbL r).length:=by show((sbL r).set i _).length=_;grind
theorem am7{r:PV}{i k j:Nat}{st un:Int}(m:i<(sbL r).length):(vsL (sbA (regS r i k st un) j)).length=(vsL (sbA r j)).length:=by
 rw[avh m];by_cases h:j=i
 ·subst h;rw[if_pos rfl];show((vsL (sbA r j)).set k _).length=_;grind
 ·rw[if_neg h]
theorem a01{r:PV}{i k j m:Nat}{st un:Int}(o:i<(sbL r).length)(t:k<(vsL (sbA r i)).length):vsA (regS r i k st un) j m=if j=i/\m=k then verS (vsA r i k) st un else vsA r j m:=by
 unfold vsA;rw[avh o];by_cases h:j=i
 ·subst h;rw[if_pos rfl];show((vsL (sbA r j)).set k _).getD m .bad=_;grind
 grind
theorem aur{r:PV}{i k j:Nat}{st un:Int}(m:i<(sbL r).length):((sbA (regS r i k st un) j).fld 0).asStr=((sbA r j).fld 0).asStr:=by
 rw[avh m];by_cases h:j=i
 ·subst h;rw[if_pos rfl];rfl
 ·rw[if_neg h]
theorem bjq{r:PV}{i k j m:Nat}{st un:Int}(o:i<(sbL r).length)(t:k<(vsL (sbA r i)).length):((vsA (regS r i k st un) j m).fld 0).asInt=((vsA r j m).fld 0).asInt:=by
 rw[a01 o t];by_cases h:j=i/\m=k
 ·obtain⟨rfl,rfl⟩:=h;rw[if_pos ⟨rfl,rfl⟩];rfl
 ·rw[if_neg h]
theorem aq8{r:PV}{i k j:Nat}{st un:Int}(m:i<(sbL r).length):((sbA (regS r i k st un) j).fld 1).asStr=((sbA r j).fld 1).asStr/\((sbA (regS r i k st un) j).fld 2).asInt=((sbA r j).fld 2).asInt/\((sbA (regS r i k st un) j).fld 3).asInt=((sbA r j).fld 3).asInt:=by
 rw[avh m];by_cases h:j=i
 ·subst h;rw[if_pos rfl];exact⟨rfl,rfl,rfl⟩
 grind
theorem ari{r:PV}{i k j m:Nat}{st un:Int}(o:i<(sbL r).length)(t:k<(vsL (sbA r i)).length):(vsA (regS r i k st un) j m).fld 1=(vsA r j m).fld 1/\((vsA (regS r i k st un) j m).fld 2).asInt=((vsA r j m).fld 2).asInt:=by
 rw[a01 o t];by_cases h:j=i/\m=k
 ·obtain⟨rfl,rfl⟩:=h;rw[if_pos ⟨rfl,rfl⟩];exact⟨rfl,rfl⟩
 grind
theorem bf5{r:PV}{i k:Nat}{st un:Int}(h:RegOk r)(G:i<(sbL r).length)(M:k<(vsL (sbA r i)).length):RegOk (regS r i k st un):=by
 have J:∀x,x∈sbL (regS r i k st un)->∃j,j<(sbL r).length/\x=sbA (regS r i k st un) j:=λx t=>by grind[ap1,afz]
 have I:∀j,j<(sbL r).length->∀v,v∈vsL (sbA (regS r i k st un) j)->∃m,m<(vsL (sbA r j)).length/\v.fld 1=(vsA r j m).fld 1:=λj o v z=>by grind[ap1,am7,ari]
 refine⟨by rw[afz];exact h.subs,λx t=>?_,λx t=>?_,λx t=>?_,λx t v z=>?_,λx t v z=>?_⟩;all_goals obtain⟨j,o,rfl⟩:=J x t
 ·rw[aur G];exact h.name _ (aaw o)
 ·rw[(aq8 G).1];exact h.root _ (aaw o)
 ·rw[am7 G];exact h.vers _ (aaw o)
 ·obtain⟨m,H,e⟩:=I j o v z;rw[e];exact h.sok _ (aaw o) _ (aaw H)
 ·obtain⟨m,H,e⟩:=I j o v z;rw[e];exact h.sbk _ (aaw o) _ (aaw H)
theorem bil{r:PV}{i k:Nat}{st un:Int}(c:RegC r)(t:i<(sbL r).length)(G:k<(vsL (sbA r i)).length)(J:∀v,stB (verS v st un)=true):RegC (regS r i k st un):=by
 refine⟨⟨by rw[afz];exact c.lim.1,λj o=>?_⟩,⟨λj o=>?_,λj m o z=>?_⟩,λj o=>?_,c.day,λj o=>?_,λj o m z=>?_⟩
 ·rw[afz]at o;rw[am7 t];exact c.lim.2 j o
 ·rw[afz]at o;have I:∀(q:PV)(j:Nat),j<(sbL q).length->((nmL (sbL q)).getD j .bad).asStr=((sbA q j).fld 0).asStr:=λq j o=>by
   unfold nmL;rw[aa9 (by simpa using o),List.getElem_map,sbA,aa9 o];rfl
  have M:=c.ord.up j o;grind[ascB,afz,aur]
 ·rw[afz]at o;rw[am7 t]at z;rw[bjq t G];exact c.ord.no j m o z
 ·rw[afz]at o;rw[aur t,(aq8 t).1];exact c.full j o
 ·rw[afz]at o;have q:=c.right j o;refine⟨by rw[(aq8 t).2.1];exact q.mode,by rw[(aq8 t).2.2];exact q.form,λm z=>?_⟩;rw[am7 t]at z;show stB (vsA (regS r i k st un) j m)=true;rw[a01 t G];by_cases H:j=i/\m=k
  ·grind
  ·rw[if_neg H];exact q.st m z
 ·rw[afz]at o;rw[am7 t]at z;have q:=c.whole j o m z;exact⟨by rw[(ari t G).1,(aq8 t).1];exact q.root,by rw[(ari t G).1,(ari t G).2];exact q.prn,by rw[(ari t G).1];exact q.form⟩
def dayS(r:PV)(d:Int):PV:=PV.agg [(PV.int d),(PV.slice (sbL r))]
theorem bjy{r:PV}{d:Int}(h:RegOk r):RegOk (dayS r d):=⟨h.subs,h.name,h.root,h.vers,h.sok,h.sbk⟩
theorem c_day{r:PV}{d:Int}(c:RegC r)(h:0<=d):RegC (dayS r d):=⟨c.lim,⟨c.ord.up,c.ord.no⟩,c.full,h,c.right,c.whole⟩
theorem az6{r q:PV}{nm:Bn}(h:RegOk r):F3 r nm q=some true:=by
 obtain⟨b,hb,_⟩:=bbb h;obtain⟨e,he,M⟩:=a7f h;unfold F3;rw[hb,Aa];cases b with
 |false=>rfl
 |true=>
 simp only[An,Aq,Ad,Af];rw[he,Aa];by_cases h0:e=0;case neg=>grind
 subst h0;have c:=M rfl;have t:∀i,i<(sbL r).length->(vsL (sbA r i)).length<=1048576:=λi m=>h.vers _ (aaw m);have r0:aab (0:Int) 2=true:=by decide
 have r1:aab (1:Int) 2=true:=by decide
 simp only[bne_self_eq_false,Af,r0,r1,Ad];generalize(q.fld (0:Int).toNat).asInt=no;generalize(q.fld (1:Int).toNat).asInt=un;have O:=c.day;have H:∃y,F6 r nm no un=some y/\RegOk y.1/\RegC y.1:=by
  obtain⟨y,J,q⟩:=a2g (nm:=nm) (no:=no) h.subs t;unfold F6;rw[J,Aa];dsimp only;rcases q with q|⟨i,k,rfl,m,o⟩
  ·simp_all
  ·simp only[An,Af,aaa,Ah m,Ah o,Ad,Ae];obtain⟨z,M,_⟩:=a4o (t i m);cases(((vsA r i k).fld 3).asInt != (1:Int))with
   |true=>grind
   |false=>
    simp only[Af];by_cases I:un<=(r.fld 0).asInt
    ·simp_all
    ·rw[Au I];simp only[Af];rw[M,Aa];cases(z==(k:Int))with
     |true=>grind
     |false=>simp only[Af];rw[a2j h.subs (t i m) m o];refine⟨_,rfl,bf5 h m o,bil c m o λv=>?_⟩;have:decide (un<(1:Int))=false:=Au (by omega);show(!(bif (bif (bif (decide ((2:Int)<(1:Int)))then true else(decide ((2:Int)>(3:Int))))then true else(bif ((2:Int)==(2:Int))then(decide (un<(1:Int)))else false))then true else(bif ((2:Int) != (2:Int))then(un != (0:Int))else false)))=true;rw[this];rfl
 have ret:∃y,F7 r nm no=some y/\RegOk y.1/\RegC y.1:=by
  obtain⟨y,J,q⟩:=a2g (nm:=nm) (no:=no) h.subs t;unfold F7;rw[J,Aa];dsimp only;rcases q with q|⟨i,k,rfl,m,o⟩
  ·grind
  ·simp only[An,Af,aaa,Ah m,Ah o,Ad,Ae,a2j h.subs (t i m) m o,Aa];cases(bif (((vsA r i k).fld 3).asInt != (2:Int))then true else decide ((r.fld 0).asInt<((vsA r i k).fld 4).asInt))with
   |true=>grind
   |false=>exact⟨_,rfl,bf5 h m o,bil c m o λv=>rfl⟩
 have G:∃y,F8 r un=some y/\RegOk y.1/\RegC y.1:=by
  unfold F8;by_cases I:un<(r.fld 0).asInt
  ·grind
  ·rw[Au I];exact⟨_,rfl,bjy (d:=un) h,c_day c (by omega)⟩
 obtain⟨y1,X,o1,U⟩:=H;obtain⟨y2,Y,o2,V⟩:=ret;obtain⟨y3,Z,o3,W⟩:=G;rw[X,Aa,Y,Aa,Z,Aa,au8 o1 U,Aa];simp only[A1,Ad];rw[au8 o2 V,Aa];simp only[A1,Ad];rw[au8 o3 W,Aa];simp only[A1,Ad];rfl
end Go.Ab
