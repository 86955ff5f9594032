/- The specification's closure ends, and what it holds. -/
import Derived.Test.YtodichgnoiaanaaGreatDoorPClsT
set_option linter.unusedVariables false
set_option linter.unusedSimpArgs false
set_option linter.unnecessarySimpa false
namespace Go.Ab
open Go
set_option maxRecDepth 100000
theorem ave (f:Str->Nat) (l:List Str) (i:Nat) (h:i<l.length):sumS f (l.take (i+1))=sumS f (l.take i)+f l[i]:=by grind [List.take_add_one,List.getElem?_eq_getElem,ajv,sumS]
theorem amm (f:Str->Nat) (l:List Str) (i:Nat):sumS f (l.take i)<=sumS f l:=by grind [ajv,List.take_append_drop]
theorem a3g (g:Str->List Str) (zs:List Str):∀ m:List Str,abm m->abm (zs.foldl (λm z=>(g z).foldl insW m) m)/\(∀ y,y∈zs.foldl (λm z=>(g z).foldl insW m) m ↔ y∈m\/∃ z,z∈zs/\y∈g z)/\m.length<=(zs.foldl (λm z=>(g z).foldl insW m) m).length:=by
 induction zs with
 | nil=>grind
 | cons z r M=>intro m h;obtain ⟨o,H,I,J⟩:=at1 (g z) m h;grind
theorem ins17 {s:PV}{A:List PV}{i:Int} (l h:List Str) (J:h.length+l.length<=80000000):aaf 0 (S48_17step 0) ((),A,strs h,i,strs l,(0:Int),s)=some ((),A,strs (l.foldl insW h),i,s):=by
 have q:=(aa9 (step:=S48_17step 0) (λk (m:List Str)=>((),A,strs m,i,strs l,((k:Nat):Int),s)) l insW (λm=>((),A,strs m,i,s)) (λk m=>m.length<=h.length+k) (λk m H I=>by
  have o:k<(strs l).length:=by grind
  have z:=akd m l[k];refine ⟨?_,by omega⟩;simp only [S48_17step,S48_17,decL k _ o,Af,aaa,Ag o,Ai,aat k (show k<=1000000000000 by omega),afl o,aag H,al1 (show m.length<=90000000 by omega),Aa]) (λm _=>by
  have e:((l.length:Nat):Int)=(((strs l).length:Nat):Int):=by grind
  simp only [S48_17step,S48_17,e,decN,Ah]) l.length 0 h (Nat.zero_add _) (Nat.le_refl _)).1
 rw [Ap] at q;exact q
theorem ins14 {s:PV}{A:List PV}{i:Int} (l h:List Str) (J:h.length+l.length<=80000000):aaf 0 (S16_14step 0) ((),strs h,A,i,strs l,(0:Int),s)=some ((),strs (l.foldl insW h),A,i,s):=by
 have q:=(aa9 (step:=S16_14step 0) (λk (m:List Str)=>((),strs m,A,i,strs l,((k:Nat):Int),s)) l insW (λm=>((),strs m,A,i,s)) (λk m=>m.length<=h.length+k) (λk m H I=>by
  have o:k<(strs l).length:=by grind
  have z:=akd m l[k];refine ⟨?_,by omega⟩;simp only [S16_14step,S16_14,decL k _ o,Af,aaa,Ag o,Ai,aat k (show k<=1000000000000 by omega),afl o,aag H,al1 (show m.length<=90000000 by omega),Aa]) (λm _=>by
  have e:((l.length:Nat):Int)=(((strs l).length:Nat):Int):=by grind
  simp only [S16_14step,S16_14,e,decN,Ah]) l.length 0 h (Nat.zero_add _) (Nat.le_refl _)).1
 rw [Ap] at q;exact q
theorem bdt {s:PV} (h:Few s) {o:List Str} (J:abm o) (Z:∀ y,y∈o->isM s y=true):aaf 0 (S48_13step 0) ((),strs o,strs o,(0:Int),s)=some ((),strs o,strs (o.foldl (λm z=>(aps s z).foldl insW m) o),s):=by
 have aa:=azb h (ab0 J) Z;have ad:=ajr h.small (ab0 J) Z;have ab:=h.small.ms;have q:=(aa9 (step:=S48_13step 0) (λk (m:List Str)=>((),strs o,strs m,((k:Nat):Int),s)) o (λm z=>(aps s z).foldl insW m) (λm=>((),strs o,strs m,s)) (λk m=>abm m/\m.length<=o.length+sumS (λz=>(acq s z).length) (o.take k)) (λk m O M=>by
  obtain ⟨I,M⟩:=M;have H:k<(strs o).length:=by grind
  obtain ⟨n1,n2,n3⟩:=alk s o[k];have h2:=ave (λz=>(acq s z).length) o k O;have h3:=amm (λz=>(acq s z).length) o (k+1);obtain ⟨i1,_,i3,_⟩:=at1 (aps s o[k]) m I;refine ⟨?_,i1,by omega⟩;simp only [S48_13step,S48_13,decL k _ H,Af,aaa,Ag H,Ai,afl H,aag O,a9r h.small,Aa];grind [ins17,aat]) (λm _=>by
  have e:((o.length:Nat):Int)=(((strs o).length:Nat):Int):=by grind
  simp only [S48_13step,S48_13,e,decN,Ah]) o.length 0 o (Nat.zero_add _) ⟨J,Nat.le_add_right _ _⟩).1
 rw [Ap] at q;exact q
theorem bde {s:PV} (h:Few s) (n:Str):∃ o:List Str,F48 0 s [PV.str n]=some (strs o)/\abm o/\(∀ y,y∈o->isM s y=true)/\∀ y,y∈o ↔ isM s n=true/\(y=n\/RP s n y):=by
 have ag:=h.small.ms;obtain ⟨y0,m1,_,m2,_⟩:=agc h.small n;have first:aaf 0 (S48_4step 0) ([PV.str n],(),[],(0:Int),s)=some ((),strs (bif isM s n then [n] else []),s):=by
  have c1:decide ((0:Int)<(([PV.str n]:List PV).length:Int))=true:=rfl;have c2:aab (0:Int) ([PV.str n]:List PV).length=true:=rfl;have g:(([PV.str n]:List PV).getD (0:Int).toNat .bad).asStr=n:=rfl;have w1:IntKind.wrap .i64 ((0:Int)+(1:Int))=(1:Int):=aat 0 (by omega);have e1:S48_4step 0 ([PV.str n],(),[],(0:Int),s)=some (.inl ([PV.str n],(),strs (bif isM s n then [n] else []),(1:Int),s)):=by
   simp only [S48_4step,S48_4,c1,c2,Af,g,m1,Aa,m2,w1];cases isM s n with
   | false=>rfl
   | true=>have hw:=al1 (l:=[]) (by simp) n;have hw:F47 0 [] n=some (strs (insW [] n)):=hw;simp only [Af,hw,Aa];rfl
  have e2:S48_4step 0 ([PV.str n],(),strs (bif isM s n then [n] else []),(1:Int),s)=some (.inr ((),strs (bif isM s n then [n] else []),s)):=rfl;show aa3 _ _=_;rw [aao e1,aai e2]
 obtain ⟨r,h1,o,rfl,q1,q2,q3⟩:=aue (step:=S48_10step 0) (λx=>((msS s).length+1-x.2.1.length)*2+(bif x.2.2.1 then 1 else 0)) (λx=>∃ (o:List Str) (I:Bool),x=((),strs o,I,s)/\abm o/\(∀ y,y∈o->isM s y=true)/\(∀ y,y∈o->isM s n=true/\(y=n\/RP s n y))/\(isM s n=true->n∈o)/\(I=false->∀ z,z∈o->∀ y,y∈acq s z->y∈o))
  (λr=>∃ o:List Str,r=(strs o,s)/\abm o/\(∀ y,y∈o->isM s y=true)/\∀ y,y∈o ↔ isM s n=true/\(y=n\/RP s n y)) (λx hx=>by
  obtain ⟨o,I,rfl,i1,i2,i3,i4,i5⟩:=hx
  cases I with
  | false=>
   right
   refine ⟨(strs o,s),rfl,o,rfl,i1,i2,λy=>⟨i3 y,λJ=>?_⟩⟩
   obtain ⟨Z,J⟩:=J
   rcases J with rfl | J
   ·exact i4 Z
   ·induction J with
    | one hx=>grind
    | more _ hx ih=>grind
  | true=>
   left
   obtain ⟨g1,g2,g3⟩:=a3g (aps s) o o i1
   have hg:=bdt h i1 i2
   generalize o.foldl (λm z=>(aps s z).foldl insW m) o=H at g1 g2 g3 hg
   have aa:∀ y,y∈H ↔ y∈o\/∃ z,z∈o/\y∈acq s z:=λy=>(g2 y).trans ⟨λJ=>J.imp id λ⟨z,a,b⟩=>⟨z,a,((alk s z).2.1 y).1 b⟩,λJ=>J.imp id λ⟨z,a,b⟩=>⟨z,a,((alk s z).2.1 y).2 b⟩⟩
   have mM:∀ y,y∈H->isM s y=true:=λy J=>by grind [akm]
   have af:=ajr h.small (ab0 g1) mM
   have ah:=ajr h.small (ab0 i1) i2
   refine ⟨((),strs H,decide (((strs H).length:Int)>((strs o).length:Int)),s),?_,⟨H,_,rfl,g1,mM,λy J=>?_,λZ=>(aa n).2 (Or.inl (i4 Z)),λhd z O y J=>?_⟩,?_⟩
   ·simp only [S48_10step,S48_10,Af];grind
   ·rcases (aa y).1 J with J | ⟨z,O,J⟩
    ·exact i3 y J
    ·obtain ⟨Z,O⟩:=i3 z O;refine ⟨Z,Or.inr ?_⟩;rcases O with rfl | O
     ·exact .one J
     ·exact .more O J
   ·have ae:H.length<=o.length:=by
         grind
    have M:z∈o:=by
         by_cases M:z∈o
         ·exact M
         ·exfalso;have hn:(z::o).Nodup:=List.nodup_cons.2 ⟨M,ab0 i1⟩;have:=ak1 (λ_=>1) hn (l:=H) (λx hx=>by
           grind)
          grind [aza,List.length_cons]
    all_goals grind
   ·simp only [List.length_map,Af];by_cases ad:H.length>o.length
    ·cases decide ((H.length:Int)>(o.length:Int))<;>simp only [Af,Ah]<;>omega
    ·have:decide ((H.length:Int)>(o.length:Int))=false:=An (by omega);rw [this,Ah];omega) ((),strs (bif isM s n then [n] else []),true,s) (by
  refine ⟨_,true,rfl,?_,?_,?_,?_,λe=>(by cases e)⟩
  ·cases isM s n;all_goals simp_all
  all_goals grind)
 refine ⟨o,?_,q1,q2,q3⟩;have ab:aaf 0 (S48_10step 0) ((),strs (bif isM s n then [n] else []),true,s)=some (strs o,s):=h1;grind [F48]
theorem aot {s:PV} (h:Few s) (n:Str):∃ ys:List Str,F16 0 s [PV.str n]=some (strs ys)/\abm ys/\(∀ x,x∈ys ↔ Clo s n x)/\ys.length<=5000000:=by
 obtain ⟨o,a1,a2,a3,a4⟩:=bde h n;have hd:=azu h.small n;have ae:=h.small.ms;have first:aaf 0 (S16_4step 0) ([PV.str n],(),[],(0:Int),s)=some ([PV.str n],(),strs (bif (isM s n||isE s n) then [n] else []),s):=by
  have c1:decide ((0:Int)<(([PV.str n]:List PV).length:Int))=true:=rfl;have c2:aab (0:Int) ([PV.str n]:List PV).length=true:=rfl;have g:(([PV.str n]:List PV).getD (0:Int).toNat .bad).asStr=n:=rfl;have w1:IntKind.wrap .i64 ((0:Int)+(1:Int))=(1:Int):=aat 0 (by omega);have e1:S16_4step 0 ([PV.str n],(),[],(0:Int),s)=some (.inl ([PV.str n],(),strs (bif (isM s n||isE s n) then [n] else []),(1:Int),s)):=by
   simp only [S16_4step,S16_4,c1,c2,Af,g,hd,Aa,w1];cases (isM s n||isE s n) with
   | false=>rfl
   | true=>have hw:=al1 (l:=[]) (by simp) n;have hw:F47 0 [] n=some (strs (insW [] n)):=hw;simp only [Af,hw,Aa];rfl
  have e2:S16_4step 0 ([PV.str n],(),strs (bif (isM s n||isE s n) then [n] else []),(1:Int),s)=some (.inr ([PV.str n],(),strs (bif (isM s n||isE s n) then [n] else []),s)):=rfl;show aa3 _ _=_;rw [aao e1,aai e2]
 generalize J:(bif (isM s n||isE s n) then [n] else [])=I at first
 have M:abm I:=by rw [<-J];cases (isM s n||isE s n)<;>simp
 have ad:I.length<=1:=by grind
 have ab:sumS (λm=>(flds s m).length) o<=1048576:=by have Z:=ak1 (λn=>(flds s n).length) (ab0 a2) (l:=(msS s).map nmP) (λx O=>arw (a3 x O));rw [ald h.uq] at Z;exact Nat.le_trans Z h.all
 have af:=ajr h.small (ab0 a2) a3;have q:=aa9 (step:=S16_10step 0) (λk (m:List Str)=>((),strs m,strs o,((k:Nat):Int),s)) o (λm z=>(ass s z).foldl insW m) (λm=>(strs m,s)) (λk m=>abm m/\m.length<=1+sumS (λz=>(flds s z).length) (o.take k)) (λk m hk hI=>by
  obtain ⟨aa,hI⟩:=hI;have H:k<(strs o).length:=by grind
  obtain ⟨n1,n2,n3⟩:=al0 s o[k];have n4:(asr s o[k]).length<=(flds s o[k]).length:=atu (Nat.le_refl _);have Z:=ave (λz=>(flds s z).length) o k hk;have h3:=amm (λz=>(flds s z).length) o (k+1);obtain ⟨i1,_,i3,_⟩:=at1 (ass s o[k]) m aa;refine ⟨?_,i1,by omega⟩;simp only [S16_10step,S16_10,decL k _ H,Af,aaa,Ag H,Ai,afl H,aag hk,a9u h.small,Aa];grind [ins14,aat]) (λm _=>by
  have e:((o.length:Nat):Int)=(((strs o).length:Nat):Int):=by grind
  simp only [S16_10step,S16_10,e,decN,Ah]) o.length 0 I (Nat.zero_add _) ⟨M,by omega⟩
 rw [Ap] at q;obtain ⟨q,q1,q2⟩:=q;obtain ⟨_,g2,_⟩:=a3g (ass s) o I M;generalize o.foldl (λm z=>(ass s z).foldl insW m) I=ys at q q1 q2 g2;have q':aaf 0 (S16_10step 0) ((),strs I,strs o,(0:Int),s)=some (strs ys,s):=q;rw [List.take_length] at q2;refine ⟨ys,?_,q1,λx=>?_,by omega⟩
 ·grind [F16]
 ·rw [g2,<-J];unfold Clo;constructor
  ·rintro (O | ⟨z,hz,O⟩)
   ·grind
   grind [al0]
  ·rintro (⟨rfl,hb⟩ | ⟨y,hy,O⟩)
   ·grind
   ·right;refine ⟨y,(a4 y).2 ⟨?_,hy⟩,((al0 s y).2.1 x).2 O⟩;cases hM:isM s n with
    | true=>rfl
    | false=>rcases hy with rfl | hy;all_goals grind [aw3,absurd,bcq]
end Go.Ab
namespace Go.Ab
open Go
set_option maxRecDepth 100000
theorem bak:∀ l:List PV,(l.map λm=>((m.fld 1).asList).length).sum<=aax l:=by
 intro l;induction l with
 | nil=>simp [aax]
 | cons x r h=>grind [ae2,aax]
theorem ba2 {s:PV} (o:SOk s) (M:aaq s<=1048576) (z:SchemaV s):Few s:=by
 have H:=bak (msS s);have I:aax (msS s)<=aaq (s.fld 0):=aeo (s.fld 0);have J:=adi s 0;refine ⟨⟨o.len.m,o.len.e,λm O=>?_⟩,anb z.ascM,by omega⟩;have:∀ l:List PV,m∈l->((m.fld 1).asList).length<=(l.map λm=>((m.fld 1).asList).length).sum:=by
  intro l;induction l with
  | nil=>intro h;cases h
  | cons x r Z=>grind
 grind
def ofL (xs:List PV) (d:Str):List PV:=xs.filter λx=>(x.fld 1).asStr==d
theorem bee {xs:List PV} (h:xs.length<=90000000) (d:Str):F15 0 xs d=some (ofL xs d):=by
 have q:=agb (step:=S15_4step 0) (λi c=>(d,c,xs,(xs.length:Int),((i:Nat):Int))) xs (λx=>bif (x.fld 1).asStr==d then [x] else []) (λc=>c) 90000000 (λi c o H=>by
  simp only [S15_4step,S15_4,decL i _ o,Af,aaa,Ag o,Ai,aat i (show i<=1000000000000 by omega),al6 (show c.length<=100000000 by omega)];grind) (λc=>by
  simp only [S15_4step,S15_4,decN,Ah]) xs.length 0 [] (Nat.zero_add _) (by
  rw [Ap,an1,Aw];grind)
 rw [Ap,an1,A6] at q;have z:aaf 0 (S15_4step 0) (d,[],xs,(xs.length:Int),(0:Int))=_:=q;unfold F15;rw [z];rfl
theorem bef {xs:List PV} (h:xs.length<=90000000) (d:Str):F19 0 xs d=some (ofL xs d):=by
 have q:=agb (step:=S19_4step 0) (λi c=>(d,c,xs,(xs.length:Int),((i:Nat):Int))) xs (λx=>bif (x.fld 1).asStr==d then [x] else []) (λc=>c) 90000000 (λi c o H=>by
  simp only [S19_4step,S19_4,decL i _ o,Af,aaa,Ag o,Ai,aat i (show i<=1000000000000 by omega),al6 (show c.length<=100000000 by omega)];grind) (λc=>by
  simp only [S19_4step,S19_4,decN,Ah]) xs.length 0 [] (Nat.zero_add _) (by
  rw [Ap,an1,Aw];grind)
 rw [Ap,an1,A6] at q;have z:aaf 0 (S19_4step 0) (d,[],xs,(xs.length:Int),(0:Int))=_:=q;unfold F19;rw [z];rfl
abbrev hasC (C:List PV) (d:Str):Bool:=decide (((ofL C d).length:Int)>(0:Int))
def asn (C:List PV) (N:List Str):List PV:=(strs N).flatMap λx=>bif hasC C x.asStr then [x] else []
theorem aso (C:List PV) (N:List Str):(asn C N).length<=N.length:=by unfold asn;rw [an1];grind
theorem a6f {N:List Str}{i:Nat} (h:i<(strs N).length):(strs N).getD i .bad=PV.str (((strs N).getD i .bad).asStr):=by rw [aag h,List.getElem_map];rfl
theorem toldP {C:List PV} (o:C.length<=90000000) (N:List Str) (z:N.length<=20000000) (a b:PV) (B:List PV):aaf 0 (S6_7step 0) (C,[],(),(((strs N).length:Nat):Int),(0:Int),a,b,strs N,B)=some (asn C N,a,b,strs N,B):=by
 have q:=agb (step:=S6_7step 0) (λi c=>(C,c,(),(((strs N).length:Nat):Int),((i:Nat):Int),a,b,strs N,B)) (strs N) (λx=>bif hasC C x.asStr then [x] else []) (λc=>(c,a,b,strs N,B)) 90000000 (λi c h z=>by
  have H:i<N.length:=by grind
  simp only [S6_7step,S6_7,decL i _ h,Af,aaa,Ag h,Ai,aat i (show i<=1000000000000 by omega),al6 (show c.length<=100000000 by omega),bee o,Aa];rw [<-a6f h];grind) (λc=>by
  simp only [S6_7step,S6_7,decN,Ah]) (strs N).length 0 [] (Nat.zero_add _) (by
  have:=aso C N;grind [asn,List.length_nil])
 rw [Ap,A6] at q;exact q
theorem toldR {C:List PV} (o:C.length<=90000000) (N:List Str) (z:N.length<=20000000) (a b:PV):aaf 0 (S7_15step 0) ([],C,strs N,(((strs N).length:Nat):Int),(0:Int),a,b)=some (asn C N,a,b):=by
 have q:=agb (step:=S7_15step 0) (λi c=>(c,C,strs N,(((strs N).length:Nat):Int),((i:Nat):Int),a,b)) (strs N) (λx=>bif hasC C x.asStr then [x] else []) (λc=>(c,a,b)) 90000000 (λi c h z=>by
  have H:i<N.length:=by grind
  simp only [S7_15step,S7_15,decL i _ h,Af,aaa,Ag h,Ai,aat i (show i<=1000000000000 by omega),al6 (show c.length<=100000000 by omega),bef o,Aa];rw [<-a6f h];grind) (λc=>by
  simp only [S7_15step,S7_15,decN,Ah]) (strs N).length 0 [] (Nat.zero_add _) (by
  have:=aso C N;grind [asn,List.length_nil])
 rw [Ap,A6] at q;exact q
theorem cB_lt' {x y:Str}:cB x y<0 ↔ x<y:=by have:=a7o x y;rw [Go.Proofs.bytesLess_eq] at this;grind
theorem ay0 (xs:List Str):∀ l:List Str,abm l->abm (xs.foldl (λa x=>insK cB x a) l)/\(∀ y,y∈xs.foldl (λa x=>insK cB x a) l ↔ y∈l\/y∈xs)/\(xs.foldl (λa x=>insK cB x a) l).length<=l.length+xs.length:=by
 induction xs with
 | nil=>grind
 | cons x r z=>intro l h;have o:abm (insK cB x l):=(a3o Key.cB (s:=x) (h.imp λ{a b} h=>cB_lt'.2 h)).imp λ{a b} h=>cB_lt'.1 h;grind [insK,cB,akc,List.length_cons,arq,Key.cB]
theorem bec {n:Str}{a b:PV} (l h:List Str) (J:h.length+l.length<=80000000):aaf 0 (S7_4step 0) (n,(),(),strs h,[],strs l,(((strs l).length:Nat):Int),(0:Int),a,b)=some (n,(),(),strs (l.foldl (λa x=>insK cB x a) h),[],a,b):=by
 have q:=(aa9 (step:=S7_4step 0) (λk (m:List Str)=>(n,(),(),strs m,[],strs l,(((strs l).length:Nat):Int),((k:Nat):Int),a,b)) l (λa x=>insK cB x a) (λm=>(n,(),(),strs m,[],a,b)) (λk m=>m.length<=h.length+k) (λk m H I=>by
  have o:k<(strs l).length:=by grind
  have z:=akc (c:=cB) (s:=l[k]) m;refine ⟨?_,by omega⟩;simp only [S7_4step,S7_4,decL k _ o,Af,aaa,Ag o,Ai,aat k (show k<=1000000000000 by omega),afl o,aag H,aft m l[k] (show m.length<=100000000 by omega),Aa]) (λm _=>by
  have e:((l.length:Nat):Int)=(((strs l).length:Nat):Int):=by grind
  simp only [S7_4step,S7_4,e,decN,Ah]) l.length 0 h (Nat.zero_add _) (Nat.le_refl _)).1
 rw [Ap] at q;exact q
theorem bed {a b:PV} (l h:List Str) (J:h.length+l.length<=80000000):aaf 0 (S7_9step 0) ((),(),strs h,[],strs l,(((strs l).length:Nat):Int),(0:Int),a,b)=some ((),(),strs (l.foldl (λa x=>insK cB x a) h),[],a,b):=by
 have q:=(aa9 (step:=S7_9step 0) (λk (m:List Str)=>((),(),strs m,[],strs l,(((strs l).length:Nat):Int),((k:Nat):Int),a,b)) l (λa x=>insK cB x a) (λm=>((),(),strs m,[],a,b)) (λk m=>m.length<=h.length+k) (λk m H I=>by
  have o:k<(strs l).length:=by grind
  have z:=akc (c:=cB) (s:=l[k]) m;refine ⟨?_,by omega⟩;simp only [S7_9step,S7_9,decL k _ o,Af,aaa,Ag o,Ai,aat k (show k<=1000000000000 by omega),afl o,aag H,aft m l[k] (show m.length<=100000000 by omega),Aa]) (λm _=>by
  have e:((l.length:Nat):Int)=(((strs l).length:Nat):Int):=by grind
  simp only [S7_9step,S7_9,e,decN,Ah]) l.length 0 h (Nat.zero_add _) (Nat.le_refl _)).1
 rw [Ap] at q;exact q
theorem a1c {a b:PV} (I:SOk a) (J:SOk b) (h:SchemaV a) (o:SchemaV b) (z:aaq a<=1048576) (H:aaq b<=1048576) (n:Str):∃ N:List Str,F6 0 a b n=some (asn (refC a b) N)/\F7 0 a b n=some (asn (refC a b) N)/\N.length<=20000000:=by
 have Z:=ba2 I z h;have fb:=ba2 J H o;obtain ⟨A,p1,p2,p3,p4⟩:=aqc Z n;obtain ⟨B,q1,q2,q3,q4⟩:=aqc fb n;obtain ⟨A',r1,r2,r3,r4⟩:=aot Z n;obtain ⟨B',s1,s2,s3,s4⟩:=aot fb n;have eA:A=A':=alv p2 r2 λx=>(p3 x).trans (r3 x).symm;have eB:B=B':=alv q2 s2 λx=>(q3 x).trans (s3 x).symm;subst eA;subst eB;have hl:(refC a b).length<=90000000:=by rw [(aov h.up.uq o.up.uq).length_eq];exact aw6 h.up.uq o.up.uq z H
 obtain ⟨u1,u2,u3⟩:=ay0 A [] .nil;obtain ⟨O,w2,w3⟩:=ay0 B _ u1;generalize hU:A.foldl (λa x=>insK cB x a) []=U at u1 u2 u3 O w2 w3;simp only [Aw] at u3;generalize hW:B.foldl (λa x=>insK cB x a) U=W at O w2 w3;have eN:Lib.compact (adk (A++B))=W:=alv (adp _).1 O λx=>by grind [adp,u2]
 refine ⟨W,?_,?_,by omega⟩
 ·unfold F6;rw [p1,Aa,q1,Aa];dsimp only;have d:decide ((strs A).length+(strs B).length<=aae)=true:=Ag (by grind [aae,List.length_map]);have e:strs A++strs B=strs (A++B):=by simp [strs]
  rw [d,Af,e,ao6 (by grind),Aa,av6 I J h.up o.up z H,Aa,aho (by rw [ae5,Al];omega),Aa,eN];grind [toldP]
 ·have n4:=bec (n:=n) (a:=a) (b:=b) A [] (by grind);rw [hU] at n4;have M:aaf 0 (S7_4step 0) (n,(),(),[],[],strs A,(((strs A).length:Nat):Int),(0:Int),a,b)=_:=n4;have n9:=bed (a:=a) (b:=b) B U (by omega);rw [hW] at n9;unfold F7;rw [r1,Aa,M,Aa];dsimp only;rw [s1,Aa,n9,Aa];dsimp only;rw [a7u I J h.up o.up h o z H,Aa,toldR hl W (by omega),Aa]
theorem ar9 {a b:PV}{n:Str} (z:SOk a) (H:SOk b) (h:aaq a<=1048576) (o:aaq b<=1048576):F3 0 a b n=some true:=by
 have Z:amx 0=some true:=rfl;obtain ⟨va,v1,v2⟩:=avo z h;obtain ⟨vb,w1,w2⟩:=avo H o;unfold F3;rw [v1];cases va with
 | false=>grind
 | true=>
  simp only [Aa,Ay,Av,Af,Ah,w1];cases vb with
  | false=>grind
  | true=>
   obtain ⟨N,J,M,t3⟩:=a1c z H (v2 rfl) (w2 rfl) h o n;have O:=aso (refC a b) N;generalize asn (refC a b) N=L at J M O;have q:=a0n (step:=S3_9step 0) (λi=>(L,L,(L.length:Int),((i:Nat):Int),a,b)) L.length (.inr (a,b)) (λi I=>by
    simp only [S3_9step,S3_9,decL i _ I,Af,aaa,Ag I,Ai,beq_self_eq_true,Ay,Ah,aat i (show i<=1000000000000 by omega)]) (by
    simp only [S3_9step,S3_9,decN,Ah])
   have q':aaf 0 (S3_9step 0) (L,L,(L.length:Int),(0:Int),a,b)=_:=q;simp only [Ay,Ah,Aa,J,M,bne_self_eq_false,q',ana,Z]
end Go.Ab
