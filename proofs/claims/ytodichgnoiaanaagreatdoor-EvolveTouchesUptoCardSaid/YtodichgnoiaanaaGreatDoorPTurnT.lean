/- Comparing in both directions: what is collected is the same, turned back. -/
import Derived.Test.YtodichgnoiaanaaGreatDoorPCmpT
set_option linter.unusedVariables false
set_option linter.unusedSimpArgs false
set_option linter.unnecessarySimpa false
namespace Go.Ab
open Go
set_option maxRecDepth 100000
theorem adv {h o:Type} (f g:h->List o):∀ l:List h,(l.flatMap λx=>f x++g x).Perm (l.flatMap f++l.flatMap g):=by
 intro l;induction l with
 | nil=>exact .refl _
 | cons x r z=>simp only [List.flatMap_cons];classical grind
theorem a8d {h o:Type}:∀ l:List h,(l.flatMap λ_=>([]:List o))=[]:=by simp_all
theorem auq {o z I:Type} (h:o->z->List I) (B:List z):∀ A:List o,(A.flatMap λx=>B.flatMap (h x)).Perm (B.flatMap λy=>A.flatMap λx=>h x y):=by
 intro A;induction A with
 | nil=>simp_all
 | cons x r H=>simp only [List.flatMap_cons];exact ((List.Perm.refl _).append H).trans (adv (h x) (λy=>r.flatMap λx=>h x y) B).symm
theorem aoo {h o:Type}{f g:h->List o}:∀ {l:List h},(∀ x,x∈l->(f x).Perm (g x))->(l.flatMap f).Perm (l.flatMap g):=by
 intro l;induction l with
 | nil=>simp_all
 | cons x r z=>grind
theorem af4 {h o:Type}{f g:h->List o}:∀ {l:List h},(∀ x,x∈l->f x=g x)->l.flatMap f=l.flatMap g:=by
 intro l;induction l with
 | nil=>intro _;rfl
 | cons x r z=>grind
section
variable {κ:Type} [BEq κ] [LawfulBEq κ] {key:PV->κ}
theorem fst_key {k:κ}{l:List PV}{y:PV} (h:fst key k l=some y):key y=k:=by unfold fst at h;grind
theorem awi {z:Type}{G:PV->List z}{k:κ}:∀ {B:List PV},(B.map key).Nodup->(match fst key k B with | some y=>G y | none=>[])=B.flatMap λy=>bif key y==k then G y else []:=by
 intro B;induction B with
 | nil=>intro _;rfl
 | cons b r h=>intro o;rw [List.map_cons,List.nodup_cons] at o;have h:=h o.2;unfold fst at h ⊢;grind
theorem aqt {I:Type}{G:PV->PV->List I}{A B:List PV} (z:(A.map key).Nodup) (H:(B.map key).Nodup):
 (A.flatMap λx=>match fst key (key x) B with | some y=>G x y | none=>[]).Perm (B.flatMap λy=>match fst key (key y) A with | some x=>G x y | none=>[]):=by
 have h:(A.flatMap λx=>match fst key (key x) B with | some y=>G x y | none=>[])=A.flatMap λx=>B.flatMap λy=>bif key y==key x then G x y else []:=af4 λx _=>awi (G:=λy=>G x y) H
 have o:(B.flatMap λy=>match fst key (key y) A with | some x=>G x y | none=>[])=B.flatMap λy=>A.flatMap λx=>bif key y==key x then G x y else []:=af4 λy _=>by rw [awi (G:=λx=>G x y) z];grind
 rw [h,o]
 exact auq _ _ _
theorem aix {both o:PV->PV->List PV}{gone new z H T:PV->PV}{A B:List PV} (O:(A.map key).Nodup) (Z:(B.map key).Nodup) (hb:∀ x,x∈A->∀ y,y∈B->key x=key y->((both x y).map T).Perm (o y x))
 (hg:∀ x,T (gone x)=H x) (hn:∀ y,T (new y)=z y):((A.flatMap (cmn key both gone B)++B.flatMap (nws key new A)).map T).Perm (B.flatMap (cmn key o z A)++A.flatMap (nws key H B)):=by
 rw [List.map_append,List.map_flatMap,List.map_flatMap]
 have I:(A.flatMap λx=>(cmn key both gone B x).map T).Perm ((A.flatMap λx=>match fst key (key x) B with | some y=>o y x | none=>[])++A.flatMap (nws key H B)):=by
  refine .trans (aoo λx hx=>?_) (adv _ _ A);unfold cmn nws;cases h:fst key (key x) B with
  | some y=>grind [abf,fst_key]
  | none=>simp_all
 have J:(B.flatMap λy=>match fst key (key y) A with | some x=>o y x | none=>[]).Perm (A.flatMap λx=>match fst key (key x) B with | some y=>o y x | none=>[]):=aqt (G:=λy x=>o y x) Z O
 have M:(B.flatMap (cmn key o z A)).Perm ((B.flatMap λy=>match fst key (key y) A with | some x=>o y x | none=>[])++B.flatMap λy=>(nws key new A y).map T):=by
  refine .trans (aoo λy hy=>?_) (adv _ _ B);unfold cmn nws;cases h:fst key (key y) A with
  | some x=>simp_all
  | none=>simp_all
 refine (I.append (.refl _)).trans (.trans ?_ (M.symm.append (.refl _)))
 refine .trans ?_ (((J.symm).append (.refl _)).append (.refl _))
 classical
 grind
theorem alx {both:PV->PV->List PV}{gone new:PV->PV}{A B:List PV}{P:PV->Prop} (h:∀ x,x∈A->∀ y,y∈B->key x=key y->∀ c,c∈both x y->P c) (o:∀ x,x∈A->P (gone x)) (z:∀ y,y∈B->P (new y)):
 (∀ c,c∈A.flatMap (cmn key both gone B)->P c)/\∀ c,c∈B.flatMap (nws key new A)->P c:=by
 grind [cmn,fst,abf,fst_key,List.mem_singleton,nws]
def sumW (w:PV->Nat):List PV->Nat
 | []=>0
 | x::r=>w x+sumW w r
theorem a3a {h:Type}{f:PV->List h}{w:PV->Nat}:∀ {l:List PV},(∀ x,x∈l->(f x).length<=w x)->(l.flatMap f).length<=sumW w l:=by
 intro l;induction l with
 | nil=>grind
 | cons x r o=>grind [List.length_append,sumW,List.mem_cons_self,List.mem_cons_of_mem]
theorem aly {both:PV->PV->List PV}{gone new:PV->PV}{A B:List PV}{wA wB:PV->Nat} (z:(A.map key).Nodup) (H:(B.map key).Nodup) (Z:∀ x,x∈A->∀ y,y∈B->(both x y).length<=wA x+wB y):
 (A.flatMap (cmn key both gone B)).length+(B.flatMap (nws key new A)).length<=sumW (λx=>wA x+1) A+sumW (λy=>wB y+1) B:=by
 have I:(A.flatMap (cmn key both gone B)).length<=(A.flatMap λx=>List.replicate (wA x+1) ()++match fst key (key x) B with | some y=>List.replicate (wB y) () | none=>[]).length:=by
  have:∀ l:List PV,(∀ x,x∈l->x∈A)->(l.flatMap (cmn key both gone B)).length<=(l.flatMap λx=>List.replicate (wA x+1) ()++match fst key (key x) B with | some y=>List.replicate (wB y) () | none=>[]).length:=by
   intro l;induction l with
   | nil=>grind
   | cons x r o=>grind [List.mem_cons_self,List.mem_cons_of_mem,List.length_append,cmn,List.replicate,fst,abf,List.length_replicate]
  grind
 have h:=(adv (λx=>List.replicate (wA x+1) ()) (λx=>match fst key (key x) B with | some y=>List.replicate (wB y) () | none=>[]) A).length_eq
 have J:=(aqt (G:=λ_ y=>List.replicate (wB y) ()) z H).length_eq
 rw [Al] at h
 have M:(A.flatMap λx=>List.replicate (wA x+1) ()).length<=sumW (λx=>wA x+1) A:=a3a λx _=>by simp
 have O:∀ l:List PV,(l.flatMap λy=>match fst key (key y) A with | some _=>List.replicate (wB y) () | none=>[]).length+(l.flatMap (nws key new A)).length<=sumW (λy=>wB y+1) l:=by
  intro l;induction l with
  | nil=>grind
  | cons y r o=>grind [List.length_append,sumW,fst,List.replicate,nws]
 grind
end
theorem a1z {H:Type}{c:H->H->Int} (J:Lin c):∀ {l:List H},(∀ i (M:i+1<l.length),c (l[i]'(by omega)) l[i+1]<0)->l.Pairwise λx y=>c x y<0:=by
 intro l;induction l with
 | nil=>intro _;exact .nil
 | cons x r O=>
  intro h;have o:r.Pairwise λx y=>c x y<0:=O λi M=>h (i+1) (by grind);refine .cons (λy z=>?_) o;match r,o,h with
  | y0::r',o,h=>
   have I:c x y0<0:=h 0 (by grind);rcases List.mem_cons.1 z with rfl | z
   ·exact I
   ·have Z:=(List.pairwise_cons.1 o).1 y z;have:=J.tr x y0 y (by omega) (by omega);grind
theorem am7 {o:Type}{c:o->o->Int} (H:Lin c) {l:List o} (h:l.Pairwise λx y=>c x y<0):l.Nodup:=h.imp λ{a b} z e=>by subst e;have:=H.anti a a;omega
theorem a9m {l:List PV} (h:∀ i,i+1<l.length->ascB (nmL l) i=true):(l.map aad).Pairwise λx y=>cB x y<0:=by
 refine a1z Lin.cB λi z=>?_;rw [List.length_map] at z;have o:=h i z;have e:∀ j,j<l.length->(nmL l).getD j .bad=.str (aad (l.getD j .bad)):=λj H=>by
  have:j<(nmL l).length:=by simpa [nmL] using H
  rw [aag this,aag H];simp only [nmL,List.getElem_map];rfl
 unfold ascB at o;rw [e i (by omega),e (i+1) z,Bool.not_eq_true',Bool.or_eq_false_iff] at o;change Op.bytesLess (aad (l.getD (i+1) .bad)) (aad (l.getD i .bad))=false/\(aad (l.getD (i+1) .bad)==aad (l.getD i .bad))=false at o;rw [<-a7o,aag z,aag (show i<l.length by omega)] at o;grind [of_decide_eq_false,cB,aad,cB_zero]
theorem anb {l:List PV} (h:∀ i,i+1<l.length->ascB (nmL l) i=true):(l.map aad).Nodup:=am7 Lin.cB (a9m h)
theorem bcu {l:List PV}{key:PV->Int} (h:∀ i,i<l.length->0<i->key (l.getD (i-1) .bad)<key (l.getD i .bad)):(l.map key).Pairwise λx y=>cI x y<0:=by refine a1z Lin.cI λi o=>?_;rw [List.length_map] at o;have z:=h (i+1) o (by omega);rw [show i+1-1=i by omega,aag o,aag (show i<l.length by omega)] at z;rw [List.getElem_map,List.getElem_map];unfold cI;grind
theorem a6u {l:List PV}{key:PV->Int} (h:∀ i,i<l.length->0<i->key (l.getD (i-1) .bad)<key (l.getD i .bad)):(l.map key).Nodup:=am7 Lin.cI (bcu h)
theorem MsgV.uq {m:PV} (h:MsgV m):((m.fld 1).asList.map kNum).Nodup:=a6u λi z o=>(h i z).up o
theorem EnumV.uq {m:PV} (h:EnumV m):((m.fld 2).asList.map abj).Nodup:=a6u λi z o=>(h i z).up o
theorem SvcV.pw {m:PV} (h:SvcV m):((m.fld 1).asList.map aad).Pairwise λx y=>cB x y<0:=by refine a1z Lin.cB λi z=>?_;rw [List.length_map] at z;have o:=(h (i+1) z).up (by omega);rw [show i+1-1=i by omega,Bool.or_eq_false_iff] at o;change Op.bytesLess (aad ((m.fld 1).asList.getD (i+1) .bad)) (aad ((m.fld 1).asList.getD i .bad))=false/\(aad ((m.fld 1).asList.getD (i+1) .bad)==aad ((m.fld 1).asList.getD i .bad))=false at o;rw [<-a7o,aag z,aag (show i<(m.fld 1).asList.length by omega)] at o;grind [of_decide_eq_false,cB,aad,cB_zero]
theorem SvcV.uq {m:PV} (h:SvcV m):((m.fld 1).asList.map aad).Nodup:=am7 Lin.cB h.pw
structure SUq (s:PV):Prop where
 m:((s.fld 0).asList.map aad).Nodup
 e:((s.fld 1).asList.map aad).Nodup
 v:((s.fld 2).asList.map aad).Nodup
 ms:∀ x,x∈(s.fld 0).asList->((x.fld 1).asList.map kNum).Nodup
 es:∀ x,x∈(s.fld 1).asList->((x.fld 2).asList.map abj).Nodup
 vs:∀ x,x∈(s.fld 2).asList->((x.fld 1).asList.map aad).Nodup
theorem SchemaV.uq {s:PV} (h:SchemaV s):SUq s:=by
 have z:∀ {l:List PV}{x:PV},x∈l->∃ i,i<l.length/\l.getD i .bad=x:=λ{l x} H=>by obtain ⟨i,o,rfl⟩:=List.mem_iff_getElem.1 H;exact ⟨i,o,aag o⟩
 refine ⟨anb h.ascM,anb h.ascE,anb h.ascS,λx H=>?_,λx H=>?_,λx H=>?_⟩
 ·obtain ⟨i,o,rfl⟩:=z H;exact (h.msg i o).uq
 ·obtain ⟨i,o,rfl⟩:=z H;exact (h.enum i o).uq
 ·obtain ⟨i,o,rfl⟩:=z H;exact (h.svc i o).uq
theorem amz (b:Bool) (k n:Int) (d o w:Bo):(dif b (chg k d n o w)).map aed=dif b (chg (trn k) d n w o):=by cases b<;>rfl
theorem az1 {d:Bo}{x y:PV} (h:kNum x=kNum y):(acw d x y).map aed=acw d y x:=by
 have O:(x.fld 0).asInt=(y.fld 0).asInt:=h;unfold acw;simp only [List.map_append,amz];have z:ne5 x y=ne5 y x:=by unfold ne5;rw [beqC]
 have H:ne6 x y=ne6 y x:=by unfold ne6;grind
 have I:ne7 x y=ne7 y x:=by unfold ne7;rw [bne_comm]
 have J:ne8 x y=ne8 y x:=by unfold ne8;rw [bne_comm]
 have M:ne9 x y=ne9 y x:=by unfold ne9;rw [beqC]
 have o:ne10 x y=ne10 y x:=by grind [ne10,beqC,asBool,bne_comm,asInt]
 rw [z,H,I,J,M,o,O];rfl
theorem awf {a b:PV} (h:aad a=aad b) (o:((a.fld 1).asList.map kNum).Nodup) (z:((b.fld 1).asList.map kNum).Nodup):((ads a b).map aed).Perm (ads b a):=by unfold ads;rw [h];exact aix o z (λx _ y _ e=>by rw [az1 e]) (λx=>rfl) (λy=>rfl)
theorem a3z {d:Bo}{x y:PV} (h:abj x=abj y):(ai0 d x y).map aed=ai0 d y x:=by have o:(x.fld 1).asInt=(y.fld 1).asInt:=h;unfold ai0;rw [amz,beqC (x.fld 0).asStr,o];rfl
theorem a2q {a b:PV} (h:aad a=aad b) (o:((a.fld 2).asList.map abj).Nodup) (z:((b.fld 2).asList.map abj).Nodup):((aj5 a b).map aed).Perm (aj5 b a):=by unfold aj5 ayp alm;rw [h,List.map_append,amz,beqC (a.fld 1).asBool];exact (List.Perm.refl _).append (aix o z (λx _ y _ e=>by rw [a3z e]) (λx=>rfl) (λy=>rfl))
theorem a4z {d:Bo}{x y:PV} (h:aad x=aad y):(ag1 d x y).map aed=ag1 d y x:=by
 have o:(x.fld 0).asStr=(y.fld 0).asStr:=h;unfold ag1;simp only [List.map_append,amz];have z:ne21 x y=ne21 y x:=by grind [ne21,beqC]
 have H:ne22 x y=ne22 y x:=by unfold ne22;rw [bne_comm]
 have I:shT x y=shT y y:=by unfold shT;rw [o]
 have J:shT y x=shT x x:=by unfold shT;rw [o]
 rw [z,H,I,J];rfl
theorem bal {a b:PV} (h:aad a=aad b) (o:((a.fld 1).asList.map aad).Nodup) (z:((b.fld 1).asList.map aad).Nodup):((svcC a b).map aed).Perm (svcC b a):=by unfold svcC;rw [h];exact aix o z (λx _ y _ e=>by rw [a4z e]) (λx=>rfl) (λy=>rfl)
theorem bct {h:Type} (a b c d e f:List h):((a++(b++c))++(d++(e++f))).Perm ((a++d)++((b++e)++(c++f))):=by classical grind
theorem a9n {a b:PV} (h:SUq a) (o:SUq b):((raw a b).map aed).Perm (raw b a):=by
 unfold raw aka;refine ((bct ..).map aed).trans (.trans ?_ (bct ..).symm);rw [List.map_append (l₁:=gM a b++nM a b),List.map_append (l₁:=gE a b++nE a b)];refine .append ?_ (.append ?_ ?_)
 ·exact aix h.m o.m (λx z y H e=>awf e (h.ms x z) (o.ms y H)) (λx=>rfl) (λy=>rfl)
 ·exact aix h.e o.e (λx z y H e=>a2q e (h.es x z) (o.es y H)) (λx=>rfl) (λy=>rfl)
 ·exact aix h.v o.v (λx z y H e=>bal e (h.vs x z) (o.vs y H)) (λx=>rfl) (λy=>rfl)
def chSm (c:PV):Prop:=(chO c).length<=100000000/\(chW c).length<=100000000
theorem ad7 {P:PV->Prop}{b:Bool}{x:PV} (h:P x):∀ c,c∈dif b x->P c:=λc o=>by
 cases b with
 | false=>cases o
 | true=>rw [List.mem_singleton.1 o];exact h
theorem acm {P:PV->Prop}{l r:List PV} (h:∀ c,c∈l->P c) (k:∀ c,c∈r->P c):∀ c,c∈l++r->P c:=λc o=>(Bm.1 o).elim (h c) (k c)
theorem a8c {d:Bo}{x y:PV} (h:OkFld x) (o:OkFld y):∀ c,c∈acw d x y->chSm c:=by
 have I:=h.name;have z:=h.type;have J:=h.union;have M:=o.name;have H:=o.type;have O:=o.union;have t1:=avk (x.fld 4) z;have t2:=avk (y.fld 4) H;have l1:=ayu x h.dflt;have l2:=ayu y o.dflt;have Z:=atc (x.fld 2).asInt;have c2:=atc (y.fld 2).asInt;have k1:=a4g (x.fld 3).asInt;have k2:=a4g (y.fld 3).asInt;unfold acw;refine acm (ad7 ?_) (acm (ad7 ?_) (acm (ad7 ?_) (acm (ad7 ?_) (acm (ad7 ?_) (ad7 ?_)))))
 ·exact ⟨show (x.fld 1).asStr.length<=_ by omega,show (y.fld 1).asStr.length<=_ by omega⟩
 ·exact ⟨show (ahi _).length<=_ by omega,show (ahi _).length<=_ by omega⟩
 ·exact ⟨show (aiy _).length<=_ by omega,show (aiy _).length<=_ by omega⟩
 ·exact ⟨show (kw _).length<=_ by omega,show (kw _).length<=_ by omega⟩
 ·exact ⟨show (x.fld 5).asStr.length<=_ by omega,show (y.fld 5).asStr.length<=_ by omega⟩
 ·exact ⟨show (litF _).length<=_ by omega,show (litF _).length<=_ by omega⟩
theorem a2x {a b:PV} (H:OkMsg a) (I:OkMsg b):∀ c,c∈ads a b->chSm c:=by
 have h:=alx (key:=kNum) (both:=acw (aad a)) (gone:=λf=>chg 3 (aad a) (f.fld 0).asInt (f.fld 1).asStr []) (new:=λf=>chg 4 (aad a) (f.fld 0).asInt [] (f.fld 1).asStr) (P:=chSm) (A:=(a.fld 1).asList) (B:=(b.fld 1).asList)
  (λx o y z _=>a8c (H.field x o) (I.field y z)) (λx o=>⟨show (x.fld 1).asStr.length<=_ by have:=(H.field x o).name;omega,Nat.zero_le _⟩) (λy z=>⟨Nat.zero_le _,show (y.fld 1).asStr.length<=_ by have:=(I.field y z).name;omega⟩)
 exact acm h.1 h.2
theorem bb4 {a b:PV} (H:OkEnum a) (I:OkEnum b):∀ c,c∈aj5 a b->chSm c:=by
 have h:=alx (key:=abj) (both:=ai0 (aad a)) (gone:=λf=>chg 14 (aad a) (f.fld 1).asInt (f.fld 0).asStr []) (new:=λf=>chg 15 (aad a) (f.fld 1).asInt [] (f.fld 0).asStr) (P:=chSm) (A:=(a.fld 2).asList) (B:=(b.fld 2).asList)
  (λx o y z _=>ad7 ⟨show (x.fld 0).asStr.length<=_ by have:=(H.item x o).name;omega,show (y.fld 0).asStr.length<=_ by have:=(I.item y z).name;omega⟩) (λx o=>⟨show (x.fld 0).asStr.length<=_ by have:=(H.item x o).name;omega,Nat.zero_le _⟩) (λy z=>⟨Nat.zero_le _,show (y.fld 0).asStr.length<=_ by have:=(I.item y z).name;omega⟩)
 have J:=aun (a.fld 1).asBool;have M:=aun (b.fld 1).asBool;exact acm (ad7 ⟨show (amt _).length<=_ by omega,show (amt _).length<=_ by omega⟩) (acm h.1 h.2)
theorem beo {a b:PV} (z:OkSvc a) (I:OkSvc b):∀ c,c∈svcC a b->chSm c:=by
 have h:=alx (key:=aad) (both:=ag1 (aad a)) (gone:=λf=>chg 19 (aad a) (-1) (f.fld 0).asStr []) (new:=λf=>chg 20 (aad a) (-1) [] (f.fld 0).asStr) (P:=chSm) (A:=(a.fld 1).asList) (B:=(b.fld 1).asList)
  (λx o y H _=>by have M:=aqn (z.meth x o);have O:=aqn (I.meth y H);have J:=(z.meth x o).name;have Z:=aex (x.fld 3).asInt;have w2:=aex (y.fld 3).asInt;refine acm (ad7 ⟨show (adn _).length<=_ by omega,show (adn _).length<=_ by omega⟩) (ad7 ⟨show (shT _ _).length<=_ from ?_,show (shT _ _).length<=_ from ?_⟩);all_goals grind [shT,List.length_append,List.length_cons,List.length_nil])
  (λx o=>⟨show (x.fld 0).asStr.length<=_ by have:=(z.meth x o).name;omega,Nat.zero_le _⟩) (λy H=>⟨Nat.zero_le _,show (y.fld 0).asStr.length<=_ by have:=(I.meth y H).name;omega⟩)
 exact acm h.1 h.2
theorem bej {a b:PV} (H:SOk a) (I:SOk b):∀ c,c∈raw a b->chSm c:=by have z:∀ (k:Int) (m:PV),chSm (chg k (aad m) (-1) [] []):=λk m=>⟨Nat.zero_le _,Nat.zero_le _⟩;have J:=alx (key:=aad) (both:=ads) (gone:=λm=>chg 1 (aad m) (-1) [] []) (new:=λm=>chg 2 (aad m) (-1) [] []) (P:=chSm) (A:=(a.fld 0).asList) (B:=(b.fld 0).asList) (λx h y o _=>a2x (H.msg x h) (I.msg y o)) (λx _=>z 1 x) (λy _=>z 2 y);have M:=alx (key:=aad) (both:=aj5) (gone:=λm=>chg 11 (aad m) (-1) [] []) (new:=λm=>chg 12 (aad m) (-1) [] []) (P:=chSm) (A:=(a.fld 1).asList) (B:=(b.fld 1).asList) (λx h y o _=>bb4 (H.enum x h) (I.enum y o)) (λx _=>z 11 x) (λy _=>z 12 y);have O:=alx (key:=aad) (both:=svcC) (gone:=λm=>chg 17 (aad m) (-1) [] []) (new:=λm=>chg 18 (aad m) (-1) [] []) (P:=chSm) (A:=(a.fld 2).asList) (B:=(b.fld 2).asList) (λx h y o _=>beo (H.svc x h) (I.svc y o)) (λx _=>z 17 x) (λy _=>z 18 y);exact acm (acm J.1 (acm M.1 O.1)) (acm J.2 (acm M.2 O.2))
theorem aqr (n:Nat):∀ l:List PV,sumW (λ_=>n) l=n*l.length:=by
 intro l;induction l with
 | nil=>rfl
 | cons x r h=>grind [sumW,List.length_cons,Nat.mul_succ]
theorem aqs (k i:Nat):∀ l:List PV,sumW (λm=>k*(m.fld i).asList.length+k) l<=(2*k)*aax l:=by
 intro l;induction l with
 | nil=>exact Nat.zero_le _
 | cons m r H=>
  have h:=ae3 (m.fld i);have o:=adi m i;have z:=aen m;rw [sumW,aax,Nat.mul_add];have:k*(m.fld i).asList.length+k<=2*k*aaq m:=by rw [<-Nat.mul_succ,Nat.mul_comm 2 k,Nat.mul_assoc];exact Nat.mul_le_mul_left _ (by omega)
  omega
theorem a6h {v w:PV->Nat} (h:∀ x,v x<=w x):∀ l:List PV,sumW v l<=sumW w l:=by
 intro l;induction l with
 | nil=>exact Nat.le_refl _
 | cons x r o=>grind [sumW]
theorem aw6 {a b:PV} (z:SUq a) (H:SUq b) (M:aaq a<=1048576) (O:aaq b<=1048576):(raw a b).length<=90000000:=by
 have hM:∀ x,x∈(a.fld 0).asList->∀ y,y∈(b.fld 0).asList->(ads x y).length<=(7*(x.fld 1).asList.length+6)+(y.fld 1).asList.length:=λx I y J=>by have h:=aly (key:=kNum) (both:=acw (aad x)) (gone:=λf=>chg 3 (aad x) (f.fld 0).asInt (f.fld 1).asStr []) (new:=λf=>chg 4 (aad x) (f.fld 0).asInt [] (f.fld 1).asStr) (wA:=λ_=>6) (wB:=λ_=>0) (z.ms x I) (H.ms y J) (λf _ g _=>aqe _ f g);rw [aqr,aqr] at h;grind [ads,List.length_append]
 have hE:∀ x,x∈(a.fld 1).asList->∀ y,y∈(b.fld 1).asList->(aj5 x y).length<=(7*(x.fld 2).asList.length+6)+(y.fld 2).asList.length:=λx I y J=>by have h:=aly (key:=abj) (both:=ai0 (aad x)) (gone:=λf=>chg 14 (aad x) (f.fld 1).asInt (f.fld 0).asStr []) (new:=λf=>chg 15 (aad x) (f.fld 1).asInt [] (f.fld 0).asStr) (wA:=λ_=>1) (wB:=λ_=>0) (z.es x I) (H.es y J) (λf _ g _=>ada _ _);rw [aqr,aqr] at h;grind [ada,asBool,chg,aad,amt,aj5,ayp,alm,List.length_append]
 have hS:∀ x,x∈(a.fld 2).asList->∀ y,y∈(b.fld 2).asList->(svcC x y).length<=(7*(x.fld 1).asList.length+6)+(y.fld 1).asList.length:=λx I y J=>by
  have h:=aly (key:=aad) (both:=ag1 (aad x)) (gone:=λf=>chg 19 (aad x) (-1) (f.fld 0).asStr []) (new:=λf=>chg 20 (aad x) (-1) [] (f.fld 0).asStr) (wA:=λ_=>2) (wB:=λ_=>0) (z.vs x I) (H.vs y J) (λf _ g _=>by grind [ada,ne21,chg,aad,adn,ne22,shT,ag1,List.length_append])
  rw [aqr,aqr] at h;grind [svcC,List.length_append]
 have t1:=aly (key:=aad) (both:=ads) (gone:=λm=>chg 1 (aad m) (-1) [] []) (new:=λm=>chg 2 (aad m) (-1) [] []) (wA:=λx=>7*(x.fld 1).asList.length+6) (wB:=λy=>(y.fld 1).asList.length) z.m H.m hM;have t2:=aly (key:=aad) (both:=aj5) (gone:=λm=>chg 11 (aad m) (-1) [] []) (new:=λm=>chg 12 (aad m) (-1) [] []) (wA:=λx=>7*(x.fld 2).asList.length+6) (wB:=λy=>(y.fld 2).asList.length) z.e H.e hE;have t3:=aly (key:=aad) (both:=svcC) (gone:=λm=>chg 17 (aad m) (-1) [] []) (new:=λm=>chg 18 (aad m) (-1) [] []) (wA:=λx=>7*(x.fld 1).asList.length+6) (wB:=λy=>(y.fld 1).asList.length) z.v H.v hS;have w7:∀ (i:Nat) (l:List PV),sumW (λx=>7*(x.fld i).asList.length+6+1) l<=14*aax l:=λi l=>aqs 7 i l;have Z:∀ (i:Nat) (l:List PV),sumW (λx=>(x.fld i).asList.length+1) l<=2*aax l:=λi l=>Nat.le_trans (a6h (λx=>by omega) l) (aqs 1 i l);have o:∀ (v:PV) (i:Nat),aaq v<=1048576->aax (v.fld i).asList<=1048576:=λv i h=>by grind [aeo,adi]
 have a0:=o a 0 M;have a1:=o a 1 M;have a2:=o a 2 M;have b0:=o b 0 O;have b1:=o b 1 O;have b2:=o b 2 O;have q1:=w7 1 (a.fld 0).asList;have q2:=w7 2 (a.fld 1).asList;have q3:=w7 1 (a.fld 2).asList;have r1:=Z 1 (b.fld 0).asList;have r2:=Z 2 (b.fld 1).asList;have r3:=Z 1 (b.fld 2).asList;grind [raw,aka,gM,gE,gS,nM,nE,nS,List.length_append]
theorem a7v {a b:PV} (z:SOk a) (H:SOk b) (J:SUq a) (M:SUq b) (h:aaq a<=1048576) (o:aaq b<=1048576):∃ ys:List PV,F9 0 a b=some ys/\ys.Perm (raw a b)/\Srt ys:=by have hl:=aw6 J M h o;obtain ⟨ys,O,Z,h3⟩:=a6a (xs:=raw a b) ⟨by omega,λx I=>(bej z H x I).1⟩;grind [azr]
end Go.Ab
