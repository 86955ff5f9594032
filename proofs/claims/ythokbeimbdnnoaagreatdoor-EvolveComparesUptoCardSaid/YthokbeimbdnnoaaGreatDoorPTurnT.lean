/- Comparing in both directions: what is collected is the same, turned back. -/
import Derived.Test.YthokbeimbdnnoaaGreatDoorPCmpT
set_option linter.unusedVariables false
set_option linter.unusedSimpArgs false
set_option linter.unnecessarySimpa false
namespace Go.Ab
open Go
set_option maxRecDepth 100000
theorem ac7 {o z:Type} (f g:o->List z):∀ l:List o,(l.flatMap λx=>f x++g x).Perm (l.flatMap f++l.flatMap g):=by
 intro l;induction l with
 | nil=>exact .refl _
 | cons x r h=>simp only [List.flatMap_cons];classical rw [List.perm_iff_count] at h ⊢;intro a;have:=h a;simp only [List.count_append] at this ⊢;omega
theorem aot {o z:Type}:∀ l:List o,(l.flatMap λ_=>([]:List z))=[]:=by
 intro l;induction l with
 | nil=>rfl
 | cons x r h=>rw [List.flatMap_cons,h];rfl
theorem aq4 {o z I:Type} (h:o->z->List I) (B:List z):∀ A:List o,(A.flatMap λx=>B.flatMap (h x)).Perm (B.flatMap λy=>A.flatMap λx=>h x y):=by
 intro A;induction A with
 | nil=>simp only [List.flatMap_nil];rw [aot]
 | cons x r H=>simp only [List.flatMap_cons];exact ((List.Perm.refl _).append H).trans (ac7 (h x) (λy=>r.flatMap λx=>h x y) B).symm
theorem amd {o I:Type}{f g:o->List I}:∀ {l:List o},(∀ x,x∈l->(f x).Perm (g x))->(l.flatMap f).Perm (l.flatMap g):=by
 intro l;induction l with
 | nil=>intro _;exact .refl _
 | cons x r H=>intro h;simp only [List.flatMap_cons];exact (h x (List.mem_cons_self ..)).append (H λy z=>h y (List.mem_cons_of_mem _ z))
theorem adi {o I:Type}{f g:o->List I}:∀ {l:List o},(∀ x,x∈l->f x=g x)->l.flatMap f=l.flatMap g:=by
 intro l;induction l with
 | nil=>intro _;rfl
 | cons x r H=>intro h;simp only [List.flatMap_cons,h x (List.mem_cons_self ..),H λy z=>h y (List.mem_cons_of_mem _ z)]
section
variable {κ:Type} [BEq κ] [LawfulBEq κ] {key:PV->κ}
theorem fst_key {k:κ}{l:List PV}{y:PV} (h:fst key k l=some y):key y=k:=by unfold fst at h;have o:=List.find?_some h;exact eq_of_beq o
theorem asp {J:Type}{G:PV->List J}{k:κ}:∀ {B:List PV},(B.map key).Nodup->(match fst key k B with | some y=>G y | none=>[])=B.flatMap λy=>bif key y==k then G y else []:=by
 intro B;induction B with
 | nil=>intro _;rfl
 | cons b r h=>
  intro o;rw [Bh,List.nodup_cons] at o;have h:=h o.2;unfold fst at h ⊢;rw [List.find?_cons,List.flatMap_cons];cases H:key b==k with
  | true=>
   dsimp only;have e:=eq_of_beq H;have:(r.flatMap λy=>bif key y==k then G y else [])=r.flatMap λ_=>[]:=adi λy I=>by
    cases z:key y==k with
    | false=>rfl
    | true=>exact absurd (by rw [e,<-eq_of_beq z];exact List.mem_map_of_mem I) o.1
   rw [this,aot,List.append_nil];rfl
  | false=>dsimp only;rw [h];rfl
theorem an8 {I:Type}{G:PV->PV->List I}{A B:List PV} (z:(A.map key).Nodup) (H:(B.map key).Nodup):
 (A.flatMap λx=>match fst key (key x) B with | some y=>G x y | none=>[]).Perm (B.flatMap λy=>match fst key (key y) A with | some x=>G x y | none=>[]):=by
 have h:(A.flatMap λx=>match fst key (key x) B with | some y=>G x y | none=>[])=A.flatMap λx=>B.flatMap λy=>bif key y==key x then G x y else []:=adi λx _=>asp (G:=λy=>G x y) H
 have o:(B.flatMap λy=>match fst key (key y) A with | some x=>G x y | none=>[])=B.flatMap λy=>A.flatMap λx=>bif key y==key x then G x y else []:=adi λy _=>by rw [asp (G:=λx=>G x y) z];refine adi λx _=>?_;rw [beqC (key x) (key y)]
 rw [h,o]
 exact aq4 _ _ _
theorem ahv {both o:PV->PV->List PV}{gone new z H T:PV->PV}{A B:List PV} (uA:(A.map key).Nodup) (uB:(B.map key).Nodup) (I:∀ x,x∈A->∀ y,y∈B->key x=key y->((both x y).map T).Perm (o y x))
 (J:∀ x,T (gone x)=H x) (M:∀ y,T (new y)=z y):((A.flatMap (cmn key both gone B)++B.flatMap (nws key new A)).map T).Perm (B.flatMap (cmn key o z A)++A.flatMap (nws key H B)):=by
 rw [List.map_append,List.map_flatMap,List.map_flatMap]
 have Z:(A.flatMap λx=>(cmn key both gone B x).map T).Perm ((A.flatMap λx=>match fst key (key x) B with | some y=>o y x | none=>[])++A.flatMap (nws key H B)):=by
  refine .trans (amd λx O=>?_) (ac7 _ _ A);unfold cmn nws;cases h:fst key (key x) B with
  | some y=>dsimp only;rw [List.append_nil];exact I x O y (aa2 h) (fst_key h).symm
  | none=>dsimp only;rw [Bh,List.map_nil,J];exact .refl _
 have p2:(B.flatMap λy=>match fst key (key y) A with | some x=>o y x | none=>[]).Perm (A.flatMap λx=>match fst key (key x) B with | some y=>o y x | none=>[]):=an8 (G:=λy x=>o y x) uB uA
 have p3:(B.flatMap (cmn key o z A)).Perm ((B.flatMap λy=>match fst key (key y) A with | some x=>o y x | none=>[])++B.flatMap λy=>(nws key new A y).map T):=by
  refine .trans (amd λy hy=>?_) (ac7 _ _ B);unfold cmn nws;cases h:fst key (key y) A with
  | some x=>dsimp only;rw [List.map_nil,List.append_nil]
  | none=>dsimp only;rw [Bh,List.map_nil,M];exact .refl _
 refine (Z.append (.refl _)).trans (.trans ?_ (p3.symm.append (.refl _)))
 refine .trans ?_ (((p2.symm).append (.refl _)).append (.refl _))
 classical
 rw [List.perm_iff_count]
 intro a
 simp only [List.count_append]
 omega
theorem aj6 {both:PV->PV->List PV}{gone new:PV->PV}{A B:List PV}{P:PV->Prop} (H:∀ x,x∈A->∀ y,y∈B->key x=key y->∀ c,c∈both x y->P c) (I:∀ x,x∈A->P (gone x)) (J:∀ y,y∈B->P (new y)):
 (∀ c,c∈A.flatMap (cmn key both gone B)->P c)/\∀ c,c∈B.flatMap (nws key new A)->P c:=by
 refine ⟨λc o=>?_,λc o=>?_⟩
 ·obtain ⟨x,z,o⟩:=List.mem_flatMap.1 o;unfold cmn at o;cases h:fst key (key x) B with
  | some y=>rw [h] at o;exact H x z y (aa2 h) (fst_key h).symm c o
  | none=>rw [h] at o;rw [List.mem_singleton.1 o];exact I x z
 ·obtain ⟨y,M,o⟩:=List.mem_flatMap.1 o;unfold nws at o;cases h:fst key (key y) A with
  | some x=>rw [h] at o;cases o
  | none=>rw [h] at o;rw [List.mem_singleton.1 o];exact J y M
def sumW (w:PV->Nat):List PV->Nat
 | []=>0
 | x::r=>w x+sumW w r
theorem a1d {H:Type}{f:PV->List H}{w:PV->Nat}:∀ {l:List PV},(∀ x,x∈l->(f x).length<=w x)->(l.flatMap f).length<=sumW w l:=by
 intro l;induction l with
 | nil=>intro _;exact Nat.le_refl _
 | cons x r z=>intro h;rw [List.flatMap_cons,Ak,sumW];have I:=h x (List.mem_cons_self ..);have J:=z λy o=>h y (List.mem_cons_of_mem _ o);omega
theorem aj7 {both:PV->PV->List PV}{gone new:PV->PV}{A B:List PV}{wA wB:PV->Nat} (Z:(A.map key).Nodup) (uB:(B.map key).Nodup) (J:∀ x,x∈A->∀ y,y∈B->(both x y).length<=wA x+wB y):
 (A.flatMap (cmn key both gone B)).length+(B.flatMap (nws key new A)).length<=sumW (λx=>wA x+1) A+sumW (λy=>wB y+1) B:=by
 have h1:(A.flatMap (cmn key both gone B)).length<=(A.flatMap λx=>List.replicate (wA x+1) ()++match fst key (key x) B with | some y=>List.replicate (wB y) () | none=>[]).length:=by
  have:∀ l:List PV,(∀ x,x∈l->x∈A)->(l.flatMap (cmn key both gone B)).length<=(l.flatMap λx=>List.replicate (wA x+1) ()++match fst key (key x) B with | some y=>List.replicate (wB y) () | none=>[]).length:=by
   intro l;induction l with
   | nil=>intro _;exact Nat.le_refl _
   | cons x r o=>
    intro H;have M:=H x (List.mem_cons_self ..);have o:=o λy O=>H y (List.mem_cons_of_mem _ O);simp only [List.flatMap_cons,Ak];have:(cmn key both gone B x).length<=(List.replicate (wA x+1) ()).length+(match fst key (key x) B with | some y=>List.replicate (wB y) () | none=>[]).length:=by
     unfold cmn;cases h:fst key (key x) B with
     | some y=>have:=J x M y (aa2 h);simp only [List.length_replicate];omega
     | none=>simp
    omega
  exact this A λx h=>h
 have I:=(ac7 (λx=>List.replicate (wA x+1) ()) (λx=>match fst key (key x) B with | some y=>List.replicate (wB y) () | none=>[]) A).length_eq
 have h3:=(an8 (G:=λ_ y=>List.replicate (wB y) ()) Z uB).length_eq
 rw [Ak] at I
 have h4:(A.flatMap λx=>List.replicate (wA x+1) ()).length<=sumW (λx=>wA x+1) A:=a1d λx _=>by simp
 have z:∀ l:List PV,(l.flatMap λy=>match fst key (key y) A with | some _=>List.replicate (wB y) () | none=>[]).length+(l.flatMap (nws key new A)).length<=sumW (λy=>wB y+1) l:=by
  intro l;induction l with
  | nil=>exact Nat.le_refl _
  | cons y r o=>
   simp only [List.flatMap_cons,Ak,sumW];have:(match fst key (key y) A with | some _=>List.replicate (wB y) () | none=>[]).length+(nws key new A y).length<=wB y+1:=by
    unfold nws;cases fst key (key y) A with
    | some x=>simp
    | none=>simp
   omega
 have z:=z B
 omega
end
theorem axj {I:Type}{c:I->I->Int} (M:Lin c):∀ {l:List I},(∀ i (O:i+1<l.length),c (l[i]'(by omega)) l[i+1]<0)->l.Pairwise λx y=>c x y<0:=by
 intro l;induction l with
 | nil=>intro _;exact .nil
 | cons x r Z=>
  intro h;have o:r.Pairwise λx y=>c x y<0:=Z λi O=>h (i+1) (by simp only [Am];omega);refine .cons (λy H=>?_) o;match r,o,h with
  | y0::r',o,h=>
   have J:c x y0<0:=h 0 (by simp only [Am];omega);rcases Bl.1 H with rfl | H
   ·exact J
   ·have h1:=(List.pairwise_cons.1 o).1 y H;have:=M.tr x y0 y (by omega) (by omega);rcases Int.lt_or_eq_of_le this.1 with z | z
    ·exact z
    ·have:=(this.2 z).1;omega
theorem ak4 {o:Type}{c:o->o->Int} (H:Lin c) {l:List o} (h:l.Pairwise λx y=>c x y<0):l.Nodup:=h.imp λ{a b} z e=>by subst e;have:=H.anti a a;omega
theorem a2j {l:List PV} (h:∀ i,i+1<l.length->ascB (nmL l) i=true):(l.map aac).Pairwise λx y=>cB x y<0:=by
 refine axj Lin.cB λi z=>?_;rw [List.length_map] at z;have o:=h i z;have e:∀ j,j<l.length->(nmL l).getD j .bad=.str (aac (l.getD j .bad)):=λj H=>by
  have:j<(nmL l).length:=by simpa [nmL] using H
  rw [aaf this,aaf H];simp only [nmL,List.getElem_map];rfl
 unfold ascB at o;rw [e i (by omega),e (i+1) z,Bool.not_eq_true',Bool.or_eq_false_iff] at o;change Op.bytesLess (aac (l.getD (i+1) .bad)) (aac (l.getD i .bad))=false/\(aac (l.getD (i+1) .bad)==aac (l.getD i .bad))=false at o;rw [<-a4z,aaf z,aaf (show i<l.length by omega)] at o;rw [List.getElem_map,List.getElem_map];have I:=of_decide_eq_false o.1;have J:cB (aac l[i+1]) (aac l[i])≠0:=λh=>by rw [cB_zero.1 h] at o;simp at o
 have M:=Lin.cB.anti (aac l[i]) (aac l[i+1]);omega
theorem apv {l:List PV} (h:∀ i,i+1<l.length->ascB (nmL l) i=true):(l.map aac).Nodup:=ak4 Lin.cB (a2j h)
theorem a6h {l:List PV}{key:PV->Int} (h:∀ i,i<l.length->0<i->key (l.getD (i-1) .bad)<key (l.getD i .bad)):(l.map key).Pairwise λx y=>cI x y<0:=by refine axj Lin.cI λi o=>?_;rw [List.length_map] at o;have z:=h (i+1) o (by omega);rw [show i+1-1=i by omega,aaf o,aaf (show i<l.length by omega)] at z;rw [List.getElem_map,List.getElem_map];unfold cI;rw [if_pos z];omega
theorem a0h {l:List PV}{key:PV->Int} (h:∀ i,i<l.length->0<i->key (l.getD (i-1) .bad)<key (l.getD i .bad)):(l.map key).Nodup:=ak4 Lin.cI (a6h h)
theorem MsgV.uq {m:PV} (h:MsgV m):((m.fld 1).asList.map kNum).Nodup:=a0h λi z o=>(h i z).up o
theorem EnumV.uq {m:PV} (h:EnumV m):((m.fld 2).asList.map abg).Nodup:=a0h λi z o=>(h i z).up o
theorem SvcV.pw {m:PV} (h:SvcV m):((m.fld 1).asList.map aac).Pairwise λx y=>cB x y<0:=by
 refine axj Lin.cB λi z=>?_;rw [List.length_map] at z;have o:=(h (i+1) z).up (by omega);rw [show i+1-1=i by omega,Bool.or_eq_false_iff] at o;change Op.bytesLess (aac ((m.fld 1).asList.getD (i+1) .bad)) (aac ((m.fld 1).asList.getD i .bad))=false/\(aac ((m.fld 1).asList.getD (i+1) .bad)==aac ((m.fld 1).asList.getD i .bad))=false at o;rw [<-a4z,aaf z,aaf (show i<(m.fld 1).asList.length by omega)] at o;rw [List.getElem_map,List.getElem_map];have H:=of_decide_eq_false o.1;have I:cB (aac (m.fld 1).asList[i+1]) (aac (m.fld 1).asList[i])≠0:=λh=>by rw [cB_zero.1 h] at o;simp at o
 have J:=Lin.cB.anti (aac (m.fld 1).asList[i]) (aac (m.fld 1).asList[i+1]);omega
theorem SvcV.uq {m:PV} (h:SvcV m):((m.fld 1).asList.map aac).Nodup:=ak4 Lin.cB h.pw
structure SUq (s:PV):Prop where
 m:((s.fld 0).asList.map aac).Nodup
 e:((s.fld 1).asList.map aac).Nodup
 v:((s.fld 2).asList.map aac).Nodup
 ms:∀ x,x∈(s.fld 0).asList->((x.fld 1).asList.map kNum).Nodup
 es:∀ x,x∈(s.fld 1).asList->((x.fld 2).asList.map abg).Nodup
 vs:∀ x,x∈(s.fld 2).asList->((x.fld 1).asList.map aac).Nodup
theorem SchemaV.uq {s:PV} (h:SchemaV s):SUq s:=by
 have z:∀ {l:List PV}{x:PV},x∈l->∃ i,i<l.length/\l.getD i .bad=x:=λ{l x} H=>by obtain ⟨i,o,rfl⟩:=List.mem_iff_getElem.1 H;exact ⟨i,o,aaf o⟩
 refine ⟨apv h.ascM,apv h.ascE,apv h.ascS,λx H=>?_,λx H=>?_,λx H=>?_⟩
 ·obtain ⟨i,o,rfl⟩:=z H;exact (h.msg i o).uq
 ·obtain ⟨i,o,rfl⟩:=z H;exact (h.enum i o).uq
 ·obtain ⟨i,o,rfl⟩:=z H;exact (h.svc i o).uq
theorem akw (b:Bool) (k n:Int) (d o w:Bq):(dif b (chg k d n o w)).map adx=dif b (chg (trn k) d n w o):=by cases b<;>rfl
theorem avq {d:Bq}{x y:PV} (h:kNum x=kNum y):(acq d x y).map adx=acq d y x:=by
 have O:(x.fld 0).asInt=(y.fld 0).asInt:=h;unfold acq;simp only [List.map_append,akw];have z:ne5 x y=ne5 y x:=by unfold ne5;rw [beqC]
 have H:ne6 x y=ne6 y x:=by unfold ne6;rw [bne_comm,beqC]
 have I:ne7 x y=ne7 y x:=by unfold ne7;rw [bne_comm]
 have J:ne8 x y=ne8 y x:=by unfold ne8;rw [bne_comm]
 have M:ne9 x y=ne9 y x:=by unfold ne9;rw [beqC]
 have o:ne10 x y=ne10 y x:=by unfold ne10;rw [beqC (x.fld 6).asBool,bne_comm (a:=((x.fld 7).fld 0).asInt),bne_comm (a:=((x.fld 7).fld 1).asInt),beqC ((x.fld 7).fld 2).asStr]
 rw [z,H,I,J,M,o,O];rfl
theorem ask {a b:PV} (h:aac a=aac b) (o:((a.fld 1).asList.map kNum).Nodup) (z:((b.fld 1).asList.map kNum).Nodup):((ac5 a b).map adx).Perm (ac5 b a):=by unfold ac5;rw [h];exact ahv o z (λx _ y _ e=>by rw [avq e]) (λx=>rfl) (λy=>rfl)
theorem ayo {d:Bq}{x y:PV} (h:abg x=abg y):(ahw d x y).map adx=ahw d y x:=by have o:(x.fld 1).asInt=(y.fld 1).asInt:=h;unfold ahw;rw [akw,beqC (x.fld 0).asStr,o];rfl
theorem axx {a b:PV} (h:aac a=aac b) (o:((a.fld 2).asList.map abg).Nodup) (z:((b.fld 2).asList.map abg).Nodup):((aip a b).map adx).Perm (aip b a):=by unfold aip aul ajw;rw [h,List.map_append,akw,beqC (a.fld 1).asBool];exact (List.Perm.refl _).append (ahv o z (λx _ y _ e=>by rw [ayo e]) (λx=>rfl) (λy=>rfl))
theorem azc {d:Bq}{x y:PV} (h:aac x=aac y):(afz d x y).map adx=afz d y x:=by
 have o:(x.fld 0).asStr=(y.fld 0).asStr:=h;unfold afz;simp only [List.map_append,akw];have z:ne21 x y=ne21 y x:=by unfold ne21;rw [beqC (x.fld 1).asStr,beqC (x.fld 2).asStr]
 have H:ne22 x y=ne22 y x:=by unfold ne22;rw [bne_comm]
 have I:shT x y=shT y y:=by unfold shT;rw [o]
 have J:shT y x=shT x x:=by unfold shT;rw [o]
 rw [z,H,I,J];rfl
theorem a3g {a b:PV} (h:aac a=aac b) (o:((a.fld 1).asList.map aac).Nodup) (z:((b.fld 1).asList.map aac).Nodup):((svcC a b).map adx).Perm (svcC b a):=by unfold svcC;rw [h];exact ahv o z (λx _ y _ e=>by rw [azc e]) (λx=>rfl) (λy=>rfl)
theorem a6g {h:Type} (a b c d e f:List h):((a++(b++c))++(d++(e++f))).Perm ((a++d)++((b++e)++(c++f))):=by classical rw [List.perm_iff_count];intro x;simp only [List.count_append];omega
theorem a2k {a b:PV} (h:SUq a) (o:SUq b):((raw a b).map adx).Perm (raw b a):=by
 unfold raw aic;refine ((a6g ..).map adx).trans (.trans ?_ (a6g ..).symm);rw [List.map_append (l₁:=gM a b++nM a b),List.map_append (l₁:=gE a b++nE a b)];refine .append ?_ (.append ?_ ?_)
 ·exact ahv h.m o.m (λx z y H e=>ask e (h.ms x z) (o.ms y H)) (λx=>rfl) (λy=>rfl)
 ·exact ahv h.e o.e (λx z y H e=>axx e (h.es x z) (o.es y H)) (λx=>rfl) (λy=>rfl)
 ·exact ahv h.v o.v (λx z y H e=>a3g e (h.vs x z) (o.vs y H)) (λx=>rfl) (λy=>rfl)
def chSm (c:PV):Prop:=(chO c).length<=100000000/\(chW c).length<=100000000
theorem adq {P:PV->Prop}{b:Bool}{x:PV} (h:P x):∀ c,c∈dif b x->P c:=λc o=>by
 cases b with
 | false=>cases o
 | true=>rw [List.mem_singleton.1 o];exact h
theorem ach {P:PV->Prop}{l r:List PV} (h:∀ c,c∈l->P c) (k:∀ c,c∈r->P c):∀ c,c∈l++r->P c:=λc o=>(Bk.1 o).elim (h c) (k c)
theorem a1c {d:Bq}{x y:PV} (h:OkFld x) (o:OkFld y):∀ c,c∈acq d x y->chSm c:=by
 have I:=h.name;have z:=h.type;have J:=h.union;have M:=o.name;have H:=o.type;have O:=o.union;have t1:=arv (x.fld 4) z;have t2:=arv (y.fld 4) H;have l1:=auq x h.dflt;have l2:=auq y o.dflt;have Z:=ap8 (x.fld 2).asInt;have c2:=ap8 (y.fld 2).asInt;have k1:=ayu (x.fld 3).asInt;have k2:=ayu (y.fld 3).asInt;unfold acq;refine ach (adq ?_) (ach (adq ?_) (ach (adq ?_) (ach (adq ?_) (ach (adq ?_) (adq ?_)))))
 ·exact ⟨show (x.fld 1).asStr.length<=_ by omega,show (y.fld 1).asStr.length<=_ by omega⟩
 ·exact ⟨show (agl _).length<=_ by omega,show (agl _).length<=_ by omega⟩
 ·exact ⟨show (agr _).length<=_ by omega,show (agr _).length<=_ by omega⟩
 ·exact ⟨show (kw _).length<=_ by omega,show (kw _).length<=_ by omega⟩
 ·exact ⟨show (x.fld 5).asStr.length<=_ by omega,show (y.fld 5).asStr.length<=_ by omega⟩
 ·exact ⟨show (litF _).length<=_ by omega,show (litF _).length<=_ by omega⟩
theorem ax4 {a b:PV} (H:OkMsg a) (I:OkMsg b):∀ c,c∈ac5 a b->chSm c:=by
 have h:=aj6 (key:=kNum) (both:=acq (aac a)) (gone:=λf=>chg 3 (aac a) (f.fld 0).asInt (f.fld 1).asStr []) (new:=λf=>chg 4 (aac a) (f.fld 0).asInt [] (f.fld 1).asStr) (P:=chSm) (A:=(a.fld 1).asList) (B:=(b.fld 1).asList)
  (λx o y z _=>a1c (H.field x o) (I.field y z)) (λx o=>⟨show (x.fld 1).asStr.length<=_ by have:=(H.field x o).name;omega,Nat.zero_le _⟩) (λy z=>⟨Nat.zero_le _,show (y.fld 1).asStr.length<=_ by have:=(I.field y z).name;omega⟩)
 exact ach h.1 h.2
theorem a5i {a b:PV} (H:OkEnum a) (I:OkEnum b):∀ c,c∈aip a b->chSm c:=by
 have h:=aj6 (key:=abg) (both:=ahw (aac a)) (gone:=λf=>chg 14 (aac a) (f.fld 1).asInt (f.fld 0).asStr []) (new:=λf=>chg 15 (aac a) (f.fld 1).asInt [] (f.fld 0).asStr) (P:=chSm) (A:=(a.fld 2).asList) (B:=(b.fld 2).asList)
  (λx o y z _=>adq ⟨show (x.fld 0).asStr.length<=_ by have:=(H.item x o).name;omega,show (y.fld 0).asStr.length<=_ by have:=(I.item y z).name;omega⟩) (λx o=>⟨show (x.fld 0).asStr.length<=_ by have:=(H.item x o).name;omega,Nat.zero_le _⟩) (λy z=>⟨Nat.zero_le _,show (y.fld 0).asStr.length<=_ by have:=(I.item y z).name;omega⟩)
 have J:=aq1 (a.fld 1).asBool;have M:=aq1 (b.fld 1).asBool;exact ach (adq ⟨show (ajx _).length<=_ by omega,show (ajx _).length<=_ by omega⟩) (ach h.1 h.2)
theorem a8f {a b:PV} (z:OkSvc a) (I:OkSvc b):∀ c,c∈svcC a b->chSm c:=by
 have h:=aj6 (key:=aac) (both:=afz (aac a)) (gone:=λf=>chg 19 (aac a) (-1) (f.fld 0).asStr []) (new:=λf=>chg 20 (aac a) (-1) [] (f.fld 0).asStr) (P:=chSm) (A:=(a.fld 1).asList) (B:=(b.fld 1).asList)
  (λx o y H _=>by
   have M:=an3 (z.meth x o);have O:=an3 (I.meth y H);have J:=(z.meth x o).name;have Z:=aeb (x.fld 3).asInt;have w2:=aeb (y.fld 3).asInt;refine ach (adq ⟨show (act _).length<=_ by omega,show (act _).length<=_ by omega⟩) (adq ⟨show (shT _ _).length<=_ from ?_,show (shT _ _).length<=_ from ?_⟩)
   ·simp only [shT,Ak,Am,Ao];omega
   ·simp only [shT,Ak,Am,Ao];omega)
  (λx o=>⟨show (x.fld 0).asStr.length<=_ by have:=(z.meth x o).name;omega,Nat.zero_le _⟩) (λy H=>⟨Nat.zero_le _,show (y.fld 0).asStr.length<=_ by have:=(I.meth y H).name;omega⟩)
 exact ach h.1 h.2
theorem a8d {a b:PV} (H:SOk a) (I:SOk b):∀ c,c∈raw a b->chSm c:=by have z:∀ (k:Int) (m:PV),chSm (chg k (aac m) (-1) [] []):=λk m=>⟨Nat.zero_le _,Nat.zero_le _⟩;have J:=aj6 (key:=aac) (both:=ac5) (gone:=λm=>chg 1 (aac m) (-1) [] []) (new:=λm=>chg 2 (aac m) (-1) [] []) (P:=chSm) (A:=(a.fld 0).asList) (B:=(b.fld 0).asList) (λx h y o _=>ax4 (H.msg x h) (I.msg y o)) (λx _=>z 1 x) (λy _=>z 2 y);have M:=aj6 (key:=aac) (both:=aip) (gone:=λm=>chg 11 (aac m) (-1) [] []) (new:=λm=>chg 12 (aac m) (-1) [] []) (P:=chSm) (A:=(a.fld 1).asList) (B:=(b.fld 1).asList) (λx h y o _=>a5i (H.enum x h) (I.enum y o)) (λx _=>z 11 x) (λy _=>z 12 y);have O:=aj6 (key:=aac) (both:=svcC) (gone:=λm=>chg 17 (aac m) (-1) [] []) (new:=λm=>chg 18 (aac m) (-1) [] []) (P:=chSm) (A:=(a.fld 2).asList) (B:=(b.fld 2).asList) (λx h y o _=>a8f (H.svc x h) (I.svc y o)) (λx _=>z 17 x) (λy _=>z 18 y);exact ach (ach J.1 (ach M.1 O.1)) (ach J.2 (ach M.2 O.2))
theorem an6 (n:Nat):∀ l:List PV,sumW (λ_=>n) l=n*l.length:=by
 intro l;induction l with
 | nil=>rfl
 | cons x r h=>rw [sumW,h,Am,Nat.mul_succ];omega
theorem an7 (k i:Nat):∀ l:List PV,sumW (λm=>k*(m.fld i).asList.length+k) l<=(2*k)*aaw l:=by
 intro l;induction l with
 | nil=>exact Nat.zero_le _
 | cons m r H=>
  have h:=aef (m.fld i);have o:=adc m i;have z:=ad4 m;rw [sumW,aaw,Nat.mul_add];have:k*(m.fld i).asList.length+k<=2*k*aau m:=by rw [<-Nat.mul_succ,Nat.mul_comm 2 k,Nat.mul_assoc];exact Nat.mul_le_mul_left _ (by omega)
  omega
theorem az5 {v w:PV->Nat} (h:∀ x,v x<=w x):∀ l:List PV,sumW v l<=sumW w l:=by
 intro l;induction l with
 | nil=>exact Nat.le_refl _
 | cons x r o=>have:=h x;rw [sumW,sumW];omega
theorem as8 {a b:PV} (H:SUq a) (I:SUq b) (O:aau a<=1048576) (Z:aau b<=1048576):(raw a b).length<=90000000:=by
 have hM:∀ x,x∈(a.fld 0).asList->∀ y,y∈(b.fld 0).asList->(ac5 x y).length<=(7*(x.fld 1).asList.length+6)+(y.fld 1).asList.length:=λx J y M=>by have h:=aj7 (key:=kNum) (both:=acq (aac x)) (gone:=λf=>chg 3 (aac x) (f.fld 0).asInt (f.fld 1).asStr []) (new:=λf=>chg 4 (aac x) (f.fld 0).asInt [] (f.fld 1).asStr) (wA:=λ_=>6) (wB:=λ_=>0) (H.ms x J) (I.ms y M) (λf _ g _=>anp _ f g);rw [an6,an6] at h;unfold ac5;rw [Ak];omega
 have hE:∀ x,x∈(a.fld 1).asList->∀ y,y∈(b.fld 1).asList->(aip x y).length<=(7*(x.fld 2).asList.length+6)+(y.fld 2).asList.length:=λx J y M=>by have h:=aj7 (key:=abg) (both:=ahw (aac x)) (gone:=λf=>chg 14 (aac x) (f.fld 1).asInt (f.fld 0).asStr []) (new:=λf=>chg 15 (aac x) (f.fld 1).asInt [] (f.fld 0).asStr) (wA:=λ_=>1) (wB:=λ_=>0) (H.es x J) (I.es y M) (λf _ g _=>ab1 _ _);rw [an6,an6] at h;have o:=ab1 (!((x.fld 1).asBool==(y.fld 1).asBool)) (chg 13 (aac x) (-1) (ajx (x.fld 1).asBool) (ajx (y.fld 1).asBool));unfold aip aul ajw;rw [Ak,Ak];omega
 have hS:∀ x,x∈(a.fld 2).asList->∀ y,y∈(b.fld 2).asList->(svcC x y).length<=(7*(x.fld 1).asList.length+6)+(y.fld 1).asList.length:=λx J y M=>by
  have h:=aj7 (key:=aac) (both:=afz (aac x)) (gone:=λf=>chg 19 (aac x) (-1) (f.fld 0).asStr []) (new:=λf=>chg 20 (aac x) (-1) [] (f.fld 0).asStr) (wA:=λ_=>2) (wB:=λ_=>0) (H.vs x J) (I.vs y M) (λf _ g _=>by have d1:=ab1 (ne21 f g) (chg 21 (aac x) (-1) (act f) (act g));have d2:=ab1 (ne22 f g) (chg 22 (aac x) (-1) (shT f f) (shT f g));unfold afz;rw [Ak];omega)
  rw [an6,an6] at h;unfold svcC;rw [Ak];omega
 have t1:=aj7 (key:=aac) (both:=ac5) (gone:=λm=>chg 1 (aac m) (-1) [] []) (new:=λm=>chg 2 (aac m) (-1) [] []) (wA:=λx=>7*(x.fld 1).asList.length+6) (wB:=λy=>(y.fld 1).asList.length) H.m I.m hM;have t2:=aj7 (key:=aac) (both:=aip) (gone:=λm=>chg 11 (aac m) (-1) [] []) (new:=λm=>chg 12 (aac m) (-1) [] []) (wA:=λx=>7*(x.fld 2).asList.length+6) (wB:=λy=>(y.fld 2).asList.length) H.e I.e hE;have t3:=aj7 (key:=aac) (both:=svcC) (gone:=λm=>chg 17 (aac m) (-1) [] []) (new:=λm=>chg 18 (aac m) (-1) [] []) (wA:=λx=>7*(x.fld 1).asList.length+6) (wB:=λy=>(y.fld 1).asList.length) H.v I.v hS;have w7:∀ (i:Nat) (l:List PV),sumW (λx=>7*(x.fld i).asList.length+6+1) l<=14*aaw l:=λi l=>an7 7 i l;have w1:∀ (i:Nat) (l:List PV),sumW (λx=>(x.fld i).asList.length+1) l<=2*aaw l:=λi l=>Nat.le_trans (az5 (λx=>by omega) l) (an7 1 i l);have z:∀ (v:PV) (i:Nat),aau v<=1048576->aaw (v.fld i).asList<=1048576:=λv i h=>by have h1:=ae6 (v.fld i);have h2:=adc v i;omega
 have a0:=z a 0 O;have a1:=z a 1 O;have a2:=z a 2 O;have b0:=z b 0 Z;have b1:=z b 1 Z;have b2:=z b 2 Z;have q1:=w7 1 (a.fld 0).asList;have q2:=w7 2 (a.fld 1).asList;have q3:=w7 1 (a.fld 2).asList;have r1:=w1 1 (b.fld 0).asList;have r2:=w1 2 (b.fld 1).asList;have r3:=w1 1 (b.fld 2).asList;unfold raw aic gM gE gS nM nE nS;simp only [Ak];omega
theorem a04 {a b:PV} (h:SOk a) (o:SOk b) (ua:SUq a) (ub:SUq b) (z:aau a<=1048576) (H:aau b<=1048576):∃ ys:List PV,F14 0 a b=some ys/\ys.Perm (raw a b)/\Srt ys:=by have O:=as8 ua ub z H;obtain ⟨ys,I,J,M⟩:=az0 (xs:=raw a b) ⟨by omega,λx Z=>(a8d h o x Z).1⟩;exact ⟨ys,by rw [avh h o O,I];rfl,J,M⟩
end Go.Ab
