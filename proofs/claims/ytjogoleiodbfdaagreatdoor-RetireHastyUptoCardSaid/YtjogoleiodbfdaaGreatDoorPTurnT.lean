/- Comparing in both directions: what is collected is the same, turned back. -/
import Derived.Test.YtjogoleiodbfdaaGreatDoorPCmpT
set_option linter.unusedVariables false
set_option linter.unusedSimpArgs false
set_option linter.unnecessarySimpa false
namespace Go.Ab
open Go
set_option maxRecDepth 100000
theorem adl {o β:Type} (f g:o->List β):∀ l:List o,(l.flatMap λx=>f x++g x).Perm (l.flatMap f++l.flatMap g):=by
 intro l;induction l with
 | nil=>exact .refl _
 | cons x r h=>simp only [List.flatMap_cons];classical rw [List.perm_iff_count] at h ⊢;intro a;have:=h a;simp only [List.count_append] at this ⊢;omega
theorem apw {o β:Type}:∀ l:List o,(l.flatMap λ_=>([]:List β))=[]:=by
 intro l;induction l with
 | nil=>rfl
 | cons x r h=>rw [List.flatMap_cons,h];rfl
theorem asf {o β I:Type} (h:o->β->List I) (B:List β):∀ A:List o,(A.flatMap λx=>B.flatMap (h x)).Perm (B.flatMap λy=>A.flatMap λx=>h x y):=by
 intro A;induction A with
 | nil=>simp only [List.flatMap_nil];rw [apw]
 | cons x r H=>simp only [List.flatMap_cons];exact ((List.Perm.refl _).append H).trans (adl (h x) (λy=>r.flatMap λx=>h x y) B).symm
theorem anb {o β:Type}{f g:o->List β}:∀ {l:List o},(∀ x,x∈l->(f x).Perm (g x))->(l.flatMap f).Perm (l.flatMap g):=by
 intro l;induction l with
 | nil=>intro _;exact .refl _
 | cons x r I=>intro h;simp only [List.flatMap_cons];exact (h x (List.mem_cons_self ..)).append (I λy H=>h y (List.mem_cons_of_mem _ H))
theorem adx {o β:Type}{f g:o->List β}:∀ {l:List o},(∀ x,x∈l->f x=g x)->l.flatMap f=l.flatMap g:=by
 intro l;induction l with
 | nil=>intro _;rfl
 | cons x r I=>intro h;simp only [List.flatMap_cons,h x (List.mem_cons_self ..),I λy H=>h y (List.mem_cons_of_mem _ H)]
section
variable {κ:Type} [BEq κ] [LawfulBEq κ] {key:PV->κ}
theorem fst_key {k:κ}{l:List PV}{y:PV} (h:fst key k l=some y):key y=k:=by unfold fst at h;have o:=List.find?_some h;exact eq_of_beq o
theorem at2 {M:Type}{G:PV->List M}{k:κ}:∀ {B:List PV},(B.map key).Nodup->(match fst key k B with | some y=>G y | none=>[])=B.flatMap λy=>bif key y==k then G y else []:=by
 intro B;induction B with
 | nil=>intro _;rfl
 | cons b r h=>
  intro o;rw [Bh,List.nodup_cons] at o;have h:=h o.2;unfold fst at h ⊢;rw [List.find?_cons,List.flatMap_cons];cases I:key b==k with
  | true=>
   dsimp only;have e:=eq_of_beq I;have:(r.flatMap λy=>bif key y==k then G y else [])=r.flatMap λ_=>[]:=adx λy J=>by
    cases H:key y==k with
    | false=>rfl
    | true=>exact absurd (by rw [e,<-eq_of_beq H];exact List.mem_map_of_mem J) o.1
   rw [this,apw,List.append_nil];rfl
  | false=>dsimp only;rw [h];rfl
theorem ao9 {J:Type}{G:PV->PV->List J}{A B:List PV} (H:(A.map key).Nodup) (I:(B.map key).Nodup):
 (A.flatMap λx=>match fst key (key x) B with | some y=>G x y | none=>[]).Perm (B.flatMap λy=>match fst key (key y) A with | some x=>G x y | none=>[]):=by
 have h:(A.flatMap λx=>match fst key (key x) B with | some y=>G x y | none=>[])=A.flatMap λx=>B.flatMap λy=>bif key y==key x then G x y else []:=adx λx _=>at2 (G:=λy=>G x y) I
 have o:(B.flatMap λy=>match fst key (key y) A with | some x=>G x y | none=>[])=B.flatMap λy=>A.flatMap λx=>bif key y==key x then G x y else []:=adx λy _=>by rw [at2 (G:=λx=>G x y) H];refine adx λx _=>?_;rw [beqC (key x) (key y)]
 rw [h,o]
 exact asf _ _ _
theorem aid {both o:PV->PV->List PV}{gone new H I T:PV->PV}{A B:List PV} (uA:(A.map key).Nodup) (uB:(B.map key).Nodup) (J:∀ x,x∈A->∀ y,y∈B->key x=key y->((both x y).map T).Perm (o y x))
 (M:∀ x,T (gone x)=I x) (O:∀ y,T (new y)=H y):((A.flatMap (cmn key both gone B)++B.flatMap (nws key new A)).map T).Perm (B.flatMap (cmn key o H A)++A.flatMap (nws key I B)):=by
 rw [List.map_append,List.map_flatMap,List.map_flatMap]
 have p1:(A.flatMap λx=>(cmn key both gone B x).map T).Perm ((A.flatMap λx=>match fst key (key x) B with | some y=>o y x | none=>[])++A.flatMap (nws key I B)):=by
  refine .trans (anb λx Z=>?_) (adl _ _ A);unfold cmn nws;cases h:fst key (key x) B with
  | some y=>dsimp only;rw [List.append_nil];exact J x Z y (aaz h) (fst_key h).symm
  | none=>dsimp only;rw [Bh,List.map_nil,M];exact .refl _
 have p2:(B.flatMap λy=>match fst key (key y) A with | some x=>o y x | none=>[]).Perm (A.flatMap λx=>match fst key (key x) B with | some y=>o y x | none=>[]):=ao9 (G:=λy x=>o y x) uB uA
 have p3:(B.flatMap (cmn key o H A)).Perm ((B.flatMap λy=>match fst key (key y) A with | some x=>o y x | none=>[])++B.flatMap λy=>(nws key new A y).map T):=by
  refine .trans (anb λy hy=>?_) (adl _ _ B);unfold cmn nws;cases h:fst key (key y) A with
  | some x=>dsimp only;rw [List.map_nil,List.append_nil]
  | none=>dsimp only;rw [Bh,List.map_nil,O];exact .refl _
 refine (p1.append (.refl _)).trans (.trans ?_ (p3.symm.append (.refl _)))
 refine .trans ?_ (((p2.symm).append (.refl _)).append (.refl _))
 classical
 rw [List.perm_iff_count]
 intro a
 simp only [List.count_append]
 omega
theorem ak0 {both:PV->PV->List PV}{gone new:PV->PV}{A B:List PV}{P:PV->Prop} (I:∀ x,x∈A->∀ y,y∈B->key x=key y->∀ c,c∈both x y->P c) (J:∀ x,x∈A->P (gone x)) (M:∀ y,y∈B->P (new y)):
 (∀ c,c∈A.flatMap (cmn key both gone B)->P c)/\∀ c,c∈B.flatMap (nws key new A)->P c:=by
 refine ⟨λc o=>?_,λc o=>?_⟩
 ·obtain ⟨x,H,o⟩:=List.mem_flatMap.1 o;unfold cmn at o;cases h:fst key (key x) B with
  | some y=>rw [h] at o;exact I x H y (aaz h) (fst_key h).symm c o
  | none=>rw [h] at o;rw [List.mem_singleton.1 o];exact J x H
 ·obtain ⟨y,O,o⟩:=List.mem_flatMap.1 o;unfold nws at o;cases h:fst key (key y) A with
  | some x=>rw [h] at o;cases o
  | none=>rw [h] at o;rw [List.mem_singleton.1 o];exact M y O
def sumW (w:PV->Nat):List PV->Nat
 | []=>0
 | x::r=>w x+sumW w r
theorem a4a {I:Type}{f:PV->List I}{w:PV->Nat}:∀ {l:List PV},(∀ x,x∈l->(f x).length<=w x)->(l.flatMap f).length<=sumW w l:=by
 intro l;induction l with
 | nil=>intro _;exact Nat.le_refl _
 | cons x r H=>intro h;rw [List.flatMap_cons,Ak,sumW];have J:=h x (List.mem_cons_self ..);have M:=H λy o=>h y (List.mem_cons_of_mem _ o);omega
theorem ak1 {both:PV->PV->List PV}{gone new:PV->PV}{A B:List PV}{wA wB:PV->Nat} (uA:(A.map key).Nodup) (uB:(B.map key).Nodup) (M:∀ x,x∈A->∀ y,y∈B->(both x y).length<=wA x+wB y):
 (A.flatMap (cmn key both gone B)).length+(B.flatMap (nws key new A)).length<=sumW (λx=>wA x+1) A+sumW (λy=>wB y+1) B:=by
 have h1:(A.flatMap (cmn key both gone B)).length<=(A.flatMap λx=>List.replicate (wA x+1) ()++match fst key (key x) B with | some y=>List.replicate (wB y) () | none=>[]).length:=by
  have:∀ l:List PV,(∀ x,x∈l->x∈A)->(l.flatMap (cmn key both gone B)).length<=(l.flatMap λx=>List.replicate (wA x+1) ()++match fst key (key x) B with | some y=>List.replicate (wB y) () | none=>[]).length:=by
   intro l;induction l with
   | nil=>intro _;exact Nat.le_refl _
   | cons x r o=>
    intro I;have O:=I x (List.mem_cons_self ..);have o:=o λy Z=>I y (List.mem_cons_of_mem _ Z);simp only [List.flatMap_cons,Ak];have:(cmn key both gone B x).length<=(List.replicate (wA x+1) ()).length+(match fst key (key x) B with | some y=>List.replicate (wB y) () | none=>[]).length:=by
     unfold cmn;cases h:fst key (key x) B with
     | some y=>have:=M x O y (aaz h);simp only [List.length_replicate];omega
     | none=>simp
    omega
  exact this A λx h=>h
 have J:=(adl (λx=>List.replicate (wA x+1) ()) (λx=>match fst key (key x) B with | some y=>List.replicate (wB y) () | none=>[]) A).length_eq
 have h3:=(ao9 (G:=λ_ y=>List.replicate (wB y) ()) uA uB).length_eq
 rw [Ak] at J
 have h4:(A.flatMap λx=>List.replicate (wA x+1) ()).length<=sumW (λx=>wA x+1) A:=a4a λx _=>by simp
 have H:∀ l:List PV,(l.flatMap λy=>match fst key (key y) A with | some _=>List.replicate (wB y) () | none=>[]).length+(l.flatMap (nws key new A)).length<=sumW (λy=>wB y+1) l:=by
  intro l;induction l with
  | nil=>exact Nat.le_refl _
  | cons y r o=>
   simp only [List.flatMap_cons,Ak,sumW];have:(match fst key (key y) A with | some _=>List.replicate (wB y) () | none=>[]).length+(nws key new A y).length<=wB y+1:=by
    unfold nws;cases fst key (key y) A with
    | some x=>simp
    | none=>simp
   omega
 have H:=H B
 omega
end
theorem azg {J:Type}{c:J->J->Int} (O:Lin c):∀ {l:List J},(∀ i (Z:i+1<l.length),c (l[i]'(by omega)) l[i+1]<0)->l.Pairwise λx y=>c x y<0:=by
 intro l;induction l with
 | nil=>intro _;exact .nil
 | cons x r ih=>
  intro h;have o:r.Pairwise λx y=>c x y<0:=ih λi Z=>h (i+1) (by simp only [Am];omega);refine .cons (λy I=>?_) o;match r,o,h with
  | y0::r',o,h=>
   have M:c x y0<0:=h 0 (by simp only [Am];omega);rcases Bn.1 I with rfl | I
   ·exact M
   ·have h1:=(List.pairwise_cons.1 o).1 y I;have:=O.tr x y0 y (by omega) (by omega);rcases Int.lt_or_eq_of_le this.1 with H | H
    ·exact H
    ·have:=(this.2 H).1;omega
theorem al1 {o:Type}{c:o->o->Int} (I:Lin c) {l:List o} (h:l.Pairwise λx y=>c x y<0):l.Nodup:=h.imp λ{a b} H e=>by subst e;have:=I.anti a a;omega
theorem a5h {l:List PV} (h:∀ i,i+1<l.length->ascB (nmL l) i=true):(l.map aac).Pairwise λx y=>cB x y<0:=by
 refine azg Lin.cB λi H=>?_;rw [List.length_map] at H;have o:=h i H;have e:∀ j,j<l.length->(nmL l).getD j .bad=.str (aac (l.getD j .bad)):=λj I=>by
  have:j<(nmL l).length:=by simpa [nmL] using I
  rw [aae this,aae I];simp only [nmL,List.getElem_map];rfl
 unfold ascB at o;rw [e i (by omega),e (i+1) H,Bool.not_eq_true',Bool.or_eq_false_iff] at o;change Op.bytesLess (aac (l.getD (i+1) .bad)) (aac (l.getD i .bad))=false/\(aac (l.getD (i+1) .bad)==aac (l.getD i .bad))=false at o;rw [<-a7r,aae H,aae (show i<l.length by omega)] at o;rw [List.getElem_map,List.getElem_map];have J:=of_decide_eq_false o.1;have M:cB (aac l[i+1]) (aac l[i])≠0:=λh=>by rw [cB_zero.1 h] at o;simp at o
 have O:=Lin.cB.anti (aac l[i]) (aac l[i+1]);omega
theorem aqw {l:List PV} (h:∀ i,i+1<l.length->ascB (nmL l) i=true):(l.map aac).Nodup:=al1 Lin.cB (a5h h)
theorem a9c {l:List PV}{key:PV->Int} (h:∀ i,i<l.length->0<i->key (l.getD (i-1) .bad)<key (l.getD i .bad)):(l.map key).Pairwise λx y=>cI x y<0:=by refine azg Lin.cI λi o=>?_;rw [List.length_map] at o;have H:=h (i+1) o (by omega);rw [show i+1-1=i by omega,aae o,aae (show i<l.length by omega)] at H;rw [List.getElem_map,List.getElem_map];unfold cI;rw [if_pos H];omega
theorem a2t {l:List PV}{key:PV->Int} (h:∀ i,i<l.length->0<i->key (l.getD (i-1) .bad)<key (l.getD i .bad)):(l.map key).Nodup:=al1 Lin.cI (a9c h)
theorem MsgV.uq {m:PV} (h:MsgV m):((m.fld 1).asList.map kNum).Nodup:=a2t λi H o=>(h i H).up o
theorem EnumV.uq {m:PV} (h:EnumV m):((m.fld 2).asList.map abc).Nodup:=a2t λi H o=>(h i H).up o
theorem SvcV.pw {m:PV} (h:SvcV m):((m.fld 1).asList.map aac).Pairwise λx y=>cB x y<0:=by
 refine azg Lin.cB λi H=>?_;rw [List.length_map] at H;have o:=(h (i+1) H).up (by omega);rw [show i+1-1=i by omega,Bool.or_eq_false_iff] at o;change Op.bytesLess (aac ((m.fld 1).asList.getD (i+1) .bad)) (aac ((m.fld 1).asList.getD i .bad))=false/\(aac ((m.fld 1).asList.getD (i+1) .bad)==aac ((m.fld 1).asList.getD i .bad))=false at o;rw [<-a7r,aae H,aae (show i<(m.fld 1).asList.length by omega)] at o;rw [List.getElem_map,List.getElem_map];have I:=of_decide_eq_false o.1;have J:cB (aac (m.fld 1).asList[i+1]) (aac (m.fld 1).asList[i])≠0:=λh=>by rw [cB_zero.1 h] at o;simp at o
 have M:=Lin.cB.anti (aac (m.fld 1).asList[i]) (aac (m.fld 1).asList[i+1]);omega
theorem SvcV.uq {m:PV} (h:SvcV m):((m.fld 1).asList.map aac).Nodup:=al1 Lin.cB h.pw
structure SUq (s:PV):Prop where
 m:((s.fld 0).asList.map aac).Nodup
 e:((s.fld 1).asList.map aac).Nodup
 v:((s.fld 2).asList.map aac).Nodup
 ms:∀ x,x∈(s.fld 0).asList->((x.fld 1).asList.map kNum).Nodup
 es:∀ x,x∈(s.fld 1).asList->((x.fld 2).asList.map abc).Nodup
 vs:∀ x,x∈(s.fld 2).asList->((x.fld 1).asList.map aac).Nodup
theorem SchemaV.uq {s:PV} (h:SchemaV s):SUq s:=by
 have H:∀ {l:List PV}{x:PV},x∈l->∃ i,i<l.length/\l.getD i .bad=x:=λ{l x} I=>by obtain ⟨i,o,rfl⟩:=List.mem_iff_getElem.1 I;exact ⟨i,o,aae o⟩
 refine ⟨aqw h.ascM,aqw h.ascE,aqw h.ascS,λx I=>?_,λx I=>?_,λx I=>?_⟩
 ·obtain ⟨i,o,rfl⟩:=H I;exact (h.msg i o).uq
 ·obtain ⟨i,o,rfl⟩:=H I;exact (h.enum i o).uq
 ·obtain ⟨i,o,rfl⟩:=H I;exact (h.svc i o).uq
theorem alt (b:Bool) (k n:Int) (d o w:Bt):(dif b (chg k d n o w)).map ad8=dif b (chg (trn k) d n w o):=by cases b<;>rfl
theorem axi {d:Bt}{x y:PV} (h:kNum x=kNum y):(act d x y).map ad8=act d y x:=by
 have Z:(x.fld 0).asInt=(y.fld 0).asInt:=h;unfold act;simp only [List.map_append,alt];have H:ne5 x y=ne5 y x:=by unfold ne5;rw [beqC]
 have I:ne6 x y=ne6 y x:=by unfold ne6;rw [bne_comm,beqC]
 have J:ne7 x y=ne7 y x:=by unfold ne7;rw [bne_comm]
 have M:ne8 x y=ne8 y x:=by unfold ne8;rw [bne_comm]
 have O:ne9 x y=ne9 y x:=by unfold ne9;rw [beqC]
 have o:ne10 x y=ne10 y x:=by unfold ne10;rw [beqC (x.fld 6).asBool,bne_comm (a:=((x.fld 7).fld 0).asInt),bne_comm (a:=((x.fld 7).fld 1).asInt),beqC ((x.fld 7).fld 2).asStr]
 rw [H,I,J,M,O,o,Z];rfl
theorem aty {a b:PV} (h:aac a=aac b) (o:((a.fld 1).asList.map kNum).Nodup) (H:((b.fld 1).asList.map kNum).Nodup):((adi a b).map ad8).Perm (adi b a):=by unfold adi;rw [h];exact aid o H (λx _ y _ e=>by rw [axi e]) (λx=>rfl) (λy=>rfl)
theorem a0p {d:Bt}{x y:PV} (h:abc x=abc y):(aif d x y).map ad8=aif d y x:=by have o:(x.fld 1).asInt=(y.fld 1).asInt:=h;unfold aif;rw [alt,beqC (x.fld 0).asStr,o];rfl
theorem azu {a b:PV} (h:aac a=aac b) (o:((a.fld 2).asList.map abc).Nodup) (H:((b.fld 2).asList.map abc).Nodup):((aje a b).map ad8).Perm (aje b a):=by unfold aje awc akq;rw [h,List.map_append,alt,beqC (a.fld 1).asBool];exact (List.Perm.refl _).append (aid o H (λx _ y _ e=>by rw [a0p e]) (λx=>rfl) (λy=>rfl))
theorem a1e {d:Bt}{x y:PV} (h:aac x=aac y):(agd d x y).map ad8=agd d y x:=by
 have o:(x.fld 0).asStr=(y.fld 0).asStr:=h;unfold agd;simp only [List.map_append,alt];have H:ne21 x y=ne21 y x:=by unfold ne21;rw [beqC (x.fld 1).asStr,beqC (x.fld 2).asStr]
 have I:ne22 x y=ne22 y x:=by unfold ne22;rw [bne_comm]
 have J:shT x y=shT y y:=by unfold shT;rw [o]
 have M:shT y x=shT x x:=by unfold shT;rw [o]
 rw [H,I,J,M];rfl
theorem a6c {a b:PV} (h:aac a=aac b) (o:((a.fld 1).asList.map aac).Nodup) (H:((b.fld 1).asList.map aac).Nodup):((svcC a b).map ad8).Perm (svcC b a):=by unfold svcC;rw [h];exact aid o H (λx _ y _ e=>by rw [a1e e]) (λx=>rfl) (λy=>rfl)
theorem a9b {h:Type} (a b c d e f:List h):((a++(b++c))++(d++(e++f))).Perm ((a++d)++((b++e)++(c++f))):=by classical rw [List.perm_iff_count];intro x;simp only [List.count_append];omega
theorem a5i {a b:PV} (h:SUq a) (o:SUq b):((raw a b).map ad8).Perm (raw b a):=by
 unfold raw aiw;refine ((a9b ..).map ad8).trans (.trans ?_ (a9b ..).symm);rw [List.map_append (l₁:=gM a b++nM a b),List.map_append (l₁:=gE a b++nE a b)];refine .append ?_ (.append ?_ ?_)
 ·exact aid h.m o.m (λx H y I e=>aty e (h.ms x H) (o.ms y I)) (λx=>rfl) (λy=>rfl)
 ·exact aid h.e o.e (λx H y I e=>azu e (h.es x H) (o.es y I)) (λx=>rfl) (λy=>rfl)
 ·exact aid h.v o.v (λx H y I e=>a6c e (h.vs x H) (o.vs y I)) (λx=>rfl) (λy=>rfl)
def chSm (c:PV):Prop:=(chO c).length<=100000000/\(chW c).length<=100000000
theorem abv {P:PV->Prop}{b:Bool}{x:PV} (h:P x):∀ c,c∈dif b x->P c:=λc o=>by
 cases b with
 | false=>cases o
 | true=>rw [List.mem_singleton.1 o];exact h
theorem abo {P:PV->Prop}{l r:List PV} (h:∀ c,c∈l->P c) (k:∀ c,c∈r->P c):∀ c,c∈l++r->P c:=λc o=>(Bo.1 o).elim (h c) (k c)
theorem a3z {d:Bt}{x y:PV} (h:OkFld x) (o:OkFld y):∀ c,c∈act d x y->chSm c:=by
 have J:=h.name;have H:=h.type;have M:=h.union;have O:=o.name;have I:=o.type;have Z:=o.union;have t1:=as7 (x.fld 4) H;have t2:=as7 (y.fld 4) I;have l1:=awh x h.dflt;have l2:=awh y o.dflt;have c1:=ara (x.fld 2).asInt;have c2:=ara (y.fld 2).asInt;have k1:=a0v (x.fld 3).asInt;have k2:=a0v (y.fld 3).asInt;unfold act;refine abo (abv ?_) (abo (abv ?_) (abo (abv ?_) (abo (abv ?_) (abo (abv ?_) (abv ?_)))))
 ·exact ⟨show (x.fld 1).asStr.length<=_ by omega,show (y.fld 1).asStr.length<=_ by omega⟩
 ·exact ⟨show (agy _).length<=_ by omega,show (agy _).length<=_ by omega⟩
 ·exact ⟨show (ag2 _).length<=_ by omega,show (ag2 _).length<=_ by omega⟩
 ·exact ⟨show (kw _).length<=_ by omega,show (kw _).length<=_ by omega⟩
 ·exact ⟨show (x.fld 5).asStr.length<=_ by omega,show (y.fld 5).asStr.length<=_ by omega⟩
 ·exact ⟨show (litF _).length<=_ by omega,show (litF _).length<=_ by omega⟩
theorem az2 {a b:PV} (I:OkMsg a) (J:OkMsg b):∀ c,c∈adi a b->chSm c:=by
 have h:=ak0 (key:=kNum) (both:=act (aac a)) (gone:=λf=>chg 3 (aac a) (f.fld 0).asInt (f.fld 1).asStr []) (new:=λf=>chg 4 (aac a) (f.fld 0).asInt [] (f.fld 1).asStr) (P:=chSm) (A:=(a.fld 1).asList) (B:=(b.fld 1).asList)
  (λx o y H _=>a3z (I.field x o) (J.field y H)) (λx o=>⟨show (x.fld 1).asStr.length<=_ by have:=(I.field x o).name;omega,Nat.zero_le _⟩) (λy H=>⟨Nat.zero_le _,show (y.fld 1).asStr.length<=_ by have:=(J.field y H).name;omega⟩)
 exact abo h.1 h.2
theorem a8a {a b:PV} (I:OkEnum a) (J:OkEnum b):∀ c,c∈aje a b->chSm c:=by
 have h:=ak0 (key:=abc) (both:=aif (aac a)) (gone:=λf=>chg 14 (aac a) (f.fld 1).asInt (f.fld 0).asStr []) (new:=λf=>chg 15 (aac a) (f.fld 1).asInt [] (f.fld 0).asStr) (P:=chSm) (A:=(a.fld 2).asList) (B:=(b.fld 2).asList)
  (λx o y H _=>abv ⟨show (x.fld 0).asStr.length<=_ by have:=(I.item x o).name;omega,show (y.fld 0).asStr.length<=_ by have:=(J.item y H).name;omega⟩) (λx o=>⟨show (x.fld 0).asStr.length<=_ by have:=(I.item x o).name;omega,Nat.zero_le _⟩) (λy H=>⟨Nat.zero_le _,show (y.fld 0).asStr.length<=_ by have:=(J.item y H).name;omega⟩)
 have M:=asc (a.fld 1).asBool;have O:=asc (b.fld 1).asBool;exact abo (abv ⟨show (akr _).length<=_ by omega,show (akr _).length<=_ by omega⟩) (abo h.1 h.2)
theorem ba3 {a b:PV} (H:OkSvc a) (J:OkSvc b):∀ c,c∈svcC a b->chSm c:=by
 have h:=ak0 (key:=aac) (both:=agd (aac a)) (gone:=λf=>chg 19 (aac a) (-1) (f.fld 0).asStr []) (new:=λf=>chg 20 (aac a) (-1) [] (f.fld 0).asStr) (P:=chSm) (A:=(a.fld 1).asList) (B:=(b.fld 1).asList)
  (λx o y I _=>by
   have O:=ao4 (H.meth x o);have Z:=ao4 (J.meth y I);have M:=(H.meth x o).name;have w1:=ael (x.fld 3).asInt;have w2:=ael (y.fld 3).asInt;refine abo (abv ⟨show (acx _).length<=_ by omega,show (acx _).length<=_ by omega⟩) (abv ⟨show (shT _ _).length<=_ from ?_,show (shT _ _).length<=_ from ?_⟩)
   ·simp only [shT,Ak,Am,Ao];omega
   ·simp only [shT,Ak,Am,Ao];omega)
  (λx o=>⟨show (x.fld 0).asStr.length<=_ by have:=(H.meth x o).name;omega,Nat.zero_le _⟩) (λy I=>⟨Nat.zero_le _,show (y.fld 0).asStr.length<=_ by have:=(J.meth y I).name;omega⟩)
 exact abo h.1 h.2
theorem a7b {a b:PV} (H:SOk a) (I:SOk b):∀ c,c∈raw a b->chSm c:=by have z:∀ (k:Int) (m:PV),chSm (chg k (aac m) (-1) [] []):=λk m=>⟨Nat.zero_le _,Nat.zero_le _⟩;have J:=ak0 (key:=aac) (both:=adi) (gone:=λm=>chg 1 (aac m) (-1) [] []) (new:=λm=>chg 2 (aac m) (-1) [] []) (P:=chSm) (A:=(a.fld 0).asList) (B:=(b.fld 0).asList) (λx h y o _=>az2 (H.msg x h) (I.msg y o)) (λx _=>z 1 x) (λy _=>z 2 y);have M:=ak0 (key:=aac) (both:=aje) (gone:=λm=>chg 11 (aac m) (-1) [] []) (new:=λm=>chg 12 (aac m) (-1) [] []) (P:=chSm) (A:=(a.fld 1).asList) (B:=(b.fld 1).asList) (λx h y o _=>a8a (H.enum x h) (I.enum y o)) (λx _=>z 11 x) (λy _=>z 12 y);have O:=ak0 (key:=aac) (both:=svcC) (gone:=λm=>chg 17 (aac m) (-1) [] []) (new:=λm=>chg 18 (aac m) (-1) [] []) (P:=chSm) (A:=(a.fld 2).asList) (B:=(b.fld 2).asList) (λx h y o _=>ba3 (H.svc x h) (I.svc y o)) (λx _=>z 17 x) (λy _=>z 18 y);exact abo (abo J.1 (abo M.1 O.1)) (abo J.2 (abo M.2 O.2))
theorem ao7 (n:Nat):∀ l:List PV,sumW (λ_=>n) l=n*l.length:=by
 intro l;induction l with
 | nil=>rfl
 | cons x r h=>rw [sumW,h,Am,Nat.mul_succ];omega
theorem ao8 (k i:Nat):∀ l:List PV,sumW (λm=>k*(m.fld i).asList.length+k) l<=(2*k)*aay l:=by
 intro l;induction l with
 | nil=>exact Nat.zero_le _
 | cons m r I=>
  have h:=aep (m.fld i);have o:=ads m i;have H:=aee m;rw [sumW,aay,Nat.mul_add];have:k*(m.fld i).asList.length+k<=2*k*aat m:=by rw [<-Nat.mul_succ,Nat.mul_comm 2 k,Nat.mul_assoc];exact Nat.mul_le_mul_left _ (by omega)
  omega
theorem a2h {v w:PV->Nat} (h:∀ x,v x<=w x):∀ l:List PV,sumW v l<=sumW w l:=by
 intro l;induction l with
 | nil=>exact Nat.le_refl _
 | cons x r o=>have:=h x;rw [sumW,sumW];omega
theorem anh {a b:PV} (I:SUq a) (J:SUq b) (Z:aat a<=1048576) (bb:aat b<=1048576):(raw a b).length<=90000000:=by
 have hM:∀ x,x∈(a.fld 0).asList->∀ y,y∈(b.fld 0).asList->(adi x y).length<=(7*(x.fld 1).asList.length+6)+(y.fld 1).asList.length:=λx M y O=>by have h:=ak1 (key:=kNum) (both:=act (aac x)) (gone:=λf=>chg 3 (aac x) (f.fld 0).asInt (f.fld 1).asStr []) (new:=λf=>chg 4 (aac x) (f.fld 0).asInt [] (f.fld 1).asStr) (wA:=λ_=>6) (wB:=λ_=>0) (I.ms x M) (J.ms y O) (λf _ g _=>aop _ f g);rw [ao7,ao7] at h;unfold adi;rw [Ak];omega
 have hE:∀ x,x∈(a.fld 1).asList->∀ y,y∈(b.fld 1).asList->(aje x y).length<=(7*(x.fld 2).asList.length+6)+(y.fld 2).asList.length:=λx M y O=>by have h:=ak1 (key:=abc) (both:=aif (aac x)) (gone:=λf=>chg 14 (aac x) (f.fld 1).asInt (f.fld 0).asStr []) (new:=λf=>chg 15 (aac x) (f.fld 1).asInt [] (f.fld 0).asStr) (wA:=λ_=>1) (wB:=λ_=>0) (I.es x M) (J.es y O) (λf _ g _=>ab2 _ _);rw [ao7,ao7] at h;have o:=ab2 (!((x.fld 1).asBool==(y.fld 1).asBool)) (chg 13 (aac x) (-1) (akr (x.fld 1).asBool) (akr (y.fld 1).asBool));unfold aje awc akq;rw [Ak,Ak];omega
 have hS:∀ x,x∈(a.fld 2).asList->∀ y,y∈(b.fld 2).asList->(svcC x y).length<=(7*(x.fld 1).asList.length+6)+(y.fld 1).asList.length:=λx M y O=>by
  have h:=ak1 (key:=aac) (both:=agd (aac x)) (gone:=λf=>chg 19 (aac x) (-1) (f.fld 0).asStr []) (new:=λf=>chg 20 (aac x) (-1) [] (f.fld 0).asStr) (wA:=λ_=>2) (wB:=λ_=>0) (I.vs x M) (J.vs y O) (λf _ g _=>by have d1:=ab2 (ne21 f g) (chg 21 (aac x) (-1) (acx f) (acx g));have d2:=ab2 (ne22 f g) (chg 22 (aac x) (-1) (shT f f) (shT f g));unfold agd;rw [Ak];omega)
  rw [ao7,ao7] at h;unfold svcC;rw [Ak];omega
 have t1:=ak1 (key:=aac) (both:=adi) (gone:=λm=>chg 1 (aac m) (-1) [] []) (new:=λm=>chg 2 (aac m) (-1) [] []) (wA:=λx=>7*(x.fld 1).asList.length+6) (wB:=λy=>(y.fld 1).asList.length) I.m J.m hM;have t2:=ak1 (key:=aac) (both:=aje) (gone:=λm=>chg 11 (aac m) (-1) [] []) (new:=λm=>chg 12 (aac m) (-1) [] []) (wA:=λx=>7*(x.fld 2).asList.length+6) (wB:=λy=>(y.fld 2).asList.length) I.e J.e hE;have t3:=ak1 (key:=aac) (both:=svcC) (gone:=λm=>chg 17 (aac m) (-1) [] []) (new:=λm=>chg 18 (aac m) (-1) [] []) (wA:=λx=>7*(x.fld 1).asList.length+6) (wB:=λy=>(y.fld 1).asList.length) I.v J.v hS;have w7:∀ (i:Nat) (l:List PV),sumW (λx=>7*(x.fld i).asList.length+6+1) l<=14*aay l:=λi l=>ao8 7 i l;have w1:∀ (i:Nat) (l:List PV),sumW (λx=>(x.fld i).asList.length+1) l<=2*aay l:=λi l=>Nat.le_trans (a2h (λx=>by omega) l) (ao8 1 i l);have H:∀ (v:PV) (i:Nat),aat v<=1048576->aay (v.fld i).asList<=1048576:=λv i h=>by have h1:=afi (v.fld i);have h2:=ads v i;omega
 have a0:=H a 0 Z;have a1:=H a 1 Z;have a2:=H a 2 Z;have b0:=H b 0 bb;have b1:=H b 1 bb;have b2:=H b 2 bb;have q1:=w7 1 (a.fld 0).asList;have q2:=w7 2 (a.fld 1).asList;have q3:=w7 1 (a.fld 2).asList;have r1:=w1 1 (b.fld 0).asList;have r2:=w1 2 (b.fld 1).asList;have r3:=w1 1 (b.fld 2).asList;unfold raw aiw gM gE gS nM nE nS;simp only [Ak];omega
theorem a3s {a b:PV} (h:SOk a) (o:SOk b) (ua:SUq a) (ub:SUq b) (H:aat a<=1048576) (I:aat b<=1048576):∃ ys:List PV,F10 0 a b=some ys/\ys.Perm (raw a b)/\Srt ys:=by have Z:=anh ua ub H I;obtain ⟨ys,J,M,O⟩:=a2d (xs:=raw a b) ⟨by omega,λx hx=>(a7b h o x hx).1⟩;exact ⟨ys,by rw [aw9 h o Z,J];rfl,M,O⟩
end Go.Ab
