/- Comparing in both directions: what is collected is the same, turned back. -/
import Derived.Test.YthokbeimbdnnoaaGreatDoorPCmpT
import Derived.Test.YthokbeimbdnnoaaGreatDoorPSrt5T
import Derived.Test.YthokbeimbdnnoaaGreatDoorPVld3T
set_option linter.unusedVariables false
set_option linter.unusedSimpArgs false
set_option linter.unnecessarySimpa false
namespace Go.Ab
open Go
set_option maxRecDepth 100000
theorem aio {α β:Type} (f g:α->List β):∀ l:List α,(l.flatMap fun x=>f x++g x).Perm (l.flatMap f++l.flatMap g):=by
 intro l
 induction l with
 | nil=>exact .refl _
 | cons x r ih=>
  simp only [List.flatMap_cons]
  classical
  rw [List.perm_iff_count] at ih ⊢
  intro a
  have:=ih a
  simp only [List.count_append] at this ⊢
  omega
theorem atb {α β:Type}:∀ l:List α,(l.flatMap fun _=>([]:List β))=[]:=by
 intro l
 induction l with
 | nil=>rfl
 | cons x r ih=>rw [List.flatMap_cons,ih];rfl
theorem ax5 {α β γ:Type} (h:α->β->List γ) (B:List β):∀ A:List α,(A.flatMap fun x=>B.flatMap (h x)).Perm (B.flatMap fun y=>A.flatMap fun x=>h x y):=by
 intro A
 induction A with
 | nil=>simp only [List.flatMap_nil];rw [atb]
 | cons x r ih=>
  simp only [List.flatMap_cons]
  exact ((List.Perm.refl _).append ih).trans (aio (h x) (fun y=>r.flatMap fun x=>h x y) B).symm
theorem aia {α β:Type}{f g:α->List β}:∀ {l:List α},(∀ x,x∈l->f x=g x)->l.flatMap f=l.flatMap g:=by
 intro l
 induction l with
 | nil=>intro _;rfl
 | cons x r ih=>
  intro h
  simp only [List.flatMap_cons,h x (List.mem_cons_self ..),ih fun y hy=>h y (List.mem_cons_of_mem _ hy)]
section
variable {κ:Type} [BEq κ] [LawfulBEq κ] {key:PV->κ}
theorem ard {k:κ}{l:List PV}{y:PV} (h:fst key k l=some y):key y=k:=by
 unfold fst at h
 have h2:=List.find?_some h
 exact eq_of_beq h2
theorem awz {γ:Type}{G:PV->List γ}{k:κ}:∀ {B:List PV},(B.map key).Nodup->(match fst key k B with | some y=>G y | none=>[])=B.flatMap fun y=>bif key y==k then G y else []:=by
 intro B
 induction B with
 | nil=>intro _;rfl
 | cons b r ih=>
  intro hu
  rw [List.map_cons,List.nodup_cons] at hu
  have ih:=ih hu.2
  unfold fst at ih ⊢
  rw [List.find?_cons,List.flatMap_cons]
  cases hb:key b==k with
  | true=>
   dsimp only
   have e:=eq_of_beq hb
   have:(r.flatMap fun y=>bif key y==k then G y else [])=r.flatMap fun _=>[]:=aia fun y hy=>by
    cases hy2:key y==k with
    | false=>rfl
    | true=>
     exact absurd (by rw [e,<-eq_of_beq hy2];exact List.mem_map_of_mem hy) hu.1
   rw [this,atb,List.append_nil]
   rfl
  | false=>
   dsimp only
   rw [ih]
   rfl
theorem avq {γ:Type}{G:PV->PV->List γ}{A B:List PV} (uA:(A.map key).Nodup) (uB:(B.map key).Nodup):
 (A.flatMap fun x=>match fst key (key x) B with | some y=>G x y | none=>[]).Perm (B.flatMap fun y=>match fst key (key y) A with | some x=>G x y | none=>[]):=by
 have e1:(A.flatMap fun x=>match fst key (key x) B with | some y=>G x y | none=>[])=A.flatMap fun x=>B.flatMap fun y=>bif key y==key x then G x y else []:=aia fun x _=>awz (G:=fun y=>G x y) uB
 have e2:(B.flatMap fun y=>match fst key (key y) A with | some x=>G x y | none=>[])=B.flatMap fun y=>A.flatMap fun x=>bif key y==key x then G x y else []:=aia fun y _=>by
  rw [awz (G:=fun x=>G x y) uA]
  refine aia fun x _=>?_
  rw [beqC (key x) (key y)]
 rw [e1,e2]
 exact ax5 _ _ _
theorem ajn {both:PV->PV->List PV}{gone new:PV->PV}{A B:List PV}{P:PV->Prop} (hb:∀ x,x∈A->∀ y,y∈B->key x=key y->∀ c,c∈both x y->P c) (hg:∀ x,x∈A->P (gone x)) (hn:∀ y,y∈B->P (new y)):
 (∀ c,c∈A.flatMap (cmn key both gone B)->P c)/\∀ c,c∈B.flatMap (nws key new A)->P c:=by
 refine ⟨fun c hc=>?_,fun c hc=>?_⟩
 ·obtain ⟨x,hx,hc⟩:=List.mem_flatMap.1 hc
  unfold cmn at hc
  cases h:fst key (key x) B with
  | some y=>rw [h] at hc;exact hb x hx y (afm h) (ard h).symm c hc
  | none=>rw [h] at hc;rw [List.mem_singleton.1 hc];exact hg x hx
 ·obtain ⟨y,hy,hc⟩:=List.mem_flatMap.1 hc
  unfold nws at hc
  cases h:fst key (key y) A with
  | some x=>rw [h] at hc;cases hc
  | none=>rw [h] at hc;rw [List.mem_singleton.1 hc];exact hn y hy
def sumW (w:PV->Nat):List PV->Nat
 | []=>0
 | x::r=>w x+sumW w r
theorem az1 {γ:Type}{f:PV->List γ}{w:PV->Nat}:∀ {l:List PV},(∀ x,x∈l->(f x).length<=w x)->(l.flatMap f).length<=sumW w l:=by
 intro l
 induction l with
 | nil=>intro _;exact Nat.le_refl _
 | cons x r ih=>
  intro h
  rw [List.flatMap_cons,List.length_append,sumW]
  have h1:=h x (List.mem_cons_self ..)
  have h2:=ih fun y hy=>h y (List.mem_cons_of_mem _ hy)
  omega
theorem ajo {both:PV->PV->List PV}{gone new:PV->PV}{A B:List PV}{wA wB:PV->Nat} (uA:(A.map key).Nodup) (uB:(B.map key).Nodup) (hb:∀ x,x∈A->∀ y,y∈B->(both x y).length<=wA x+wB y):
 (A.flatMap (cmn key both gone B)).length+(B.flatMap (nws key new A)).length<=sumW (fun x=>wA x+1) A+sumW (fun y=>wB y+1) B:=by
 have h1:(A.flatMap (cmn key both gone B)).length<=(A.flatMap fun x=>List.replicate (wA x+1) ()++match fst key (key x) B with | some y=>List.replicate (wB y) () | none=>[]).length:=by
  have:∀ l:List PV,(∀ x,x∈l->x∈A)->(l.flatMap (cmn key both gone B)).length<=(l.flatMap fun x=>List.replicate (wA x+1) ()++match fst key (key x) B with | some y=>List.replicate (wB y) () | none=>[]).length:=by
   intro l
   induction l with
   | nil=>intro _;exact Nat.le_refl _
   | cons x r ih=>
    intro hl
    have hx:=hl x (List.mem_cons_self ..)
    have ih:=ih fun y hy=>hl y (List.mem_cons_of_mem _ hy)
    simp only [List.flatMap_cons,List.length_append]
    have:(cmn key both gone B x).length<=(List.replicate (wA x+1) ()).length+(match fst key (key x) B with | some y=>List.replicate (wB y) () | none=>[]).length:=by
     unfold cmn
     cases h:fst key (key x) B with
     | some y=>have:=hb x hx y (afm h);simp only [List.length_replicate];omega
     | none=>simp
    omega
  exact this A fun x h=>h
 have h2:=(aio (fun x=>List.replicate (wA x+1) ()) (fun x=>match fst key (key x) B with | some y=>List.replicate (wB y) () | none=>[]) A).length_eq
 have h3:=(avq (G:=fun _ y=>List.replicate (wB y) ()) uA uB).length_eq
 rw [List.length_append] at h2
 have h4:(A.flatMap fun x=>List.replicate (wA x+1) ()).length<=sumW (fun x=>wA x+1) A:=az1 fun x _=>by simp
 have h5:∀ l:List PV,(l.flatMap fun y=>match fst key (key y) A with | some _=>List.replicate (wB y) () | none=>[]).length+(l.flatMap (nws key new A)).length<=sumW (fun y=>wB y+1) l:=by
  intro l
  induction l with
  | nil=>exact Nat.le_refl _
  | cons y r ih=>
   simp only [List.flatMap_cons,List.length_append,sumW]
   have:(match fst key (key y) A with | some _=>List.replicate (wB y) () | none=>[]).length+(nws key new A y).length<=wB y+1:=by
    unfold nws
    cases fst key (key y) A with
    | some x=>simp
    | none=>simp
   omega
 have h5:=h5 B
 omega
end
theorem awc {α:Type}{c:α->α->Int} (hc:Lin c):∀ {l:List α},(∀ i (hi:i+1<l.length),c (l[i]'(by omega)) l[i+1]<0)->l.Pairwise fun x y=>c x y<0:=by
 intro l
 induction l with
 | nil=>intro _;exact .nil
 | cons x r ih=>
  intro h
  have hr:r.Pairwise fun x y=>c x y<0:=ih fun i hi=>h (i+1) (by simp only [List.length_cons];omega)
  refine .cons (fun y hy=>?_) hr
  match r,hr,h with
  | y0::r',hr,h=>
   have h0:c x y0<0:=h 0 (by simp only [List.length_cons];omega)
   rcases List.mem_cons.1 hy with rfl | hy
   ·exact h0
   ·have h1:=(List.pairwise_cons.1 hr).1 y hy
    have:=hc.tr x y0 y (by omega) (by omega)
    rcases Int.lt_or_eq_of_le this.1 with h2 | h2
    ·exact h2
    ·have:=(this.2 h2).1;omega
theorem afr {α:Type}{c:α->α->Int} (hc:Lin c) {l:List α} (h:l.Pairwise fun x y=>c x y<0):l.Nodup:=h.imp fun {a b} hab e=>by
 subst e
 have:=hc.anti a a
 omega
theorem akk {l:List PV} (h:∀ i,i+1<l.length->ascB (nmL l) i=true):(l.map aaf).Pairwise fun x y=>cB x y<0:=by
 refine awc Lin.cB fun i hi=>?_
 rw [List.length_map] at hi
 have h1:=h i hi
 have e:∀ j,j<l.length->(nmL l).getD j .bad=.str (aaf (l.getD j .bad)):=fun j hj=>by
  have:j<(nmL l).length:=by simpa [nmL] using hj
  rw [aac this,aac hj]
  simp only [nmL,List.getElem_map]
  rfl
 unfold ascB at h1
 rw [e i (by omega),e (i+1) hi,Bool.not_eq_true',Bool.or_eq_false_iff] at h1
 change Op.bytesLess (aaf (l.getD (i+1) .bad)) (aaf (l.getD i .bad))=false/\(aaf (l.getD (i+1) .bad)==aaf (l.getD i .bad))=false at h1
 rw [<-a4n,aac hi,aac (show i<l.length by omega)] at h1
 rw [List.getElem_map,List.getElem_map]
 have h2:=of_decide_eq_false h1.1
 have h3:cB (aaf l[i+1]) (aaf l[i])≠0:=fun h=>by rw [cB_zero.1 h] at h1;simp at h1
 have h4:=Lin.cB.anti (aaf l[i]) (aaf l[i+1])
 omega
theorem aop {l:List PV} (h:∀ i,i+1<l.length->ascB (nmL l) i=true):(l.map aaf).Nodup:=afr Lin.cB (akk h)
theorem ary {l:List PV}{key:PV->Int} (h:∀ i,i<l.length->0<i->key (l.getD (i-1) .bad)<key (l.getD i .bad)):(l.map key).Pairwise fun x y=>cI x y<0:=by
 refine awc Lin.cI fun i hi=>?_
 rw [List.length_map] at hi
 have h1:=h (i+1) hi (by omega)
 rw [show i+1-1=i by omega,aac hi,aac (show i<l.length by omega)] at h1
 rw [List.getElem_map,List.getElem_map]
 unfold cI
 rw [if_pos h1]
 omega
theorem ay3 {l:List PV}{key:PV->Int} (h:∀ i,i<l.length->0<i->key (l.getD (i-1) .bad)<key (l.getD i .bad)):(l.map key).Nodup:=afr Lin.cI (ary h)
theorem MsgV.uq {m:PV} (h:MsgV m):((m.fld 1).asList.map kNum).Nodup:=ay3 fun i hi h0=>(h i hi).up h0
theorem EnumV.uq {m:PV} (h:EnumV m):((m.fld 2).asList.map acl).Nodup:=ay3 fun i hi h0=>(h i hi).up h0
theorem SvcV.pw {m:PV} (h:SvcV m):((m.fld 1).asList.map aaf).Pairwise fun x y=>cB x y<0:=by
 refine awc Lin.cB fun i hi=>?_
 rw [List.length_map] at hi
 have h1:=(h (i+1) hi).up (by omega)
 rw [show i+1-1=i by omega,Bool.or_eq_false_iff] at h1
 change Op.bytesLess (aaf ((m.fld 1).asList.getD (i+1) .bad)) (aaf ((m.fld 1).asList.getD i .bad))=false/\(aaf ((m.fld 1).asList.getD (i+1) .bad)==aaf ((m.fld 1).asList.getD i .bad))=false at h1
 rw [<-a4n,aac hi,aac (show i<(m.fld 1).asList.length by omega)] at h1
 rw [List.getElem_map,List.getElem_map]
 have h2:=of_decide_eq_false h1.1
 have h3:cB (aaf (m.fld 1).asList[i+1]) (aaf (m.fld 1).asList[i])≠0:=fun h=>by rw [cB_zero.1 h] at h1;simp at h1
 have h4:=Lin.cB.anti (aaf (m.fld 1).asList[i]) (aaf (m.fld 1).asList[i+1])
 omega
theorem SvcV.uq {m:PV} (h:SvcV m):((m.fld 1).asList.map aaf).Nodup:=afr Lin.cB h.pw
structure SUq (s:PV):Prop where
 m:((s.fld 0).asList.map aaf).Nodup
 e:((s.fld 1).asList.map aaf).Nodup
 v:((s.fld 2).asList.map aaf).Nodup
 ms:∀ x,x∈(s.fld 0).asList->((x.fld 1).asList.map kNum).Nodup
 es:∀ x,x∈(s.fld 1).asList->((x.fld 2).asList.map acl).Nodup
 vs:∀ x,x∈(s.fld 2).asList->((x.fld 1).asList.map aaf).Nodup
theorem SchemaV.uq {s:PV} (h:SchemaV s):SUq s:=by
 have at':∀ {l:List PV}{x:PV},x∈l->∃ i,i<l.length/\l.getD i .bad=x:=fun {l x} hx=>by
  obtain ⟨i,hi,rfl⟩:=List.mem_iff_getElem.1 hx
  exact ⟨i,hi,aac hi⟩
 refine ⟨aop h.ascM,aop h.ascE,aop h.ascS,fun x hx=>?_,fun x hx=>?_,fun x hx=>?_⟩
 ·obtain ⟨i,hi,rfl⟩:=at' hx;exact (h.msg i hi).uq
 ·obtain ⟨i,hi,rfl⟩:=at' hx;exact (h.enum i hi).uq
 ·obtain ⟨i,hi,rfl⟩:=at' hx;exact (h.svc i hi).uq
def chSm (c:PV):Prop:=(chO c).length<=100000000/\(chW c).length<=100000000
theorem aek {P:PV->Prop}{b:Bool}{x:PV} (h:P x):∀ c,c∈dif b x->P c:=fun c hc=>by
 cases b with
 | false=>cases hc
 | true=>rw [List.mem_singleton.1 hc];exact h
theorem acu {P:PV->Prop}{l r:List PV} (h:∀ c,c∈l->P c) (k:∀ c,c∈r->P c):∀ c,c∈l++r->P c:=fun c hc=>(List.mem_append.1 hc).elim (h c) (k c)
theorem az0 {d:List UInt8}{x y:PV} (hx:OkFld x) (hy:OkFld y):∀ c,c∈aew d x y->chSm c:=by
 have a1:=hx.name;have a2:=hx.type;have a3:=hx.union;have b1:=hy.name;have b2:=hy.type;have b3:=hy.union
 have t1:=aqm (x.fld 4) a2;have t2:=aqm (y.fld 4) b2
 have l1:=ati x hx.dflt;have l2:=ati y hy.dflt
 have c1:=ao2 (x.fld 2).asInt;have c2:=ao2 (y.fld 2).asInt
 have k1:=axm (x.fld 3).asInt;have k2:=axm (y.fld 3).asInt
 unfold aew
 refine acu (aek ?_) (acu (aek ?_) (acu (aek ?_) (acu (aek ?_) (acu (aek ?_) (aek ?_)))))
 ·exact ⟨show (x.fld 1).asStr.length<=_ by omega,show (y.fld 1).asStr.length<=_ by omega⟩
 ·exact ⟨show (aj9 _).length<=_ by omega,show (aj9 _).length<=_ by omega⟩
 ·exact ⟨show (aj6 _).length<=_ by omega,show (aj6 _).length<=_ by omega⟩
 ·exact ⟨show (kw _).length<=_ by omega,show (kw _).length<=_ by omega⟩
 ·exact ⟨show (x.fld 5).asStr.length<=_ by omega,show (y.fld 5).asStr.length<=_ by omega⟩
 ·exact ⟨show (litF _).length<=_ by omega,show (litF _).length<=_ by omega⟩
theorem aww {a b:PV} (ha:OkMsg a) (hb:OkMsg b):∀ c,c∈adf a b->chSm c:=by
 have h:=ajn (key:=kNum) (both:=aew (aaf a)) (gone:=fun f=>chg 3 (aaf a) (f.fld 0).asInt (f.fld 1).asStr []) (new:=fun f=>chg 4 (aaf a) (f.fld 0).asInt [] (f.fld 1).asStr) (P:=chSm) (A:=(a.fld 1).asList) (B:=(b.fld 1).asList)
  (fun x hx y hy _=>az0 (ha.field x hx) (hb.field y hy)) (fun x hx=>⟨show (x.fld 1).asStr.length<=_ by have:=(ha.field x hx).name;omega,Nat.zero_le _⟩) (fun y hy=>⟨Nat.zero_le _,show (y.fld 1).asStr.length<=_ by have:=(hb.field y hy).name;omega⟩)
 exact acu h.1 h.2
theorem a2v {a b:PV} (ha:OkEnum a) (hb:OkEnum b):∀ c,c∈ai6 a b->chSm c:=by
 have h:=ajn (key:=acl) (both:=apj (aaf a)) (gone:=fun f=>chg 14 (aaf a) (f.fld 1).asInt (f.fld 0).asStr []) (new:=fun f=>chg 15 (aaf a) (f.fld 1).asInt [] (f.fld 0).asStr) (P:=chSm) (A:=(a.fld 2).asList) (B:=(b.fld 2).asList)
  (fun x hx y hy _=>aek ⟨show (x.fld 0).asStr.length<=_ by have:=(ha.item x hx).name;omega,show (y.fld 0).asStr.length<=_ by have:=(hb.item y hy).name;omega⟩) (fun x hx=>⟨show (x.fld 0).asStr.length<=_ by have:=(ha.item x hx).name;omega,Nat.zero_le _⟩) (fun y hy=>⟨Nat.zero_le _,show (y.fld 0).asStr.length<=_ by have:=(hb.item y hy).name;omega⟩)
 have o1:=apu (a.fld 1).asBool;have o2:=apu (b.fld 1).asBool
 exact acu (aek ⟨show (aln _).length<=_ by omega,show (aln _).length<=_ by omega⟩) (acu h.1 h.2)
theorem a5v {a b:PV} (ha:OkSvc a) (hb:OkSvc b):∀ c,c∈svcC a b->chSm c:=by
 have h:=ajn (key:=aaf) (both:=an7 (aaf a)) (gone:=fun f=>chg 19 (aaf a) (-1) (f.fld 0).asStr []) (new:=fun f=>chg 20 (aaf a) (-1) [] (f.fld 0).asStr) (P:=chSm) (A:=(a.fld 1).asList) (B:=(b.fld 1).asList)
  (fun x hx y hy _=>by
   have s1:=am0 (ha.meth x hx);have s2:=am0 (hb.meth y hy)
   have n1:=(ha.meth x hx).name
   have w1:=ahd (x.fld 3).asInt;have w2:=ahd (y.fld 3).asInt
   refine acu (aek ⟨show (afd _).length<=_ by omega,show (afd _).length<=_ by omega⟩) (aek ⟨show (shT _ _).length<=_ from ?_,show (shT _ _).length<=_ from ?_⟩)
   ·simp only [shT,List.length_append,List.length_cons,List.length_nil];omega
   ·simp only [shT,List.length_append,List.length_cons,List.length_nil];omega)
  (fun x hx=>⟨show (x.fld 0).asStr.length<=_ by have:=(ha.meth x hx).name;omega,Nat.zero_le _⟩) (fun y hy=>⟨Nat.zero_le _,show (y.fld 0).asStr.length<=_ by have:=(hb.meth y hy).name;omega⟩)
 exact acu h.1 h.2
theorem a5p {a b:PV} (ha:SOk a) (hb:SOk b):∀ c,c∈raw a b->chSm c:=by
 have z:∀ (k:Int) (m:PV),chSm (chg k (aaf m) (-1) [] []):=fun k m=>⟨Nat.zero_le _,Nat.zero_le _⟩
 have h1:=ajn (key:=aaf) (both:=adf) (gone:=fun m=>chg 1 (aaf m) (-1) [] []) (new:=fun m=>chg 2 (aaf m) (-1) [] []) (P:=chSm) (A:=(a.fld 0).asList) (B:=(b.fld 0).asList) (fun x hx y hy _=>aww (ha.msg x hx) (hb.msg y hy)) (fun x _=>z 1 x) (fun y _=>z 2 y)
 have h2:=ajn (key:=aaf) (both:=ai6) (gone:=fun m=>chg 11 (aaf m) (-1) [] []) (new:=fun m=>chg 12 (aaf m) (-1) [] []) (P:=chSm) (A:=(a.fld 1).asList) (B:=(b.fld 1).asList) (fun x hx y hy _=>a2v (ha.enum x hx) (hb.enum y hy)) (fun x _=>z 11 x) (fun y _=>z 12 y)
 have h3:=ajn (key:=aaf) (both:=svcC) (gone:=fun m=>chg 17 (aaf m) (-1) [] []) (new:=fun m=>chg 18 (aaf m) (-1) [] []) (P:=chSm) (A:=(a.fld 2).asList) (B:=(b.fld 2).asList) (fun x hx y hy _=>a5v (ha.svc x hx) (hb.svc y hy)) (fun x _=>z 17 x) (fun y _=>z 18 y)
 exact acu (acu h1.1 (acu h2.1 h3.1)) (acu h1.2 (acu h2.2 h3.2))
theorem am3 (n:Nat):∀ l:List PV,sumW (fun _=>n) l=n*l.length:=by
 intro l
 induction l with
 | nil=>rfl
 | cons x r ih=>rw [sumW,ih,List.length_cons,Nat.mul_succ];omega
theorem am4 (k i:Nat):∀ l:List PV,sumW (fun m=>k*(m.fld i).asList.length+k) l<=(2*k)*aau l:=by
 intro l
 induction l with
 | nil=>exact Nat.zero_le _
 | cons m r ih=>
  have h1:=ad0 (m.fld i)
  have h2:=ac5 m i
  have h3:=adr m
  rw [sumW,aau,Nat.mul_add]
  have:k*(m.fld i).asList.length+k<=2*k*aat m:=by
   rw [<-Nat.mul_succ,Nat.mul_comm 2 k,Nat.mul_assoc]
   exact Nat.mul_le_mul_left _ (by omega)
  omega
theorem ayr {v w:PV->Nat} (h:∀ x,v x<=w x):∀ l:List PV,sumW v l<=sumW w l:=by
 intro l
 induction l with
 | nil=>exact Nat.le_refl _
 | cons x r ih=>have:=h x;rw [sumW,sumW];omega
theorem a3q {a b:PV} (ua:SUq a) (ub:SUq b) (ba:aat a<=1048576) (bb:aat b<=1048576):(raw a b).length<=90000000:=by
 have hM:∀ x,x∈(a.fld 0).asList->∀ y,y∈(b.fld 0).asList->(adf x y).length<=(7*(x.fld 1).asList.length+6)+(y.fld 1).asList.length:=fun x hx y hy=>by
  have h:=ajo (key:=kNum) (both:=aew (aaf x)) (gone:=fun f=>chg 3 (aaf x) (f.fld 0).asInt (f.fld 1).asStr []) (new:=fun f=>chg 4 (aaf x) (f.fld 0).asInt [] (f.fld 1).asStr) (wA:=fun _=>6) (wB:=fun _=>0) (ua.ms x hx) (ub.ms y hy) (fun f _ g _=>aum _ f g)
  rw [am3,am3] at h
  unfold adf
  rw [List.length_append]
  omega
 have hE:∀ x,x∈(a.fld 1).asList->∀ y,y∈(b.fld 1).asList->(ai6 x y).length<=(7*(x.fld 2).asList.length+6)+(y.fld 2).asList.length:=fun x hx y hy=>by
  have h:=ajo (key:=acl) (both:=apj (aaf x)) (gone:=fun f=>chg 14 (aaf x) (f.fld 1).asInt (f.fld 0).asStr []) (new:=fun f=>chg 15 (aaf x) (f.fld 1).asInt [] (f.fld 0).asStr) (wA:=fun _=>1) (wB:=fun _=>0) (ua.es x hx) (ub.es y hy) (fun f _ g _=>ach _ _)
  rw [am3,am3] at h
  have o:=ach (!((x.fld 1).asBool==(y.fld 1).asBool)) (chg 13 (aaf x) (-1) (aln (x.fld 1).asBool) (aln (y.fld 1).asBool))
  unfold ai6 apk an9
  rw [List.length_append,List.length_append]
  omega
 have hS:∀ x,x∈(a.fld 2).asList->∀ y,y∈(b.fld 2).asList->(svcC x y).length<=(7*(x.fld 1).asList.length+6)+(y.fld 1).asList.length:=fun x hx y hy=>by
  have h:=ajo (key:=aaf) (both:=an7 (aaf x)) (gone:=fun f=>chg 19 (aaf x) (-1) (f.fld 0).asStr []) (new:=fun f=>chg 20 (aaf x) (-1) [] (f.fld 0).asStr) (wA:=fun _=>2) (wB:=fun _=>0) (ua.vs x hx) (ub.vs y hy) (fun f _ g _=>by
   have d1:=ach (ne21 f g) (chg 21 (aaf x) (-1) (afd f) (afd g))
   have d2:=ach (ne22 f g) (chg 22 (aaf x) (-1) (shT f f) (shT f g))
   unfold an7
   rw [List.length_append]
   omega)
  rw [am3,am3] at h
  unfold svcC
  rw [List.length_append]
  omega
 have t1:=ajo (key:=aaf) (both:=adf) (gone:=fun m=>chg 1 (aaf m) (-1) [] []) (new:=fun m=>chg 2 (aaf m) (-1) [] []) (wA:=fun x=>7*(x.fld 1).asList.length+6) (wB:=fun y=>(y.fld 1).asList.length) ua.m ub.m hM
 have t2:=ajo (key:=aaf) (both:=ai6) (gone:=fun m=>chg 11 (aaf m) (-1) [] []) (new:=fun m=>chg 12 (aaf m) (-1) [] []) (wA:=fun x=>7*(x.fld 2).asList.length+6) (wB:=fun y=>(y.fld 2).asList.length) ua.e ub.e hE
 have t3:=ajo (key:=aaf) (both:=svcC) (gone:=fun m=>chg 17 (aaf m) (-1) [] []) (new:=fun m=>chg 18 (aaf m) (-1) [] []) (wA:=fun x=>7*(x.fld 1).asList.length+6) (wB:=fun y=>(y.fld 1).asList.length) ua.v ub.v hS
 have w7:∀ (i:Nat) (l:List PV),sumW (fun x=>7*(x.fld i).asList.length+6+1) l<=14*aau l:=fun i l=>am4 7 i l
 have w1:∀ (i:Nat) (l:List PV),sumW (fun x=>(x.fld i).asList.length+1) l<=2*aau l:=fun i l=>Nat.le_trans (ayr (fun x=>by omega) l) (am4 1 i l)
 have bl:∀ (v:PV) (i:Nat),aat v<=1048576->aau (v.fld i).asList<=1048576:=fun v i h=>by
  have h1:=aet (v.fld i)
  have h2:=ac5 v i
  omega
 have a0:=bl a 0 ba;have a1:=bl a 1 ba;have a2:=bl a 2 ba
 have b0:=bl b 0 bb;have b1:=bl b 1 bb;have b2:=bl b 2 bb
 have q1:=w7 1 (a.fld 0).asList;have q2:=w7 2 (a.fld 1).asList;have q3:=w7 1 (a.fld 2).asList
 have r1:=w1 1 (b.fld 0).asList;have r2:=w1 2 (b.fld 1).asList;have r3:=w1 1 (b.fld 2).asList
 unfold raw ahh gM gE gS nM nE nS
 simp only [List.length_append]
 omega
theorem as7 {a b:PV} (ha:SOk a) (hb:SOk b) (ua:SUq a) (ub:SUq b) (ba:aat a<=1048576) (bb:aat b<=1048576):∃ ys:List PV,F14 0 a b=some ys/\ys.Perm (raw a b)/\Srt ys:=by
 have hl:=a3q ua ub ba bb
 obtain ⟨ys,h1,h2,h3⟩:=aym (xs:=raw a b) ⟨by omega,fun x hx=>(a5p ha hb x hx).1⟩
 exact ⟨ys,by rw [aue ha hb hl,h1];rfl,h2,h3⟩
end Go.Ab
