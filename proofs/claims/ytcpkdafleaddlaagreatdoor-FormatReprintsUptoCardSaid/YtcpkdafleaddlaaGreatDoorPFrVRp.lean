/- What is parsed is no larger than its tokens: definitions and files. -/
import Derived.Test.YtcpkdafleaddlaaGreatDoorPTksRp
set_option linter.unusedVariables false
set_option linter.unusedSimpArgs false
set_option linter.unnecessarySimpa false
namespace Go.Ab
open Go
set_option maxRecDepth 100000
noncomputable section
theorem aoz {l:List Tk} (h:l.length<=0):l=[]:=A1 (by omega)
theorem bcn {un:Bo} (hu:un.length<=40):∀ (m:Nat) (l:List Tk) (d:List PV),l.length<=m->SmT l->(∀ x,x∈d->GF x)->∀ v r,acv parV aac un l d=.ok v r->(∀ x,x∈v->GF x)/\aah v+wT r<=aah d+wT l/\SmT r:=by
 intro m;induction m with
 | zero=>intro l d V W M v r h;have:=aoz V;subst this;rw [ag6] at h;cases h
 | succ m ih=>
  intro l d V W M v r h;rw [ag6] at h;obtain ⟨Z,q,z,h2⟩:=Rs.bind_inv h;obtain ⟨x,o,U,H⟩:=Rs.bind_inv h2;have l1:=auh l Z q z;have l2:=aoe parV aac 2 0 Z un false q x o U;obtain ⟨w1,_⟩:=bmt z;have X:=typ_q z W;obtain ⟨O,w3,q3⟩:=bee hu (λh=>by cases h) X U;have Y:=q3 X;cases hb:isS 4 [125] o<;>simp only [hb,Ad,Ae] at H
  ·obtain ⟨g4,w4,s4⟩:=ih o (d++[x]) (by omega) Y (afz M O) v r H;rw [abk,ab1] at w4;exact ⟨g4,by omega,s4⟩
  ·cases H;have:=am7 o;exact ⟨afz M O,by rw [abk,ab1];omega,Y.tail⟩
theorem bmy {l r:List Tk}{v:List PV} (z:SmT l) (h:ak2 parV aac l=.ok v r):(∀ x,x∈v->GF x)/\aah v+wT r<=wT l/\SmT r:=by obtain ⟨_,q,d,h⟩:=Rs.bind_inv h;obtain ⟨un,U,m,h⟩:=Rs.bind_inv h;obtain ⟨_,O,o,h⟩:=Rs.bind_inv h;have V:=afa d;obtain ⟨H,W⟩:=ayw m;have X:=afa o;obtain ⟨g,w,s⟩:=bcn H _ O [] (Nat.le_refl _) (ags o (ajv m (ags d z))) (λx M=>by cases M) v r h;simp only [aah] at w;exact ⟨g,by omega,s⟩
theorem bpa {most:Int}{l r:List Tk}{v:PV} (h:as3 most l=.ok v r):aaj v+wT r<=wT l/\Qs l r:=by
 obtain ⟨a,q,m,h⟩:=Rs.bind_inv h;obtain ⟨b,z,d,h⟩:=Rs.bind_inv h;cases h;have H:=bhg m;cases o:isS 4 [45] q<;>simp only [o,Ad,Ae] at d
 ·cases d;exact ⟨by simp only [aaj,aah];omega,bhf m⟩
 ·have M:=bhg d;have:=am7 q;exact ⟨by simp only [aaj,aah];omega,((bhf m).tr (.tl q)).tr (bhf d)⟩
theorem bd5 {most:Int}:∀ (m:Nat) (l:List Tk) (d:List PV),l.length<=m->∀ v r,ada most l d=.ok v r->aah v+wT r<=aah d+wT l/\Qs l r:=by
 intro m;induction m with
 | zero=>intro l d M v r h;have:=aoz M;subst this;rw [akk] at h;cases h
 | succ m X=>
  intro l d M v r h;rw [akk] at h;obtain ⟨x,q,H,o⟩:=Rs.bind_inv h;have l1:=a2g most l x q H;obtain ⟨w1,O⟩:=bpa H;cases W:isS 4 [59] q<;>simp only [W,Ad,Ae] at o
  ·obtain ⟨_,U,z,V⟩:=Rs.bind_inv o;have l2:=abo 4 [44] q _ U z;have w2:=afa z;obtain ⟨Z,Y⟩:=X U (d++[x]) (by omega) v r V;rw [abk,ab1] at Z;exact ⟨by omega,(O.tr (ags z)).tr Y⟩
  ·cases o;have:=am7 q;exact ⟨by rw [abk,ab1];omega,O.tr (.tl q)⟩
theorem bnz:∀ (m:Nat) (l:List Tk) (d:List PV),l.length<=m->∀ v r,goneS l d=.ok v r->aah v+wT r<=aah d+wT l/\Qs l r:=by
 intro m;induction m with
 | zero=>intro l d M v r h;have:=aoz M;subst this;rw [ah2] at h;cases h
 | succ m X=>
  intro l d M v r h;rw [ah2] at h;obtain ⟨x,q,o,z⟩:=Rs.bind_inv h;have l1:=acz l x q o;have w1:=be9 o;have O:=ajv o;have hx:aaj (PV.str x)=x.length+1:=rfl;cases W:isS 4 [59] q<;>simp only [W,Ad,Ae] at z
  ·obtain ⟨_,U,H,V⟩:=Rs.bind_inv z;have l2:=abo 4 [44] q _ U H;have w2:=afa H;obtain ⟨Z,Y⟩:=X U (d++[PV.str x]) (by omega) v r V;rw [abk,ab1] at Z;exact ⟨by omega,(O.tr (ags H)).tr Y⟩
  ·cases z;have:=am7 q;exact ⟨by rw [abk,ab1];omega,O.tr (.tl q)⟩
def GI (x:PV):Prop:=∀ n,n∈(x.fld 2).asList->GN n
def GE (x:PV):Prop:=(∀ y,y∈(x.fld 2).asList->GI y)/\∀ n,n∈(x.fld 4).asList->GN n
theorem bn6 {l r:List Tk}{v:PV} (h:a07 parV aac l=.ok v r):GI v/\aaj v+wT r<=wT l/\Qs l r:=by obtain ⟨V,W,d,h⟩:=Rs.bind_inv h;obtain ⟨_,X,m,h⟩:=Rs.bind_inv h;obtain ⟨n,Y,o,h⟩:=Rs.bind_inv h;obtain ⟨O,Z,H,h⟩:=Rs.bind_inv h;obtain ⟨_,r5,z,h⟩:=Rs.bind_inv h;cases h;have w1:=(ayw d).2;have w2:=afa m;have w3:=bhg o;obtain ⟨M,w4,U⟩:=an1 H;have w5:=afa z;exact ⟨M,by simp only [aaj,aah];omega,(((ajv d).tr (ags m)).tr (bhf o)).tr (U.tr (ags z))⟩
theorem blc:∀ (m:Nat) (l:List Tk) (d rs:List PV),l.length<=m->(∀ x,x∈d->GI x)->∀ v r,adq parV aac l d rs=.ok v r->(∀ x,x∈v.1->GI x)/\aah v.1+aah v.2+wT r<=aah d+aah rs+wT l/\Qs l r:=by
 intro m;induction m with
 | zero=>intro l d rs X z v r h;have:=aoz X;subst this;rw [ah4] at h;cases h
 | succ m Y=>
  intro l d rs X z v r h;rw [ah4] at h;cases hb:isS 4 [125] l<;>simp only [hb,Ad,Ae] at h
  ·cases W:isS 1 [114,101,115,101,114,118,101,100] l<;>simp only [W,Ad,Ae] at h
   ·obtain ⟨x,q,o,M⟩:=Rs.bind_inv h;have l1:=a08 parV aac l x q o;obtain ⟨g1,Z,O⟩:=bn6 o;obtain ⟨H,V,U⟩:=Y q (d++[x]) rs (by omega) (afz z g1) v r M;rw [abk,ab1] at V;exact ⟨H,by omega,O.tr U⟩
   ·obtain ⟨x,q,o,M⟩:=Rs.bind_inv h;have l1:=act W;have l2:=akl 2147483647 l.tail [] x q o;obtain ⟨Z,O⟩:=bd5 _ l.tail [] (Nat.le_refl _) x q o;have:=am7 l;obtain ⟨H,V,U⟩:=Y q d (rs++x) (by omega) z v r M;rw [abk] at V;simp only [aah] at Z;exact ⟨H,by omega,((Qs.tl l).tr O).tr U⟩
  ·cases h;have:=am7 l;exact ⟨z,by show aah d+aah rs+_<=_;omega,.tl l⟩
theorem bot (l:List Tk) (w:Bo):wT (bif isS 1 w l then l.tail else l)<=wT l/\Qs l (bif isS 1 w l then l.tail else l):=by
 cases isS 1 w l with
 | true=>exact ⟨am7 l,.tl l⟩
 | false=>exact ⟨Nat.le_refl _,λx=>x⟩
theorem bjj {o:Bo}{l r:List Tk}{v:PV} (h:aq0 parV aac o l=.ok v r):GE v/\aaj v+wT r<=wT l/\Qs l r:=by obtain ⟨_,r1,d,h⟩:=Rs.bind_inv h;obtain ⟨nm,r2,m,h⟩:=Rs.bind_inv h;obtain ⟨W,r3,H,h⟩:=Rs.bind_inv h;obtain ⟨_,Z,z,h⟩:=Rs.bind_inv h;obtain ⟨x,r5,M,h⟩:=Rs.bind_inv h;cases h;obtain ⟨w0,q0⟩:=bot l [111,112,101,110];have w1:=afa d;obtain ⟨n2,w2⟩:=a1l m;obtain ⟨O,w3,X⟩:=an1 H;have w4:=afa z;obtain ⟨U,w5,Y⟩:=blc _ Z [] [] (Nat.le_refl _) (λx V=>by cases V) x r M;simp only [aah] at w5;exact ⟨⟨U,O⟩,by simp only [aaj,aah];omega,((((q0.tr (ags d)).tr (a1k m)).tr X).tr (ags z)).tr Y⟩
def GM (x:PV):Prop:=(∀ y,y∈(x.fld 1).asList->GF y)/\∀ n,n∈(x.fld 4).asList->GN n
def szB (b:MB):Nat:=aah b.fs+aah b.rs+aah b.gs+aah b.ms+aah b.es
def GB (b:MB):Prop:=(∀ x,x∈b.fs->GF x)/\(∀ x,x∈b.ms->GM x)/\∀ x,x∈b.es->GE x
theorem bj7 {P:PV->Prop}{a b:List PV} (h:∀ y,y∈a->P y) (g:∀ y,y∈b->P y):∀ y,y∈a++b->P y:=λy d=>(Bm.1 d).elim (h y) (g y)
def MsgW (f:Bo->List PV->List PV->List Tk->Rs (List PV×List PV)):Prop:=∀ n a b l v r,SmT l->(∀ x,x∈a->GM x)->(∀ x,x∈b->GE x)->f n a b l=.ok v r->(∀ x,x∈v.1->GM x)/\(∀ x,x∈v.2->GE x)/\aah v.1+aah v.2+wT r<=aah a+aah b+wT l/\SmT r
theorem blu {f:Bo->List PV->List PV->List Tk->Rs (List PV×List PV)} (hf:MsgW f) (X:∀ n a b ts,Sh (f n a b ts) ts) (M:Bo):∀ (m:Nat) (l:List Tk) (b:MB),l.length<=m->SmT l->GB b->∀ v r,ads parV aac f M l b=.ok v r->GB v/\szB v+wT r<=szB b+wT l/\SmT r:=by
 intro m;induction m with
 | zero=>intro l b hm V hb v r h;have:=aoz hm;subst this;rw [aml parV aac f X] at h;cases h
 | succ m Z=>
  intro l b hm V o v r h;rw [aml parV aac f X] at h;have ht:=am7 l;cases h1:isS 4 [125] l<;>simp only [h1,Ad,Ae] at h
  ·cases h2:isS 1 [117,110,105,111,110] l<;>simp only [h2,Ad,Ae] at h
   ·cases h3:isS 1 [109,101,115,115,97,103,101] l<;>simp only [h3,Ad,Ae] at h
    ·cases h4:(isS 1 [101,110,117,109] l||isS 1 [111,112,101,110] l)<;>simp only [h4,Ad,Ae] at h
     ·cases h5:isS 1 [114,101,115,101,114,118,101,100] l<;>simp only [h5,Ad,Ae] at h
      ·obtain ⟨x,q,d,z⟩:=Rs.bind_inv h;have l1:=apu parV aac l x q d;obtain ⟨W,Y,s1⟩:=bkw V d;obtain ⟨H,U,O⟩:=Z q { b with fs:=b.fs++[x] } (by omega) s1 ⟨afz o.1 W,o.2⟩ v r z;simp only [szB,abk,ab1] at U ⊢;exact ⟨H,by omega,O⟩
      ·have l0:=act h5;cases h6:(aav l.tail==3)<;>simp only [h6,Ad,Ae] at h
       ·obtain ⟨x,q,d,z⟩:=Rs.bind_inv h;have l1:=akl 65535 l.tail [] x q d;obtain ⟨Y,q1⟩:=bd5 _ l.tail [] (Nat.le_refl _) x q d;obtain ⟨H,U,O⟩:=Z q { b with rs:=b.rs++x } (by omega) (q1 V.tail) o v r z;simp only [szB,abk,aah] at Y U ⊢;exact ⟨H,by omega,O⟩
       ·obtain ⟨x,q,d,z⟩:=Rs.bind_inv h;have l1:=a0x l.tail [] x q d;obtain ⟨Y,q1⟩:=bnz _ l.tail [] (Nat.le_refl _) x q d;obtain ⟨H,U,O⟩:=Z q { b with gs:=b.gs++x } (by omega) (q1 V.tail) o v r z;simp only [szB,abk,aah] at Y U ⊢;exact ⟨H,by omega,O⟩
     ·obtain ⟨x,q,d,z⟩:=Rs.bind_inv h;have l1:=ah0 parV aac M l x q d;obtain ⟨W,Y,q1⟩:=bjj d;obtain ⟨H,U,O⟩:=Z q { b with es:=b.es++[x] } (by omega) (q1 V) ⟨o.1,o.2.1,afz o.2.2 W⟩ v r z;simp only [szB,abk,ab1] at U ⊢;exact ⟨H,by omega,O⟩
    ·obtain ⟨x,q,d,z⟩:=Rs.bind_inv h;have l1:=X M b.ms b.es l x q d;obtain ⟨W,g2,Y,s1⟩:=hf _ _ _ _ _ _ V o.2.1 o.2.2 d;obtain ⟨H,U,O⟩:=Z q { b with ms:=x.1,es:=x.2 } (by omega) s1 ⟨o.1,W,g2⟩ v r z;simp only [szB] at U ⊢;exact ⟨H,by omega,O⟩
   ·obtain ⟨x,q,d,z⟩:=Rs.bind_inv h;have l1:=ap7 parV aac l x q d;obtain ⟨W,Y,s1⟩:=bmy V d;obtain ⟨H,U,O⟩:=Z q { b with fs:=b.fs++x } (by omega) s1 ⟨bj7 o.1 W,o.2⟩ v r z;simp only [szB,abk] at U ⊢;exact ⟨H,by omega,O⟩
  ·cases h;exact ⟨o,by omega,V.tail⟩
theorem bh1 (x:PV):∀ (l:List PV) (i:Nat),aah (l.set i x)<=aah l+aaj x:=by
 intro l;induction l with
 | nil=>intro i;simp [aah]
 | cons y l d=>
  intro i;cases i with
  | zero=>simp only [List.set_cons_zero,aah];omega
  | succ i=>have:=d i;simp only [List.set_cons_succ,aah];omega
theorem msg_w:∀ d:Nat,MsgW (msgS parV aac d):=by
 intro d;induction d with
 | zero=>intro n a b l v r _ _ _ h;cases h
 | succ d ih=>
  intro n a b l v r hs ha hb h;obtain ⟨_,r1,M,h⟩:=Rs.bind_inv h;obtain ⟨z,r2,O,h⟩:=Rs.bind_inv h;obtain ⟨H,r3,V,h⟩:=Rs.bind_inv h;obtain ⟨_,r4,U,h⟩:=Rs.bind_inv h;obtain ⟨x,r5,W,h⟩:=Rs.bind_inv h;cases h;have w1:=afa M;obtain ⟨n2,w2⟩:=a1l O;obtain ⟨Y,w3,q3⟩:=an1 V;have w4:=afa U;have s4:=ags U (q3 (a1k O (ags M hs)));have X:GM (akq z [] [] [] []):=⟨λy m=>(by cases m),λy m=>(by cases m)⟩;obtain ⟨⟨Z,g6,g7⟩,w5,s5⟩:=blu ih (arm parV aac d) z _ r4 ⟨[],[],[],a++[akq z [] [] [] []],b⟩ (Nat.le_refl _) s4 ⟨λy m=>(by cases m),afz ha X,hb⟩ x _ W;have gm:GM (akq z x.fs x.rs x.gs H):=⟨Z,Y⟩;have o:=bh1 (akq z x.fs x.rs x.gs H) x.ms a.length;refine ⟨λy m=>?_,g7,?_,s5⟩
  ·rcases List.mem_or_eq_of_mem_set m with h | rfl
   ·exact g6 y h
   ·exact gm
  ·simp only [szB,abk,ab1,akq,aaj,aah] at w5 o ⊢;omega
def GP (x:PV):Prop:=∀ n,n∈(x.fld 4).asList->GN n
def GS (x:PV):Prop:=(∀ y,y∈(x.fld 1).asList->GP y)/\∀ n,n∈(x.fld 2).asList->GN n
theorem bjw {l r:List Tk}{v:Bool×Bo} (h:awf l=.ok v r):v.2.length+330+wT r<=wT l/\Qs l r:=by obtain ⟨_,q,d,h⟩:=Rs.bind_inv h;obtain ⟨s,z,m,h⟩:=Rs.bind_inv h;obtain ⟨_,H,o,h⟩:=Rs.bind_inv h;cases h;obtain ⟨w0,q0⟩:=bot q [115,116,114,101,97,109];have M:=afa d;have O:=(aug (by decide) m).2;have U:=afa o;exact ⟨by show s.length+_+_<=_;omega,((ags d).tr q0).tr ((ajv m).tr (ags o))⟩
theorem rpc_w {l r:List Tk}{v:PV} (h:rpcS parV aac l=.ok v r):GP v/\aaj v+wT r<=wT l/\Qs l r:=by obtain ⟨_,r0,d,h⟩:=Rs.bind_inv h;obtain ⟨Z,r1,m,h⟩:=Rs.bind_inv h;obtain ⟨a,r2,H,h⟩:=Rs.bind_inv h;obtain ⟨_,r3,o,h⟩:=Rs.bind_inv h;obtain ⟨b,r4,M,h⟩:=Rs.bind_inv h;obtain ⟨V,r5,O,h⟩:=Rs.bind_inv h;obtain ⟨_,r6,z,h⟩:=Rs.bind_inv h;cases h;have w0:=afa d;have w1:=(ayw m).2;obtain ⟨w2,W⟩:=bjw H;have w3:=afa o;obtain ⟨w4,X⟩:=bjw M;obtain ⟨U,w5,Y⟩:=an1 O;have w6:=afa z;exact ⟨U,by simp only [aaj,aah];omega,((ags d).tr (ajv m)).tr (W.tr ((ags o).tr (X.tr (Y.tr (ags z)))))⟩
theorem bo5:∀ (m:Nat) (l:List Tk) (d:List PV),l.length<=m->(∀ x,x∈d->GP x)->∀ v r,apl parV aac l d=.ok v r->(∀ x,x∈v->GP x)/\aah v+wT r<=aah d+wT l/\Qs l r:=by
 intro m;induction m with
 | zero=>intro l d H o v r h;have:=aoz H;subst this;rw [an6] at h;cases h
 | succ m W=>
  intro l d H o v r h;rw [an6] at h;cases V:isS 4 [125] l<;>simp only [V,Ad,Ae] at h
  ·obtain ⟨x,q,z,U⟩:=Rs.bind_inv h;have l1:=a4x parV aac l x q z;obtain ⟨M,w1,X⟩:=rpc_w z;obtain ⟨O,Z,Y⟩:=W q (d++[x]) (by omega) (afz o M) v r U;rw [abk,ab1] at Z;exact ⟨O,by omega,X.tr Y⟩
  ·cases h;have:=am7 l;exact ⟨o,by omega,.tl l⟩
theorem svc_w {l r:List Tk}{v:PV} (h:svcS parV aac l=.ok v r):GS v/\aaj v+wT r<=wT l/\Qs l r:=by obtain ⟨_,r1,d,h⟩:=Rs.bind_inv h;obtain ⟨nm,r2,m,h⟩:=Rs.bind_inv h;obtain ⟨V,r3,z,h⟩:=Rs.bind_inv h;obtain ⟨_,Y,o,h⟩:=Rs.bind_inv h;obtain ⟨x,r5,H,h⟩:=Rs.bind_inv h;cases h;have w1:=afa d;obtain ⟨n2,w2⟩:=a1l m;obtain ⟨M,w3,W⟩:=an1 z;have w4:=afa o;obtain ⟨O,Z,X⟩:=bo5 _ Y [] (Nat.le_refl _) (λx U=>by cases U) x r H;simp only [aah] at Z;exact ⟨⟨O,M⟩,by simp only [aaj,aah];omega,(((ags d).tr (a1k m)).tr W).tr ((ags o).tr X)⟩
theorem bbo:∀ (m:Nat) (l:List Tk) (d:List PV),l.length<=m->∀ v r,adm l d=.ok v r->aah v+wT r<=aah d+wT l/\Qs l r:=by
 intro m;induction m with
 | zero=>intro l d M v r h;have:=aoz M;subst this;rw [afw] at h;cases h;exact ⟨Nat.le_refl _,λx=>x⟩
 | succ m W=>
  intro l d M v r h;rw [afw] at h;cases H:isS 1 [105,109,112,111,114,116] l<;>simp only [H,Ad,Ae] at h
  ·cases h;exact ⟨Nat.le_refl _,λx=>x⟩
  ·obtain ⟨x,q,o,U⟩:=Rs.bind_inv h;obtain ⟨_,O,z,V⟩:=Rs.bind_inv U;have l0:=act H;have l1:=acz l.tail x q o;have l2:=abo 4 [59] q _ O z;have w0:=am7 l;have w1:=be9 o;have w2:=afa z;obtain ⟨Y,X⟩:=W O (d++[PV.str x]) (by omega) v r V;have Z:aaj (PV.str x)=x.length+1:=rfl;rw [abk,ab1] at Y;exact ⟨by omega,((Qs.tl l).tr (ajv o)).tr ((ags z).tr X)⟩
def szF (b:FB):Nat:=aah b.ms+aah b.es+aah b.ss
def GFB (b:FB):Prop:=(∀ x,x∈b.ms->GM x)/\(∀ x,x∈b.es->GE x)/\∀ x,x∈b.ss->GS x
theorem bnr:∀ (m:Nat) (l:List Tk) (b:FB),l.length<=m->SmT l->GFB b->∀ v r,af1 parV aac l b=.ok v r->GFB v/\szF v+wT r<=szF b+wT l:=by
 intro m;induction m with
 | zero=>intro l b X U d v r h;have:=aoz X;subst this;rw [aiy] at h;cases h;exact ⟨d,Nat.le_refl _⟩
 | succ m V=>
  intro l b X U d v r h;rw [aiy] at h;cases h0:l.isEmpty<;>simp only [h0,Ad,Ae] at h
  ·cases h1:isS 1 [109,101,115,115,97,103,101] l<;>simp only [h1,Ad,Ae] at h
   ·cases h2:(isS 1 [101,110,117,109] l||isS 1 [111,112,101,110] l)<;>simp only [h2,Ad,Ae] at h
    ·obtain ⟨x,q,o,z⟩:=Rs.bind_inv h;have Y:=beb parV aac l x q o;obtain ⟨H,Z,W⟩:=svc_w o;obtain ⟨M,O⟩:=V q { b with ss:=b.ss++[x] } (by omega) (W U) ⟨d.1,d.2.1,afz d.2.2 H⟩ v r z;simp only [szF,abk,ab1] at O ⊢;exact ⟨M,by omega⟩
    ·obtain ⟨x,q,o,z⟩:=Rs.bind_inv h;have Y:=ah0 parV aac [] l x q o;obtain ⟨H,Z,W⟩:=bjj o;obtain ⟨M,O⟩:=V q { b with es:=b.es++[x] } (by omega) (W U) ⟨d.1,afz d.2.1 H,d.2.2⟩ v r z;simp only [szF,abk,ab1] at O ⊢;exact ⟨M,by omega⟩
   ·obtain ⟨x,q,o,z⟩:=Rs.bind_inv h;have Y:=arm parV aac 16 [] b.ms b.es l x q o;obtain ⟨H,g2,Z,s1⟩:=msg_w 16 _ _ _ _ _ _ U d.1 d.2.1 o;obtain ⟨M,O⟩:=V q { b with ms:=x.1,es:=x.2 } (by omega) s1 ⟨H,g2,d.2.2⟩ v r z;simp only [szF] at O ⊢;exact ⟨M,by omega⟩
  ·cases h;exact ⟨d,Nat.le_refl _⟩
theorem bnx {d:Bo}{l r:List Tk}{v:PV} (hs:SmT l) (h:ax1 parV aac d l=.ok v r):(∀ x,x∈(v.fld 3).asList->GM x)/\(∀ x,x∈(v.fld 4).asList->GE x)/\(∀ x,x∈(v.fld 5).asList->GS x)/\aaj v<=wT l+d.length+200:=by
 obtain ⟨sp,H,o,h⟩:=Rs.bind_inv h;obtain ⟨im,U,V,h⟩:=Rs.bind_inv h;obtain ⟨b,r3,W,h⟩:=Rs.bind_inv h;cases h;have z:sp.length<=120/\wT H<=wT l/\Qs l H:=by
  unfold ar8 at o;cases hb:isS 1 [115,112,97,99,101] l<;>simp only [hb,Ad,Ae] at o
  ·cases o;exact ⟨Nat.zero_le _,Nat.le_refl _,λx=>x⟩
  ·obtain ⟨s,q,z,h2⟩:=Rs.bind_inv o;obtain ⟨_,O,M,h4⟩:=Rs.bind_inv h2;cases h4;obtain ⟨p1,p2⟩:=aug (by decide) z;have:=afa M;have:=am7 l;exact ⟨bap p1,by omega,((Qs.tl l).tr (ajv z)).tr (ags M)⟩
 obtain ⟨n1,w1,q1⟩:=z;obtain ⟨w2,O⟩:=bbo _ H [] (Nat.le_refl _) im U V;obtain ⟨⟨X,Y,Z⟩,w3⟩:=bnr _ U ⟨[],[],[]⟩ (Nat.le_refl _) (O (q1 hs)) ⟨λy m=>(by cases m),λy m=>(by cases m),λy m=>(by cases m)⟩ b r W;simp only [szF,aah] at w2 w3;exact ⟨X,Y,Z,by simp only [aaj,aah];omega⟩
end
end Go.Ab
namespace Go.Ab
open Go
set_option maxRecDepth 100000
noncomputable section
theorem zfld {v:PV}{n:Nat} (d:aaj v<=n) (i:Nat):aaj (v.fld i)<=n:=Nat.le_trans (axf v i) d
theorem zel {v:PV}{n:Nat} (z:aaj v<=n):∀ x,x∈v.asList->aaj x<=n:=λx d=>by have m:=atf v;have o:=ak8 d;omega
theorem zstr {v:PV}{n:Nat} (d:aaj v<=n):v.asStr.length<=n:=by have:=bff v;omega
theorem aj2 {v:PV}{n:Nat} (d:aaj v<=n):v.asList.length<=n:=by have:=bac v;omega
theorem bj3 {v:PV} (g:GV v) (o:aaj v<=1048576):aee v:=by obtain ⟨a,n,t,rfl,d,m⟩:=g;rw [ahw] at o;exact ⟨Nat.zero_le _,by show t.length<=_;omega,d,m⟩
theorem anx {n:PV} (g:GN n) (d:aaj n<=1048576):acq n:=by obtain ⟨s,v,rfl,h⟩:=g;exact ⟨bj3 h (zfld d 1),zstr (zfld d 0)⟩
theorem bk1 {x:PV} (g:GF x) (d:aaj x<=1048576):OkFld x:=
 ⟨zstr (zfld d 1),zstr (zfld (zfld d 4) 1),zstr (zfld d 5),bj3 g.1 (zfld d 7),aj2 (zfld d 8),λn m=>anx (g.2 n m) (zel (zfld d 8) n m)⟩
theorem bk2 {x:PV} (g:GM x) (d:aaj x<=1048576):OkMsg x:=
 ⟨zstr (zfld d 0),aj2 (zfld d 1),λy m=>bk1 (g.1 y m) (zel (zfld d 1) y m),aj2 (zfld d 2),aj2 (zfld d 3),λy m=>zstr (zel (zfld d 3) y m),aj2 (zfld d 4),λn o=>anx (g.2 n o) (zel (zfld d 4) n o)⟩
theorem bf9 {x:PV} (g:GI x) (d:aaj x<=1048576):OkItem x:=⟨zstr (zfld d 0),aj2 (zfld d 2),λn m=>anx (g n m) (zel (zfld d 2) n m)⟩
theorem bf6 {x:PV} (g:GE x) (d:aaj x<=1048576):OkEnum x:=
 ⟨zstr (zfld d 0),aj2 (zfld d 2),λy o=>bf9 (g.1 y o) (zel (zfld d 2) y o),aj2 (zfld d 3),aj2 (zfld d 4),λn m=>anx (g.2 n m) (zel (zfld d 4) n m)⟩
theorem bga {x:PV} (g:GP x) (d:aaj x<=1048576):OkMeth x:=⟨zstr (zfld d 0),zstr (zfld d 1),zstr (zfld d 2),aj2 (zfld d 4),λn m=>anx (g n m) (zel (zfld d 4) n m)⟩
theorem bk5 {x:PV} (g:GS x) (d:aaj x<=1048576):OkSvc x:=
 ⟨zstr (zfld d 0),aj2 (zfld d 1),λy o=>bga (g.1 y o) (zel (zfld d 1) y o),aj2 (zfld d 2),λn m=>anx (g.2 n m) (zel (zfld d 2) n m)⟩
theorem be2 (i:Nat):∀ l:List PV,aen l i<=2*aah l:=by
 intro l;induction l with
 | nil=>exact Nat.le_refl _
 | cons m r z=>have d:=aj2 (zfld (Nat.le_refl (aaj m)) i);have o:=anb m;show (m.fld i).asList.length+1+aen r i<=2*(aaj m+aah r);omega
theorem bf8 {f:PV} (o:∀ x,x∈(f.fld 3).asList->GM x) (z:∀ x,x∈(f.fld 4).asList->GE x) (H:∀ x,x∈(f.fld 5).asList->GS x) (d:aaj f<=1048576):OkFile f:=by refine ⟨zstr (zfld d 1),aj2 (zfld d 2),λy m=>zstr (zel (zfld d 2) y m),aj2 (zfld d 3),λy m=>bk2 (o y m) (zel (zfld d 3) y m),aj2 (zfld d 4),λy m=>bf6 (z y m) (zel (zfld d 4) y m),aj2 (zfld d 5),λy m=>bk5 (H y m) (zel (zfld d 5) y m),?_⟩;have M:=be2 1 (f.fld 3).asList;have O:=be2 2 (f.fld 4).asList;have U:=be2 1 (f.fld 5).asList;have V:=bsub d 3;have W:=bsub d 4;have X:=bsub d 5;omega
theorem aej {eq:PV->PV->Bool}{g:PV->PV}:∀ l:List PV,(∀ x,x∈l->eq x (g x)=true)->eqL eq l (l.map g)=true:=by
 intro l;induction l with
 | nil=>intro _;rfl
 | cons x l m=>intro h;rw [Be,eqL,h x (by simp),m λy d=>h y (by simp [d])];rfl
theorem aj6 (l:List PV):eqL acy l (af8 l)=true:=aej l λx _=>a1q x
theorem bnt {x:PV} (g:RowGood x):ast x (alg x)=true:=by
 have o:vEq (x.fld 7) (ayn x)=true:=by
  unfold ayn;cases m:(x.fld 6).asBool with
  | true=>exact a5o (x.fld 7)
  | false=>have d:=g.right;unfold am1 at d;rw [m] at d;have d:isV 0 0 [] (x.fld 7)=true:=d;unfold isV at d;simp only [Ag,Bh] at d;exact bi3 ⟨d.1.1.1,d.1.1.2,d.1.2⟩
 have z:=aj6 (x.fld 8).asList;unfold ast;show (_&&vEq (x.fld 7) (ayn x)&&eqL acy (x.fld 8).asList (af8 (x.fld 8).asList))=true;rw [o,z,Bool.and_true,Bool.and_true];show (((x.fld 0).asInt==(x.fld 0).asInt)&&((x.fld 1).asStr==(x.fld 1).asStr)&&((x.fld 2).asInt==(x.fld 2).asInt)&&((x.fld 3).asInt==(x.fld 3).asInt)&&tEq (x.fld 4) (x.fld 4)&&((x.fld 5).asStr==(x.fld 5).asStr)&&((x.fld 6).asBool==(x.fld 6).asBool))=true;rw [bip];simp
theorem bnu {x:PV} (g:MsgGood x):arl x (ayo x)=true:=by have d:=aej (eq:=ast) (g:=alg) (x.fld 1).asList λy H=>bnt (g.rows y H);have m:=aej (eq:=ahi) (g:=amq) (x.fld 2).asList λy _=>ar9 y;have o:=aej (eq:=aod) (g:=apg) (x.fld 3).asList λy _=>aue y;have z:=aj6 (x.fld 4).asList;unfold arl;show (((x.fld 0).asStr==(x.fld 0).asStr)&&eqL ast (x.fld 1).asList ((x.fld 1).asList.map alg)&&eqL ahi (x.fld 2).asList ((x.fld 2).asList.map amq)&&eqL aod (x.fld 3).asList ((x.fld 3).asList.map apg)&&eqL acy (x.fld 4).asList (af8 (x.fld 4).asList))=true;rw [d,m,o,z];simp
theorem bku (x:PV):ama x (a1o x)=true:=by have h:=aj6 (x.fld 2).asList;unfold ama;show (((x.fld 0).asStr==(x.fld 0).asStr)&&((x.fld 1).asInt==(x.fld 1).asInt)&&eqL acy (x.fld 2).asList (af8 (x.fld 2).asList))=true;rw [h];simp
theorem bks (x:PV):ai1 x (a1n x)=true:=by have d:=aej (eq:=ama) (g:=a1o) (x.fld 2).asList λy _=>bku y;have m:=aej (eq:=ahi) (g:=amq) (x.fld 3).asList λy _=>ar9 y;have o:=aj6 (x.fld 4).asList;unfold ai1;show (((x.fld 0).asStr==(x.fld 0).asStr)&&((x.fld 1).asBool==(x.fld 1).asBool)&&eqL ahi (x.fld 3).asList ((x.fld 3).asList.map amq)&&eqL acy (x.fld 4).asList (af8 (x.fld 4).asList)&&eqL ama (x.fld 2).asList ((x.fld 2).asList.map a1o))=true;rw [d,m,o];simp
theorem bkv (x:PV):amm x (a8e x)=true:=by have h:=aj6 (x.fld 4).asList;unfold amm;show (((x.fld 0).asStr==(x.fld 0).asStr)&&((x.fld 1).asStr==(x.fld 1).asStr)&&((x.fld 2).asStr==(x.fld 2).asStr)&&((x.fld 3).asInt==(x.fld 3).asInt)&&eqL acy (x.fld 4).asList (af8 (x.fld 4).asList))=true;rw [h];simp
theorem bnv (x:PV):as5 x (aru x)=true:=by have d:=aej (eq:=amm) (g:=a8e) (x.fld 1).asList λy _=>bkv y;have m:=aj6 (x.fld 2).asList;unfold as5;show (((x.fld 0).asStr==(x.fld 0).asStr)&&eqL acy (x.fld 2).asList (af8 (x.fld 2).asList)&&eqL amm (x.fld 1).asList ((x.fld 1).asList.map a8e))=true;rw [d,m];simp
theorem bkt {f:PV} (g:FileGood f) (d:Bo):a3t f (ap3 d f)=true:=by have m:=aej (eq:=aod) (g:=apg) (f.fld 2).asList λy _=>aue y;have o:=aej (eq:=arl) (g:=ayo) (f.fld 3).asList λy M=>bnu (g.msg y M);have z:=aej (eq:=ai1) (g:=a1n) (f.fld 4).asList λy _=>bks y;have H:=aej (eq:=as5) (g:=aru) (f.fld 5).asList λy _=>bnv y;unfold a3t;show (((f.fld 1).asStr==(f.fld 1).asStr)&&eqL aod (f.fld 2).asList ((f.fld 2).asList.map apg)&&eqL arl (f.fld 3).asList ((f.fld 3).asList.map ayo)&&eqL ai1 (f.fld 4).asList ((f.fld 4).asList.map a1n)&&eqL as5 (f.fld 5).asList ((f.fld 5).asList.map aru))=true;rw [m,o,z,H];simp
theorem bpm:∀ l:List (Tk×Nat),(∀ p,p∈l->WfTk p.1)->wT (l.map (·.1))<=330*l.length+sumW l:=by
 intro l;induction l with
 | nil=>intro _;exact Nat.le_refl _
 | cons p l z=>
  intro h;have:=z λq o=>h q (by simp [o]);have H:p.1.s.length<=(wrT p.1).length:=by
   unfold wrT;rcases h p (by simp) with ⟨d,_⟩ | ⟨d,m,_⟩ | ⟨d,_⟩ | ⟨d,_⟩
   ·rw [d];exact Nat.le_refl _
   ·rw [m];exact Nat.zero_le _
   ·rw [d];exact amx _
   ·rw [d];exact Nat.le_refl _
  rw [Be,awt];simp only [sumW,Be,List.sum_cons,Ak] at this ⊢;omega
theorem bdb (d:Bo):F13 0 d=some true:=by
 unfold F13;by_cases h1:d.length>3000
 ·rw [Aj (show (d.length:Int)>3000 by omega)];rfl
 rw [Al (show ¬(d.length:Int)>3000 by omega)];have o:=bhk ([102]:Bo) d (by omega);obtain ⟨Y,Z⟩:=a42 (d.length+1) 1 d (by omega);cases h:ajp (d.length+1) 1 d with
 | inr p=>obtain ⟨n,e⟩:=p;have W:=(Z n e h).1;rw [h] at o;have o:F15 0 [102] d=some (aqa,(n:Int),e):=o;simp only [Ae,o,Aa,bneI W,Ad,ahp];rfl
 | inl l=>
  obtain ⟨q1,U⟩:=Y l h;have X:=bdt _ _ d (by omega) l h;rw [h] at o;have o:F15 0 [102] d=some (avc [102] (l.map vTk)):=o;have ht:=bj0 (n:=d.length) (by omega) q1 λp m=>⟨(U p m).1,(U p m).2.1⟩;rcases a7a bl8 [102] l ht (by omega) with ⟨v,r,O,ab⟩ | ⟨r,e,O,W,aa⟩
  ·have V:avc [102] (l.map vTk)=(v,0,0):=by unfold avc;rw [ts_v,O]
   have hs:SmT (l.map (·.1)):=λk hk=>by obtain ⟨p,m,rfl⟩:=List.mem_map.1 hk;have:=(U p m).2.1;omega
   have hw:=bpm l λp m=>(U p m).1;obtain ⟨g3,g4,g5,M⟩:=bnx hs O;have M:aaj v<=1048576:=by simp only [Ak,Ap] at M;omega
   have ok:=bf8 g3 g4 g5 M;rw [V] at o;simp only [Ae,o,Aa,show ((0:Int) != 0)=false from rfl,bjg v ok];by_cases z:chkF v=0
   ·have m:=bhn v ok;have hq:=boz ([102]:Bo) ok z;have H:=bhu v (ap3 [102] v) M;rw [bkt (ax2 ok z)] at H;rw [z] at m;have m:F41 0 v=some (ald v):=m;simp only [z,m,hq,Aa,H,show ((0:Int) != 0)=false from rfl,Ae,Bk,Ad,ahp];rfl
   ·simp only [bneI z,Ad,ahp,Aa];simp [bneI z]
  ·have V:avc [102] (l.map vTk)=(aqa,bjq (l.map vTk) ((l.map vTk).length-r.length),e):=by unfold avc;rw [ts_v,O]
   rw [V] at o;simp only [Ae,o,Aa,bneI W,Ad,ahp];rfl
end
end Go.Ab
