/- append. -/
import Derived.Test.YtofplaamkkpciaaGreatDoorAbIter
set_option linter.unusedVariables false
set_option linter.unusedSimpArgs false
set_option linter.unnecessarySimpa false
namespace Go.Ab
open Go
section
variable{Γ:Ctx}{D:Dom}{ow:Own}{μ:Nat->Nat}{st:List BX}{w:World}
theorem WRel.setAcc(hw:WRel Γ D ow μ st w){k gb:Nat}{st':List BX}(M:(k=st.length/\st'=st++[.acc 0])\/(∃g,st[k]?=some (.acc g)/\st'=st.set k (.acc (g+1)))){w':World}{D':Dom}
 (G:(w.heap.size<=gb/\gb<w'.heap.size)\/ow gb=some k) (m:∀b,b<w.heap.size->b≠gb->w'.heap[b]?=w.heap[b]?) (O:w.heap.size<=w'.heap.size)
 (I:w'.os=w.os) (U:w'.tape=w.tape) (J:w'.output=w.output) (Y:∀b o,D b o->D' b o) (Z:∀b o,D' b o->D b o\/b=gb) (H:Keeps D w w'):
 WRel Γ D' (upd ow gb (some k)) μ st' w'/\Moves D w ow μ st D' w' (upd ow gb (some k)) μ st':=by
 obtain⟨t,V,W⟩:∃t,st'[k]?=some (.acc t)/\∀x,st[k]?=some x->∃g,x=.acc g/\g<t:=by
  rcases M with⟨rfl,rfl⟩|⟨g,z,rfl⟩
  ·exact⟨0,by simp,λx e=>by simp at e⟩
  ·exact⟨g+1,by rw[List.getElem?_set_self (A6.1 z).1],λx e=>by rw[z]at e;cases e;exact⟨g,rfl,by omega⟩⟩
 refine hw.turnO k gb (.acc t) V (λj hj=>by grind) (by grind) (λx e=>?_) (λ_ _=>rfl) Y H G m (λb o d=>(Z b o d).imp id λe=>⟨e,t,rfl⟩) (λb _ z=>absurd rfl (z t)) O I U J λ_=>trivial
 obtain⟨g,rfl,X⟩:=W x e
 exact⟨rfl,t,rfl,X⟩
theorem WRel.growArr(M:WRel Γ D ow μ st w){k g gb:Nat}{G:TypeId}{xs xs':List PV}(O:st[k]?=some (.arr G g xs)){w':World}{t:Array Value}
 (J:(w.heap.size<=gb/\gb<w'.heap.size)\/ow gb=some k) (z:∀b,b<w.heap.size->b≠gb->w'.heap[b]?=w.heap[b]?) (Y:w.heap.size<=w'.heap.size)
 (W:w'.os=w.os) (Z:w'.tape=w.tape) (X:w'.output=w.output) (hh:w'.heap[gb]?=some (.cells t G (0,0))) (U:xs'.length*Γ.P.cellsOf G<=t.size)
 (hr:∀(i:Nat)(x:PV),xs'[i]?=some x->Rep Γ.P D w G x ((t.toList.drop (i*Γ.P.cellsOf G)).take (Γ.P.cellsOf G))):
 (st.set k (.arr G (g+1) xs'))[k]?=some (.arr G (g+1) xs')/\WRel Γ D (upd ow gb (some k)) (upd μ k gb) (st.set k (.arr G (g+1) xs')) w'/\Moves D w ow μ st D w' (upd ow gb (some k)) (upd μ k gb) (st.set k (.arr G (g+1) xs')):=by
 have V:=(A6.1 O).1
 have H:∀o,¬D gb o:=by
  intro o d;rcases J with h|h
  ·have:=M.dlt _ _ d;omega
  ·exact M.lone gb k _ h O (by simp) o d
 have I:(st.set k (.arr G (g+1) xs'))[k]?=some (.arr G (g+1) xs'):=by rw[List.getElem?_set_self V]
 refine⟨I,M.turnO k gb (.arr G (g+1) xs') I (λj hj=>Ay (by omega)) (by simp) (λx e=>?_) (λj hj=>abu _ _ hj) (λ_ _ d=>d) (Keeps.of_heap λb o d=>z b (M.dlt b o d) λe=>H o (e▸d)) J z (λb o d=>Or.inl d) (λb ob _=>M.lone b k _ ob O (by simp)) Y W Z X λm=>
  Or.inr ⟨t,by rw[aaf];exact hh,by rw[aaf,aaf],by rw[aaf];exact H,U,λi x hx=>(hr i x hx).mono m.dom m.keeps⟩⟩
 rw[O]at e;cases e
 exact⟨_,_,rfl,by omega,λh=>by omega⟩
theorem WRel.arrBump(t:WRel Γ D ow μ st w){k g:Nat}{m:TypeId}{xs:List PV}(o:st[k]?=some (.arr m g xs)):
 (st.set k (.arr m (g+1) xs))[k]?=some (.arr m (g+1) xs)/\WRel Γ D ow μ (st.set k (.arr m (g+1) xs)) w/\Moves D w ow μ st D w ow μ (st.set k (.arr m (g+1) xs)):=
 ⟨by rw[List.getElem?_set_self (A6.1 o).1],t.setB (.arr m (g+1) xs) o ⟨_,_,rfl,by omega,λh=>by omega⟩ (Or.inl rfl) (λ_ _=>rfl) rfl rfl rfl rfl λ_=>t.obj k _ o⟩
theorem WRel.arrCut(H:WRel Γ D ow μ st w){k g:Nat}{m:TypeId}{xs:List PV}{n:Nat}(z:st[k]?=some (.arr m g xs)):
 (st.set k (.arr m (g+1) (xs.take n)))[k]?=some (.arr m (g+1) (xs.take n))/\WRel Γ D ow μ (st.set k (.arr m (g+1) (xs.take n))) w/\Moves D w ow μ st D w ow μ (st.set k (.arr m (g+1) (xs.take n))):=by
 refine⟨by rw[List.getElem?_set_self (A6.1 z).1],H.setB (.arr m (g+1) (xs.take n)) z ⟨_,_,rfl,by omega,λh=>by omega⟩ (Or.inl rfl) (λ_ _=>rfl) rfl rfl rfl rfl λ_=>?_⟩
 rcases(H.obj k _ z:a2a Γ.P D w ow μ k m xs)with I|⟨o,J,M,O,U,V⟩
 ·subst I;exact Or.inl (by simp)
 ·refine Or.inr ⟨o,J,M,O,Nat.le_trans (Au _ (by simp;omega)) U,λi x t=>?_⟩;have G:=(A6.1 t).1;rw[List.getElem?_take_of_lt (by simp at G;omega)]at t;exact V i x t
theorem ai3{E:TypeId}{xs ys:List PV}{m t:List Value}(I:m.length=xs.length*Γ.P.cellsOf E)(J:t.length=ys.length*Γ.P.cellsOf E)
 (G:∀(i:Nat)(x:PV),xs[i]?=some x->Rep Γ.P D w E x ((m.drop (i*Γ.P.cellsOf E)).take (Γ.P.cellsOf E)))
 (H:∀(i:Nat)(x:PV),ys[i]?=some x->Rep Γ.P D w E x ((t.drop (i*Γ.P.cellsOf E)).take (Γ.P.cellsOf E))):
 ∀(i:Nat)(x:PV),(xs++ys)[i]?=some x->Rep Γ.P D w E x (((m++t).drop (i*Γ.P.cellsOf E)).take (Γ.P.cellsOf E)):=by
 intro i x o
 by_cases h:i<xs.length
 ·rw[A1 h]at o;have:=G i x o;have z:(i+1)*Γ.P.cellsOf E<=xs.length*Γ.P.cellsOf E:=Au _ (by omega);rw[Nat.add_mul]at z;rw[List.drop_append_of_le_length (by omega),List.take_append_of_le_length (by rw[Bj];omega)];exact this
 ·rw[A4 (by omega)]at o;have:=H _ x o;have z:xs.length*Γ.P.cellsOf E<=i*Γ.P.cellsOf E:=Au _ (by omega);have e:i*Γ.P.cellsOf E=m.length+(i-xs.length)*Γ.P.cellsOf E:=by rw[Nat.sub_mul];omega
  rw[e,List.drop_append,Ba (by omega),Aw,Nat.add_sub_cancel_left];exact this
theorem amg{E:TypeId}{ys:List PV}{o:List Value}(I:o.length=ys.length*Γ.P.cellsOf E)(m:0<Γ.P.cellsOf E)
 (H:∀(i:Nat)(x:PV),ys[i]?=some x->Rep Γ.P D w E x ((o.drop (i*Γ.P.cellsOf E)).take (Γ.P.cellsOf E))):∀c,c∈o->c.oneCell'=true:=by
 intro c z
 obtain⟨j,G,rfl⟩:=List.mem_iff_getElem.1 z
 have t:j / Γ.P.cellsOf E<ys.length:=by rw[Nat.div_lt_iff_lt_mul m];omega
 refine(H _ _ (Ap t)).oneCell _ (List.mem_iff_getElem?.2 ⟨j%Γ.P.cellsOf E,?_⟩)
 rw[List.getElem?_take_of_lt (Nat.mod_lt _ m),List.getElem?_drop]
 have:=Nat.div_add_mod j (Γ.P.cellsOf E)
 rw[Nat.mul_comm]at this
 rw[this,Ap G]
theorem aua(hw:WRel Γ D ow μ st w){k gb:Nat}{st':List BX}(aa:(k=st.length/\st'=st++[.acc 0])\/(∃g,st[k]?=some (.acc g)/\st'=st.set k (.acc (g+1)))){w':World}
 (U:(w.heap.size<=gb/\gb<w'.heap.size)\/ow gb=some k) (z:∀b,b<w.heap.size->b≠gb->w'.heap[b]?=w.heap[b]?) (ab:w.heap.size<=w'.heap.size)
 (Y:w'.os=w.os) (ad:w'.tape=w.tape) (Z:w'.output=w.output) (W:Keeps D w w')
 {E:TypeId}{zs:List PV}{L:List Value}{m:Array Value}{cap off:Nat} (hL:L.length=zs.length*Γ.P.cellsOf E) (t:w'.heap[gb]?=some (.cells m E (0,0))) (I:(m.toList.drop off).take L.length=L) (G:zs.length<=cap) (J:cap<=maxLen) (M:m.size=off+cap*Γ.P.cellsOf E)
 (H:∀o,off+zs.length*Γ.P.cellsOf E<=o->¬D gb o)
 (hr:∀(i:Nat)(x:PV),zs[i]?=some x->Rep Γ.P D w E x ((L.drop (i*Γ.P.cellsOf E)).take (Γ.P.cellsOf E))) (g1:Nat) (O:st'[k]?=some (.acc g1)):
 OpRes Γ D ow μ st w (.ok (.value (.slice (some ⟨gb,off,none⟩) zs.length cap)) w') (.acc k g1 E zs) st':=by
 obtain⟨u1,u2⟩:=hw.setAcc aa (D':=λb o=>D b o\/(b=gb/\o<off+L.length)) U z ab Y ad Z (λb o d=>Or.inl d) (λb o d=>d.imp id (λh=>h.1)) W
 refine⟨_,_,_,_,_,Or.inl rfl,u1,u2,.acc ?_ O (Nat.le_refl _) (λ_=>Or.inr ⟨gb,off,cap,m,rfl,t,G,J,M,aaf _ _ _,λo ho d=>?_⟩)⟩
 ·refine .mk G hL (λi x hx=>(hr i x hx).mono u2.dom u2.keeps) (λj v V=>?_);have X:=(A6.1 V).1;refine⟨Or.inr ⟨rfl,by omega⟩,?_⟩;have:m.toList[off+j]?=some v:=by
   rw[<-I,List.getElem?_take_of_lt X,List.getElem?_drop]at V;exact V
  simp only[World.cell?,t];simpa using this
 ·rcases d with d|d
  ·exact H o ho d
  ·omega
theorem aoo{P:Program}(w:World)(t ty e:TypeId)(i:TypeInfo)(Z:P.underlying t=some (.slice e))(X:P.info? e=some i)
 (g off z H:Nat) (G:Array Value) (W:w.heap[g]?=some (.cells G e (0,0)))
 (a:Addr) (m c:Nat) (o:List Value) (Y:o.length=m*i.size) (I:∀j u,o[j]?=some u->w.cell? (a.add j)=some u) (U:∀u∈o,u.oneCell'=true)
 (J:z+m<=H) (M:off+z*i.size+o.length<=G.size):
 (Builtin.append_ #[t,t] ty #[.slice (some ⟨g,off,none⟩) z H,.slice (some a) m c]).run P w=
  .ok (.slice (some ⟨g,off,none⟩) (z+m) H) (w.setRow g (G.toList.take (off+z*i.size)++o++G.toList.drop (off+z*i.size+o.length)).toArray):=by
 have V:=run_firstCells_some (P:=P) w i.size m a m c o Y I
 have O:=run_storeCells_at P g (off+z*i.size) e o 0 G w W (by simpa using M) U
 simp only[Nat.add_zero]at O
 simp[Builtin.append_,run_underlying Z,sizeOf,typeInfo,X,Builtin.lenOf,J,V,Addr.add_lit,O]
theorem abl{P:Program}(w:World)(t O e:TypeId)(i:TypeInfo)(I:P.underlying t=some (.slice e))(G:P.info? e=some i)(a:Option Addr)(n c:Nat)(M:n<=c)(v:Value)
 (J:v=.slice none 0 0\/∃b o,v=.slice (some b) 0 o) (m:a=none->n=0/\c=0):(Builtin.append_ #[t,t] O #[.slice a n c,v]).run P w=.ok (.slice a n c) w:=by
 have z:∀u,(Builtin.firstCells i.size 0 v).run P u=.ok #[] u:=by
  intro u;rcases J with rfl|⟨b,o,rfl⟩
  ·simp[Builtin.firstCells]
  ·simp[Builtin.firstCells,loadCells,loadCellsFrom]
 have H:∀u,(Builtin.lenOf v).run P u=.ok 0 u:=by intro u;rcases J with rfl|⟨b,o,rfl⟩<;>simp[Builtin.lenOf]
 cases a with
 |none=>
  obtain⟨rfl,rfl⟩:=m rfl
  simp[Builtin.append_,run_underlying I,sizeOf,typeInfo,G,H,z]
 |some b=>simp[Builtin.append_,run_underlying I,sizeOf,typeInfo,G,H,z,M,storeCells]
end
end Go.Ab
namespace Go.Ab
open Go
section
variable{Γ:Ctx}{D:Dom}{ow:Own}{μ:Nat->Nat}{st:List BX}{w:World}
theorem WRel.accNil(m:WRel Γ D ow μ st w):WRel Γ D ow μ (st++[.acc 0]) w/\Moves D w ow μ st D w ow μ (st++[.acc 0]):=m.push (.acc 0) trivial
theorem WRel.accBump(o:WRel Γ D ow μ st w){k g:Nat}(m:st[k]?=some (.acc g)):WRel Γ D ow μ (st.set k (.acc (g+1))) w/\Moves D w ow μ st D w ow μ (st.set k (.acc (g+1))):=
 o.setB (.acc (g+1)) m ⟨rfl,_,rfl,by omega⟩ (Or.inl rfl) (λ_ _=>rfl) rfl rfl rfl rfl λ_=>trivial
theorem aja(J:WRel Γ D ow μ st w){k:Nat}{st':List BX}(I:(k=st.length/\st'=st++[.acc 0])\/(∃g,st[k]?=some (.acc g)/\st'=st.set k (.acc (g+1))))(G:Nat)(H:st'[k]?=some (.acc G))
 {E:TypeId}{z:Value} (W:z.cells.size=Γ.P.cellsOf E) {zs:List PV}{L:List Value}{n cap:Nat} (U:n=zs.length) (M:L.length=zs.length*Γ.P.cellsOf E) (m:zs.length<=cap) (t:cap<=maxLen)
 (V:∀(i:Nat)(x:PV),zs[i]?=some x->Rep Γ.P D w E x ((L.drop (i*Γ.P.cellsOf E)).take (Γ.P.cellsOf E))):
 OpRes Γ D ow μ st w (.ok (.value (.slice (some ⟨w.heap.size,0,none⟩) n cap)) (w.drew.alloc (.cells (L.toArray++Builtin.zeroCells z.cells (cap-n)) E))) (.acc k G E zs) st':=by
 subst U
 refine aua J I (w':=w.drew.alloc (.cells (L.toArray++Builtin.zeroCells z.cells (cap-zs.length)) E)) (gb:=w.heap.size) (Or.inl ⟨Nat.le_refl _,by simp⟩) (λb O _=>abc w.drew _ b O) (by simp) rfl rfl rfl
  (Keeps.of_heap λb o d=>abc w.drew _ b (J.dlt b o d)) M (aaw w.drew _) ?_ m t ?_ (λo _ d=>by have:=J.dlt _ _ d;omega) V G H
 ·simp
 ·simp only[Array.size_append,List.size_toArray,size_zeroCells,W,M,<-Nat.add_mul,Nat.zero_add];simp[*]
theorem as4(hw:WRel Γ D ow μ st w)(T ty E:TypeId){G:TypeInfo}{z:Value}(hT:Γ.P.underlying T=some (.slice E))(hi:Γ.P.info? E=some G)(ag:G.zero=some z)(aj:G.size=Γ.P.cellsOf E)(an:z.cells.size=Γ.P.cellsOf E)(av:0<Γ.P.cellsOf E)
 (O:∀n,n<=accMax->n*G.bytes<=140737488355328) {k g:Nat}{xs ys:List PV} (hk:st[k]?=some (.arr E g xs)) {xv yv:Value} (hx:SRep Γ.P D w ow μ st (.arr k g E) xv)
 (W:(ys=[]/\(yv=.slice none 0 0\/∃b c',yv=.slice (some b) 0 c'))\/
  ∃(b off cap:Nat)(L:List Value),yv=.slice (some ⟨b,off,none⟩) ys.length cap/\0<ys.length/\L.length=ys.length*Γ.P.cellsOf E/\(∀(i:Nat)(x:PV),ys[i]?=some x->Rep Γ.P D w E x ((L.drop (i*Γ.P.cellsOf E)).take (Γ.P.cellsOf E)))/\
   (∀j u,L[j]?=some u->w.cell? ((⟨b,off,none⟩:Addr).add j)=some u)) (hb:xs.length+ys.length<=accMax):
 ∃u w',(Builtin.append_ #[T,T] ty #[xv,yv]).run Γ.P w=.ok u w'/\OpRes Γ D ow μ st w (.ok (.value u) w') (.arr k (g+1) E) (st.set k (.arr E (g+1) (xs++ys))):=by
 have I:(xs++ys).length=xs.length+ys.length:=by simp
 have aA:xs.length+ys.length<=maxLen:=by grind[accMax,maxLen]
 cases hx with
 |arrOld M aC=>grind
 |@arrNil _ _ _ a M=>
  rw[hk]at M;cases M
  simp only[Aw,Am,Nat.zero_add]at*
  rcases W with⟨rfl,hv⟩|⟨b,off,cap,L,rfl,ae,hL,X,t⟩
  ·obtain⟨Z,u1,u2⟩:=hw.arrBump hk;refine⟨.slice a 0 0,w,abl w T ty E G hT hi a 0 0 (by omega) yv hv (λ_=>⟨rfl,rfl⟩),?_⟩;exact⟨_,_,_,_,_,Or.inl rfl,u1,u2,.arrNil Z⟩
  ·have ao:ys.length*G.bytes<=281474976710656:=by grind
   have fin:∀o,ys.length<=o->o<=maxLen->OpRes Γ D ow μ st w (.ok (.value (.slice (some ⟨w.heap.size,0,none⟩) ys.length o)) (w.drew.alloc (.cells (L.toArray++Builtin.zeroCells z.cells (o - ys.length)) E))) (.arr k (g+1) E) (st.set k (.arr E (g+1) ys)):=by
    intro o af ah;have U:(L.toArray++Builtin.zeroCells z.cells (o - ys.length)).size=o*Γ.P.cellsOf E:=by simp only[Array.size_append,List.size_toArray,size_zeroCells,an,hL,<-Nat.add_mul];simp[*]
    have V:∀(i:Nat)(x:PV),ys[i]?=some x->Rep Γ.P D w E x (((L.toArray++Builtin.zeroCells z.cells (o - ys.length)).toList.drop (i*Γ.P.cellsOf E)).take (Γ.P.cellsOf E)):=by intro i x hx;have h2:(i+1)*Γ.P.cellsOf E<=ys.length*Γ.P.cellsOf E:=Au _ (by grind);grind
    obtain⟨Z,u1,u2⟩:=hw.growArr (gb:=w.heap.size) (xs':=ys) hk (w':=w.drew.alloc (.cells (L.toArray++Builtin.zeroCells z.cells (o - ys.length)) E)) (Or.inl ⟨Nat.le_refl _,by simp⟩) (λb hb _=>abc w.drew _ b hb) (by simp) rfl rfl rfl (aaw w.drew _) (by grind) V;refine⟨_,_,_,_,_,Or.inl rfl,u1,u2,?_⟩;have:=SRep.arr (P:=Γ.P) (D:=D) (w:=w.drew.alloc (.cells (L.toArray++Builtin.zeroCells z.cells (o - ys.length)) E)) (ow:=upd ow w.heap.size (some k)) (μ:=upd μ k w.heap.size) (cap:=o) Z af ah (by rw[aaf];exact aaw w.drew _) (by rw[aaf,aaf]) U.symm;grind[aaf]
   cases a with
   |none=>have hr:=run_append_nil (P:=Γ.P) w T ty E G z hT hi ag ⟨b,off,none⟩ ys.length cap L (by grind) t ae (by grind[accMax]) ao;grind[grownCap_ge,grownCap_le_maxLen]
   |some a=>have hr:=run_append_grow (P:=Γ.P) w T ty E G z hT hi ag a 0 0 [] (by simp) (λj u hj=>by simp at hj) ⟨b,off,none⟩ ys.length cap L (by grind) t (by omega) (by grind[accMax]) (growslice_fits (by omega) (O _ (by omega)));simp only[Nat.zero_add]at hr;grind[grownCap_ge,grownCap_le_maxLen]
 |@arr _ _ J _ aD m M aa ad H ak U=>
  rw[hk]at M;cases M
  have az:xs.length*Γ.P.cellsOf E<=m.size/\∀(i:Nat)(x:PV),xs[i]?=some x->Rep Γ.P D w E x ((m.toList.drop (i*Γ.P.cellsOf E)).take (Γ.P.cellsOf E)):=by rcases hw.obj k _ hk with h0|⟨ax,q1,q2,q3,q4,q5⟩;all_goals simp_all
  rcases W with⟨rfl,hv⟩|⟨b,off,cap,L,rfl,ae,hL,X,t⟩
  ·obtain⟨Z,u1,u2⟩:=hw.arrBump hk;refine⟨_,w,abl w T ty E G hT hi _ _ _ aa yv hv (λh=>by cases h),?_⟩;rw[List.append_nil];exact⟨_,_,_,_,_,Or.inl rfl,u1,u2,.arr Z aa ad H ak U⟩
  ·have aq:(m.toList.take (xs.length*Γ.P.cellsOf E)).length=xs.length*Γ.P.cellsOf E:=by simp;omega
   have aw:∀(i:Nat)(x:PV),xs[i]?=some x->Rep Γ.P D w E x (((m.toList.take (xs.length*Γ.P.cellsOf E)).drop (i*Γ.P.cellsOf E)).take (Γ.P.cellsOf E)):=by intro i x hi;have h2:(i+1)*Γ.P.cellsOf E<=xs.length*Γ.P.cellsOf E:=Au _ (by grind);grind[Nat.add_mul,List.drop_take,Nat.min_eq_left]
   have ay:=ai3 aq hL aw X;have au:∀j u,(m.toList.take (xs.length*Γ.P.cellsOf E))[j]?=some u->w.cell? ((⟨μ k,0,none⟩:Addr).add j)=some u:=by simp_all[A6,List.getElem?_take_of_lt,abv,Nat.zero_add,World.cell?]
   by_cases Y:xs.length+ys.length<=J
   ·have ab:xs.length*G.size+L.length<=m.size:=by rw[aj,hL,<-U,<-Nat.add_mul];exact Au _ Y
    have hr:=run_append_room (P:=Γ.P) w T ty E G hT hi (μ k) xs.length J m H ⟨b,off,none⟩ ys.length cap L (by grind) t (amg hL av X) Y ab;refine⟨_,_,hr,?_⟩;rw[aj]at ab ⊢;have al:(w.setRow (μ k) (m.toList.take (xs.length*Γ.P.cellsOf E)++L++m.toList.drop (xs.length*Γ.P.cellsOf E+L.length)).toArray).heap[μ k]?=some (.cells (m.toList.take (xs.length*Γ.P.cellsOf E)++L++m.toList.drop (xs.length*Γ.P.cellsOf E+L.length)).toArray E (0,0)):=setRow_heap w (μ k) m _ E _ H;have am:(m.toList.take (xs.length*Γ.P.cellsOf E)++L++m.toList.drop (xs.length*Γ.P.cellsOf E+L.length)).toArray.size=m.size:=by simp;omega
    have V:∀(i:Nat)(x:PV),(xs++ys)[i]?=some x->Rep Γ.P D w E x (((m.toList.take (xs.length*Γ.P.cellsOf E)++L++m.toList.drop (xs.length*Γ.P.cellsOf E+L.length)).toArray.toList.drop (i*Γ.P.cellsOf E)).take (Γ.P.cellsOf E)):=by intro i x hx;have h2:(i+1)*Γ.P.cellsOf E<=(xs++ys).length*Γ.P.cellsOf E:=Au _ (by grind);rw[Nat.add_mul,I,Nat.add_mul]at h2;grind
    obtain⟨Z,u1,u2⟩:=hw.growArr (gb:=μ k) (xs':=xs++ys) hk (Or.inr ak) (λb' _ ar=>setRow_other w (μ k) b' _ ar) (by simp) rfl rfl rfl al (by rw[am,I,<-U];grind) V;refine⟨_,_,_,_,_,Or.inl rfl,u1,u2,?_⟩;rw[<-I];have:=SRep.arr (P:=Γ.P) (D:=D) (ow:=upd ow (μ k) (some k)) (μ:=upd μ k (μ k)) (cap:=J) Z (by grind) ad (by rw[aaf];exact al) (by rw[aaf,aaf]) (by grind);grind[aaf]
   ·have hr:=run_append_grow (P:=Γ.P) w T ty E G z hT hi ag ⟨μ k,0,none⟩ xs.length J _ (by grind) au ⟨b,off,none⟩ ys.length cap L (by grind) t (by omega) (by grind[accMax]) (growslice_fits (by omega) (O _ hb));refine⟨_,_,hr,?_⟩;rw[show(m.toList.take (xs.length*Γ.P.cellsOf E)).toArray++L.toArray=(m.toList.take (xs.length*Γ.P.cellsOf E)++L).toArray by simp];generalize aB:grownCap _ _ _ _=gc;have af:(xs++ys).length<=gc:=by grind[grownCap_ge]
    have ah:gc<=maxLen:=by grind[grownCap_le_maxLen]
    rw[<-I];have ap:(m.toList.take (xs.length*Γ.P.cellsOf E)++L).length=(xs++ys).length*Γ.P.cellsOf E:=by grind
    have ai:((m.toList.take (xs.length*Γ.P.cellsOf E)++L).toArray++Builtin.zeroCells z.cells (gc-(xs++ys).length)).size=gc*Γ.P.cellsOf E:=by simp only[Array.size_append,List.size_toArray,size_zeroCells,an,ap,<-Nat.add_mul];simp_all
    have V:∀(i:Nat)(x:PV),(xs++ys)[i]?=some x->Rep Γ.P D w E x ((((m.toList.take (xs.length*Γ.P.cellsOf E)++L).toArray++Builtin.zeroCells z.cells (gc-(xs++ys).length)).toList.drop (i*Γ.P.cellsOf E)).take (Γ.P.cellsOf E)):=by intro i x hx;have h2:(i+1)*Γ.P.cellsOf E<=(xs++ys).length*Γ.P.cellsOf E:=Au _ (by grind);grind
    obtain⟨Z,u1,u2⟩:=hw.growArr (gb:=w.heap.size) (xs':=xs++ys) hk (w':=w.drew.alloc (.cells ((m.toList.take (xs.length*Γ.P.cellsOf E)++L).toArray++Builtin.zeroCells z.cells (gc-(xs++ys).length)) E)) (Or.inl ⟨Nat.le_refl _,by simp⟩) (λb hb _=>abc w.drew _ b hb) (by simp) rfl rfl rfl (aaw w.drew _) (by grind) V;refine⟨_,_,_,_,_,Or.inl rfl,u1,u2,?_⟩;have:=SRep.arr (P:=Γ.P) (D:=D) (w:=w.drew.alloc (.cells ((m.toList.take (xs.length*Γ.P.cellsOf E)++L).toArray++Builtin.zeroCells z.cells (gc-(xs++ys).length)) E)) (ow:=upd ow w.heap.size (some k)) (μ:=upd μ k w.heap.size) (cap:=gc) Z af ah (by rw[aaf];exact aaw w.drew _) (by rw[aaf,aaf]) ai.symm;grind[aaf]
theorem asy{T E:TypeId}{k g:Nat}{h:Int}{xs:List PV}{xv X:Value}{O:IntKind}(Y:WRel Γ D ow μ st w)(hx:SRep Γ.P D w ow μ st (.arr k g E) xv)(H:SRep Γ.P D w ow μ st (.int O h) X)(hT:Γ.P.underlying T=some (.slice E))(m:st[k]?=some (.arr E g xs))(J:Γ.P.cellsOf E≠0)(h0:0<=h)(h1:h<=xs.length):
 ∃u,(Instr.sliceAt T xv none (some X) none).run Γ.P w=.ok u w/\OpRes Γ D ow μ st w (.ok (.value u) w) (.arr k (g+1) E) (st.set k (.arr E (g+1) (xs.take h.toNat))):=by
 cases H
 obtain⟨aa,hi,I⟩:=aay J
 cases hx with
 |arrOld t hg=>grind
 |@arrNil _ _ _ a t=>
  rw[m]at t;cases t
  have e0:h=0:=by grind
  subst e0
  have G:=ac9 (Γ:=Γ) (w:=w) true 0 0 none (some (.int O 0)) 0 0 (Or.inl ⟨rfl,rfl⟩) (Or.inr ⟨_,rfl⟩) (by omega) (by omega) (by omega) (Nat.le_refl _)
  obtain⟨U,V,u2⟩:=Y.arrBump m
  refine⟨.slice a 0 0,?_,_,_,_,_,_,Or.inl rfl,V,u2,.arrNil U⟩
  simp_all[Instr.sliceAt,Sem.run_bind,run_underlying,Result.andThen_ok,Instr.slice,aax,Sem.run_pure]
 |@arr _ _ cap _ _ Z t hl z o M hs=>
  rw[m]at t;cases t
  have G:=ac9 (Γ:=Γ) (w:=w) true xs.length cap none (some (.int O h)) 0 h (Or.inl ⟨rfl,rfl⟩) (Or.inr ⟨_,rfl⟩) (by omega) h0 h1 hl
  obtain⟨U,V,u2⟩:=Y.arrCut (n:=h.toNat) m
  have W:(xs.take h.toNat).length=h.toNat:=by grind
  refine⟨.slice (some ⟨μ k,0,none⟩) h.toNat cap,?_,_,_,_,_,_,Or.inl rfl,V,u2,?_⟩
  ·simp only[Instr.sliceAt,Sem.run_bind,run_underlying hT,Result.andThen_ok,Instr.slice,G,aax hi I,Sem.run_pure,Option.map_some,abv,Int.toNat_zero,Nat.zero_mul,Nat.add_zero,Nat.sub_zero];grind
  ·have:=SRep.arr (P:=Γ.P) (D:=D) (w:=w) (ow:=ow) (μ:=μ) (cap:=cap) U (by omega) z o M hs;grind
theorem WRel.arrNew(t:WRel Γ D ow μ st w)(E:TypeId):WRel Γ D ow μ (st++[.arr E 0 []]) w/\Moves D w ow μ st D w ow μ (st++[.arr E 0 []]):=by
 have W:∀{k:Nat}{y:BX},st[k]?=some y->k<st.length:=λe=>(A6.1 e).1;have G:∀{k:Nat}{y:BX},st[k]?=some y->(st++[BX.arr E 0 []])[k]?=some y:=λ{k y}e=>by grind
 have z:∀{k:Nat}{y:BX},(st++[BX.arr E 0 []])[k]?=some y->y≠.arr E 0 []->st[k]?=some y:=by grind
 have m:Moves D w ow μ st D w ow μ (st++[.arr E 0 []]):=
  ⟨λ_ _ d=>d,Keeps.refl _ _,λk _ _ e=>⟨rfl,_,G e⟩,λk _ _ _ e=>⟨rfl,_,G e⟩,λk _ e _=>⟨rfl,_,G e,rfl⟩,λk _ _ _ e=>⟨_,_,G e,Nat.le_refl _,λ_=>⟨rfl,ArrKeep.refl _ _ _ _ _⟩⟩,λk g0 e=>⟨_,G e,Nat.le_refl _,λ_ b I=>⟨rfl,I,λ_ d=>d⟩⟩⟩
 have H:∀k,k<Γ.np->∃b,(st++[BX.arr E 0 []])[k]?=some b/\b.kind=Γ.K0 k:=λk U=>by obtain⟨s,hs,h1⟩:=t.par k U;grind
 refine⟨⟨λk T s e=>?_,λk K E es e=>?_,λk b e=>?_,λb k I=>⟨(t.owlt b k I).1,by have:=(t.owlt b k I).2;simp;omega⟩,t.dlt,t.os,t.tape,t.output,t.hs,t.old,t.dom0,t.domN,t.owN,by grind,t.mu0,H,λb k y I e V o d=>?_,t.keep0.trans m.keeps t.dom0,t.arr0_moves m H⟩,m⟩
 ·obtain⟨c,O,X,Y,Z,q4,q5⟩:=t.box k T s (z e (by simp));exact⟨c,O,X,Y,Z,q4,q5.mono m⟩
 ·exact t.map k K E es (z e (by simp))
 ·by_cases M:b=.arr E 0 []
  ·subst M;exact Or.inl rfl
  ·exact(t.obj k _ (z e M)).mono m.dom m.keeps (λ_=>rfl) (λ_ o=>⟨rfl,o,λ_ d=>d⟩)
 ·have J:=(t.owlt b k I).2;rw[A1 J]at e;exact t.lone b k y I e V o d
theorem bil(hw:WRel Γ D ow μ st w){E:TypeId}(ad:0<Γ.P.cellsOf E){y:SV}{yv:Value}{ys:List PV}(hy:SRep Γ.P D w ow μ st y yv)(J:bgt st y=some ys)(I:a8v Γ.P E y=true):(ys=[]/\(yv=.slice none 0 0\/∃b M,yv=.slice (some b) 0 M))\/
 ∃(b off cap:Nat)(L:List Value),yv=.slice (some ⟨b,off,none⟩) ys.length cap/\0<ys.length/\L.length=ys.length*Γ.P.cellsOf E/\(∀(i:Nat)(x:PV),ys[i]?=some x->Rep Γ.P D w E x ((L.drop (i*Γ.P.cellsOf E)).take (Γ.P.cellsOf E)))/\
  (∀j u,L[j]?=some u->w.cell? ((⟨b,off,none⟩:Addr).add j)=some u):=by
 have plain:∀(z:SV),SRep Γ.P D w ow μ st z yv->an5 z=some ys->an0 Γ.P E z=true->(ys=[]/\(yv=.slice none 0 0\/∃b M,yv=.slice (some b) 0 M))\/
  ∃(b off cap:Nat)(L:List Value),yv=.slice (some ⟨b,off,none⟩) ys.length cap/\0<ys.length/\L.length=ys.length*Γ.P.cellsOf E/\(∀(i:Nat)(x:PV),ys[i]?=some x->Rep Γ.P D w E x ((L.drop (i*Γ.P.cellsOf E)).take (Γ.P.cellsOf E)))/\
   (∀j u,L[j]?=some u->w.cell? ((⟨b,off,none⟩:Addr).add j)=some u):=by
  intro z hz J I
  have X:=anl hz J I
  cases X with
  |@nil a c ab=>
   cases a with
   |none=>grind
   |some a=>grind
  |@mk b off cap _ L aa hL H m=>
   cases ys with
   |nil=>grind
   |cons q r=>exact Or.inr ⟨b,off,cap,L,rfl,by simp,hL,H,λj u U=>by rw[abv];exact(m j u U).2⟩
 cases y with
 |arr k g E'=>
  have:=Ag (show Nat.beq E E'=true from I)
  subst this
  have W:=ab1 (show ad1 st k g E=some ys from J)
  cases hy with
  |arrOld o h2 _=>grind
  |@arrNil _ _ _ a o=>
   rw[W]at o;cases o
   cases a with
   |none=>grind
   |some a=>grind
  |@arr _ _ cap _ _ t o h2 h3 h4 h5 h6=>
   rw[W]at o;cases o
   cases ys with
   |nil=>grind
   |cons q r=>
    rcases hw.obj k _ W with h|⟨Z,Y,a2,a3,a4,a5⟩
    ·cases h
    ·rw[h4]at Y;cases Y;have G:(t.toList.take ((q::r).length*Γ.P.cellsOf E)).length=(q::r).length*Γ.P.cellsOf E:=by grind
     refine Or.inr ⟨μ k,0,cap,t.toList.take ((q::r).length*Γ.P.cellsOf E),rfl,by simp,G,λi x hi=>?_,λj u U=>?_⟩
     ·have O:=(A6.1 hi).1;have hm:i*Γ.P.cellsOf E+Γ.P.cellsOf E<=(q::r).length*Γ.P.cellsOf E:=by rw[<-Nat.succ_mul];exact Au _ O
      grind[List.drop_take,Nat.min_eq_left]
     ·have V:j<(q::r).length*Γ.P.cellsOf E:=by grind
      rw[List.getElem?_take_of_lt V]at U;rw[abv,Nat.zero_add];grind[World.cell?]
 |_=>exact plain _ hy J I
theorem anw(hw:WRel Γ D ow μ st w)(T ty:TypeId)(x y:SV)(xv yv:Value)(v:SV)(st':List BX)(hx:SRep Γ.P D w ow μ st x xv)(hy:SRep Γ.P D w ow μ st y yv)(h:acy Γ.P st T x y=.upd true v st'):
 ∃u w',(Builtin.append_ #[T,T] ty #[xv,yv]).run Γ.P w=.ok u w'/\OpRes Γ D ow μ st w (.ok (.value u) w') v st':=by
 unfold acy at h
 split at h
 ·rename_i E ys hT hl;cases hc:(a8v Γ.P E y&&Nat.ble (Γ.P.bytesOf E) 512&&!(Nat.beq (Γ.P.bytesOf E) 0)&&!(Nat.beq (Γ.P.cellsOf E) 0)&&acg Γ.P E)with
  |false=>grind
  |true=>
   rw[hc]at h;simp only[Ad]at h;simp only[Ai,Bool.not_eq_true']at hc;obtain⟨⟨⟨⟨c1,c2⟩,c3⟩,c4⟩,c5⟩:=hc;have am:0<Γ.P.cellsOf E:=by rcases Nat.eq_zero_or_pos (Γ.P.cellsOf E)with h0|h0;all_goals simp_all
   have aX:Γ.P.bytesOf E<=512:=At c2;obtain⟨J,z,X,Y,au,ad,a2,a4,a3⟩:=abo (Γ:=Γ) (D:=D) (ow:=ow) (μ:=μ) (st:=st) (w:=w) c5;have a0:J.bytes=Γ.P.bytesOf E:=by simp[Program.bytesOf,X]
   have U:=bil hw am hy hl c1;have O:∀n,n<=accMax->n*J.bytes<=140737488355328:=by intro n hn;have h1:n*J.bytes<=accMax*512:=Nat.mul_le_mul hn (by grind);grind[accMax]
   split at h
   ·simp only[Ac.upd.injEq,Ax]at h;obtain⟨hb,rfl,rfl⟩:=h;cases hx;rcases U with⟨rfl,hv⟩|⟨b,off,cap,L,rfl,ab,hL,M,t⟩
    ·refine⟨_,w,abl w T ty E J hT X none 0 0 (by omega) yv hv (λ_=>⟨rfl,rfl⟩),?_⟩;obtain⟨u1,u2⟩:=hw.accNil;exact⟨_,_,_,_,_,Or.inl rfl,u1,u2,.acc (.nil λ_=>rfl) (by grind) (Nat.le_refl _) (λ_=>Or.inl ⟨_,rfl⟩)⟩
    ·have ao:ys.length*J.bytes<=281474976710656:=by grind
     have hr:=run_append_nil (P:=Γ.P) w T ty E J z hT X Y ⟨b,off,none⟩ ys.length cap L (by grind) t ab (by grind[accMax]) ao;refine⟨_,_,hr,aja hw (Or.inl ⟨rfl,rfl⟩) 0 (by grind) ad rfl hL (grownCap_ge _ _ _ _) (grownCap_le_maxLen _ _ _ _ (by grind[accMax,maxLen])) M⟩
   ·rename_i k g E' xs;cases hg:(Nat.beq E E'&&apb st k g)with
    |false=>grind
    |true=>
     rw[hg]at h;simp only[Ad,Ac.upd.injEq,Ax]at h;obtain⟨hb,rfl,rfl⟩:=h;simp only[Ai]at hg;have:=Ag hg.1;subst this;have ay:=hg.2;cases hx with
     |@acc _ _ g0 _ _ _ V hk a1 aC=>
      simp only[apb,hk]at ay;have:=Ag ay;subst this;have aI:=(A6.1 hk).1;have ai:(st.set k (BX.acc (g+1)))[k]?=some (.acc (g+1)):=by grind
      have ak:xs.length+ys.length<=maxLen:=by grind[accMax,maxLen]
      have own:=aC rfl;rcases U with⟨rfl,hv⟩|⟨b,off,cap,L,rfl,ab,hL,M,t⟩
      ·obtain⟨u1,u2⟩:=hw.accBump hk;have fin:OpRes Γ D ow μ st w (.ok (.value xv) w) (.acc k (g+1) E (xs++[])) (st.set k (.acc (g+1))):=by
        rw[List.append_nil];exact⟨_,_,_,_,_,Or.inl rfl,u1,u2,.acc V ai (Nat.le_refl _) (λ_=>own)⟩
       refine⟨xv,w,?_,fin⟩;rcases own with⟨a,rfl⟩|⟨gb,off,cap,I,rfl,_,ag,_⟩
       ·cases a with
        |none=>exact abl w T ty E J hT X none 0 0 (by omega) yv hv (λ_=>⟨rfl,rfl⟩)
        |some a=>grind[abl]
       grind[abl]
      ·have aa:(xs++ys).length=xs.length+ys.length:=by simp
       rcases own with⟨a,rfl⟩|⟨gb,G,W,I,rfl,ah,ag,aB,aG,aK,aq⟩
       ·have aM:xs=[]:=by
         generalize ax:Value.slice a 0 0=vv at V;cases V with
         |nil=>rfl
         |mk=>grind
        subst aM;simp only[Aw,Am,Nat.zero_add]at*;have ao:ys.length*J.bytes<=281474976710656:=by grind
        cases a with
        |none=>have hr:=run_append_nil (P:=Γ.P) w T ty E J z hT X Y ⟨b,off,none⟩ ys.length cap L (by grind) t ab (by grind[accMax]) ao;exact⟨_,_,hr,aja hw (Or.inr ⟨g,hk,rfl⟩) (g+1) ai ad rfl hL (grownCap_ge _ _ _ _) (grownCap_le_maxLen _ _ _ _ ak) M⟩
        |some a=>have hr:=run_append_grow (P:=Γ.P) w T ty E J z hT X Y a 0 0 [] (by simp) (λj u hj=>by simp at hj) ⟨b,off,none⟩ ys.length cap L (by grind) t (by omega) (by grind[accMax]) (growslice_fits (by omega) (O _ (by omega)));simp only[Nat.zero_add]at hr;refine⟨_,_,hr,?_⟩;rw[show(#[]:Array Value)++L.toArray=L.toArray by simp];exact aja hw (Or.inr ⟨g,hk,rfl⟩) (g+1) ai ad rfl hL (by grind[grownCap_ge]) (grownCap_le_maxLen _ _ _ _ ak) M
       ·obtain⟨H,af,aw,ar⟩:∃H:List Value,H.length=xs.length*Γ.P.cellsOf E/\(∀(i:Nat)(x:PV),xs[i]?=some x->Rep Γ.P D w E x ((H.drop (i*Γ.P.cellsOf E)).take (Γ.P.cellsOf E)))/\Held D w gb G H:=by
         generalize ax:Value.slice (some ⟨gb,G,none⟩) xs.length W=vv at V;cases V with
         |nil=>exact⟨[],by simp,λi x X=>by simp at X,λj u hj=>by simp at hj⟩
         |mk h1 h2 h3 h4=>grind
        have ap:∀j u,H[j]?=some u->w.cell? ((⟨gb,G,none⟩:Addr).add j)=some u:=λj u hj=>by rw[abv];exact(ar j u hj).2
        have aN:G+H.length<=I.size:=by rw[af,aG];exact Nat.add_le_add_left (Au _ ag) _
        have aL:(I.toList.drop G).take H.length=H:=by apply List.ext_getElem?;grind[List.getElem?_take_of_lt,List.getElem?_eq_getElem,abv,World.cell?,List.getElem?_eq_none]
        have Z:=ai3 af hL aw M;have al:(H++L).length=(xs++ys).length*Γ.P.cellsOf E:=by grind
        have aZ:I.toList.length=I.size:=by simp
        by_cases aj:xs.length+ys.length<=W
        ·have aY:G+H.length+L.length<=I.size:=by
          have h1:(xs.length+ys.length)*Γ.P.cellsOf E<=W*Γ.P.cellsOf E:=Au _ aj;all_goals grind
         have hr:=aoo (P:=Γ.P) w T ty E J hT X gb G xs.length W I ah ⟨b,off,none⟩ ys.length cap L (by all_goals simp[*]) t (amg hL am M) aj (by all_goals grind);refine⟨_,_,hr,?_⟩;have aO:xs.length*Γ.P.cellsOf E=H.length:=af.symm;rw[au,aO];generalize an:(I.toList.take (G+H.length)++L++I.toList.drop (G+H.length+L.length)).toArray=ae;have aJ:ae.toList=I.toList.take (G+H.length)++L++I.toList.drop (G+H.length+L.length):=by all_goals grind
         have aD:(w.setRow gb ae).heap[gb]?=some (.cells ae E (0,0)):=setRow_heap w gb I _ E _ ah;have aV:∀o,o<G+H.length->ae.toList[o]?=I.toList[o]?:=λo ho=>by rw[aJ,Aq,A1 (by all_goals grind),List.getElem?_take_of_lt ho]
         have av:Keeps D w (w.setRow gb ae):=by refine⟨λb' o d=>?_,λb' o d es c he=>?_⟩;all_goals grind[World.cell?,cell?_of_heap,setRow_other]
         have aU:ae.size=I.size:=by all_goals grind
         rw[<-aa];refine aua hw (Or.inr ⟨g,hk,rfl⟩) (gb:=gb) (off:=G) (L:=H++L) (Or.inr aK) (λb' _ aF=>setRow_other w gb b' _ aF) (by simp) rfl rfl rfl av al aD ?_ (by all_goals simp[*]) aB (by all_goals simp[*]) (λo ho=>aq o ?_) Z (g+1) ai;all_goals grind
        ·have hr:=run_append_grow (P:=Γ.P) w T ty E J z hT X Y ⟨gb,G,none⟩ xs.length W H (by grind) ap ⟨b,off,none⟩ ys.length cap L (by grind) t (by omega) (by grind[accMax]) (growslice_fits (by omega) (O _ hb));refine⟨_,_,hr,?_⟩;rw[show H.toArray++L.toArray=(H++L).toArray by simp];exact aja hw (Or.inr ⟨g,hk,rfl⟩) (g+1) ai ad aa.symm al (by grind[grownCap_ge]) (grownCap_le_maxLen _ _ _ _ ak) Z
   ·rename_i E';cases hg:Nat.beq E E' with
    |false=>grind
    |true=>
     rw[hg]at h;simp only[Ad,Ac.upd.injEq,Ax]at h;obtain⟨hb,rfl,rfl⟩:=h;have:=Ag hg;subst this;cases hx with
     |@lit _ _ a V=>
      obtain⟨u1,u2⟩:=hw.arrNew E;have az:(st++[BX.arr E 0 []])[st.length]?=some (.arr E 0 []):=by grind
      obtain⟨u,w',r1,v1,w1,D1,aQ,aS,r2,r3,r4,r5⟩:=as4 u1 T ty E (ys:=ys) (yv:=yv) hT X Y au ad am O az (xv:=.slice (some a) 0 0) (.arrNil az) U (by simp[*]);have e1:(st++[BX.arr E 0 []]).set st.length (.arr E (0+1) ([]++ys))=st++[.arr E 1 ys]:=by simp
      rw[e1]at r3 r4 r5;exact⟨u,w',r1,v1,w1,D1,aQ,aS,r2,r3,u2.trans r4,r5⟩
   ·rename_i E' x0 aR;generalize aP:x0::aR=xs at hx h;clear aP;cases hg:Nat.beq E E' with
    |false=>grind
    |true=>
     rw[hg]at h;simp only[Ad,Ac.upd.injEq,Ax]at h;obtain⟨hb,rfl,rfl⟩:=h;have:=Ag hg;subst this;cases hx with
     |@lit _ _ a V=>
      have aa:(xs++ys).length=xs.length+ys.length:=by simp
      rcases U with⟨rfl,hv⟩|⟨b,off,cap,L,rfl,ab,hL,M,t⟩
      ·refine⟨_,w,abl w T ty E J hT X _ _ _ (Nat.le_refl _) yv hv (λh=>by cases h),?_⟩;rw[List.append_nil];exact OpRes.still hw rfl (.slice V)
      ·have aA:∃(H:List Value),H.length=xs.length*Γ.P.cellsOf E/\(∀(i:Nat)(x:PV),xs[i]?=some x->Rep Γ.P D w E x ((H.drop (i*Γ.P.cellsOf E)).take (Γ.P.cellsOf E)))/\∀j u,H[j]?=some u->w.cell? (a.add j)=some u:=by
        generalize hn:xs.length=n at V;generalize ax:Value.slice (some a) n n=vv at V;cases V with
        |nil=>exact⟨[],by grind,λi x X=>by simp at X,λj u hj=>by simp at hj⟩
        |@mk b0 aW aT _ H h1 h2 h3 h4=>cases ax;exact⟨H,by rw[h2],h3,λj u hj=>by rw[abv];exact(h4 j u hj).2⟩
       obtain⟨H,af,aw,ap⟩:=aA;have Z:=ai3 af hL aw M;have al:(H++L).length=(xs++ys).length*Γ.P.cellsOf E:=by grind
       have ak:xs.length+ys.length<=maxLen:=by grind[accMax,maxLen]
       have hr:=run_append_grow (P:=Γ.P) w T ty E J z hT X Y a xs.length xs.length H (by grind) ap ⟨b,off,none⟩ ys.length cap L (by grind) t (by omega) (by grind[accMax]) (growslice_fits (by omega) (O _ hb));refine⟨_,_,hr,?_⟩;rw[show H.toArray++L.toArray=(H++L).toArray by simp];generalize ag:grownCap _ _ _ _=gc;have aH:(xs++ys).length<=gc:=by grind[grownCap_ge]
       rw[<-aa];have g:Grew w (w.drew.alloc (.cells ((H++L).toArray++Builtin.zeroCells z.cells (gc-(xs++ys).length)) E)):=(Grew.drawn w (w.drawn+1)).trans (Grew.alloc w.drew _);refine OpRes.grew hw (D':=λb o=>D b o\/(b=w.heap.size/\o<(H++L).length)) rfl g (λb o d=>Or.inl d) (λb o d=>d.imp id (λd=>⟨by omega,by rw[d.1];simp⟩)) (λm=>.slice ?_);refine .mk aH al (λi x hx=>(Z i x hx).mono m.dom m.keeps) (λj u hj=>?_);have aI:=(A6.1 hj).1;refine⟨Or.inr ⟨rfl,by omega⟩,?_⟩;have an:(w.drew.alloc (.cells ((H++L).toArray++Builtin.zeroCells z.cells (gc-(xs++ys).length)) E)).heap[w.heap.size]?=some (.cells ((H++L).toArray++Builtin.zeroCells z.cells (gc-(xs++ys).length)) E (0,0)):=aaw w.drew _;simp only[Nat.zero_add,World.cell?,an];grind
   ·rename_i k g E';cases hg:Nat.beq E E' with
    |false=>grind
    |true=>
     rw[hg]at h;simp only[Ad]at h;have:=Ag hg;subst this;split at h;case h_2=>cases h
     rename_i xs aE;have hk:=ab1 aE;simp only[Ac.upd.injEq,Ax]at h;obtain⟨hb,rfl,rfl⟩:=h;exact as4 hw T ty E hT X Y au ad am O hk hx U hb
   ·simp at h
 ·simp at h
theorem aql(M:WRel Γ D ow μ st w)(T:TypeId)(x y:SV)(xv yv:Value)(v:SV)(st':List BX)(hx:SRep Γ.P D w ow μ st x xv)(hy:SRep Γ.P D w ow μ st y yv)(h:adr Γ.P T x y st=.upd true v st'):
 ∃u w',(Instr.makeSlice T xv yv).run Γ.P w=.ok u w'/\OpRes Γ D ow μ st w (.ok (.value u) w') v st':=by
 unfold adr at h
 split at h
 ·rename_i E c X;cases H:(acg Γ.P E&&!(Nat.beq (Γ.P.cellsOf E) 0)&&Nat.ble (Γ.P.bytesOf E) 512)with
  |false=>grind
  |true=>
   rw[H]at h;simp only[Ad,Ac.upd.injEq,Ax]at h;obtain⟨O,rfl,rfl⟩:=h;simp only[Ai,Bool.not_eq_true']at H;obtain⟨⟨V,c2⟩,W⟩:=H;have Y:Γ.P.bytesOf E<=512:=At W;obtain⟨m,z,t,J,I,ae,aa,ad,ab⟩:=abo (Γ:=Γ) (D:=D) (ow:=ow) (μ:=μ) (st:=st) (w:=w) V;have Z:m.bytes=Γ.P.bytesOf E:=by simp[Program.bytesOf,t]
   cases hx;cases hy;obtain⟨n,rfl⟩:∃n:Nat,c=(n:Int):=⟨c.toNat,by omega⟩;have hn:n<=68719476736:=by grind[accMax]
   have G:(m.bytes:Int)*(n:Int)<=281474976710656:=by have h1:m.bytes*n<=512*68719476736:=Nat.mul_le_mul (by grind) hn;grind
   have U:=run_make (P:=Γ.P) w T E m z X t J .i64 .i64 0 n (Int.le_refl _) (by omega) G (by omega);simp only[Int.toNat_zero,Ae]at U;refine⟨_,_,U,aua M (Or.inl ⟨rfl,rfl⟩) (gb:=w.heap.size) (zs:=[]) (L:=[]) (Or.inl ⟨Nat.le_refl _,by simp⟩) (λb O _=>abc w _ b O) (by simp) rfl rfl rfl
    (Keeps.of_heap λb o d=>abc w _ b (M.dlt b o d)) (by simp) (aaw w _) (by simp) (by simp) (by unfold maxLen;omega) (by rw[size_madeCells,I,Nat.zero_add]) (λo _ d=>by have:=M.dlt _ _ d;omega) (λi x t=>by simp at t) 0 (by grind)⟩
 ·cases h
end
end Go.Ab
