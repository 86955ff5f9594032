/- From the form's readings to plain data. -/
import Derived.Test.YthokbeimbdnnoaaGreatDoorGenEk
import Derived.Test.YthokbeimbdnnoaaGreatDoorRows
import Derived.ChangeShapes
set_option linter.unusedVariables false
set_option linter.unusedSimpArgs false
set_option linter.unnecessarySimpa false
namespace Go.Ab
open Go Go.Proofs Go.Proofs.YthokbeimbdnnoaaGreatDoor
def ai7 (P:Program) (S:List TypeId) (T:TypeId):Bool:=
 match P.underlying T with
 | some .bool | some (.int _) | some .string=>true
 | some (.slice E)=>S.any (Nat.beq E)&&!(Nat.beq (P.cellsOf E) 0)
 | some (.struct h)=>abx P T&&h.toList.all λf=>S.any (Nat.beq f.type)
 | _=>false
def ahq (P:Program) (S:List TypeId):Bool:=S.all (ai7 P S)
theorem akk {P:Program}{S:List TypeId} (h:ahq P S=true) {T:TypeId} (o:S.any (Nat.beq T)=true):ai7 P S T=true:=by obtain ⟨x,I,z⟩:=List.any_eq_true.1 o;have:=Aa z;subst this;exact List.all_eq_true.1 h _ I
mutual
def aau:PV->Nat
 | .str s=>s.length+1
 | .slice xs=>aaw xs+1
 | .agg xs=>aaw xs+1
 | _=>1
def aaw:List PV->Nat
 | []=>0
 | x::r=>aau x+aaw r
end
theorem ad4 (v:PV):1<=aau v:=by cases v<;>simp [aau]
theorem aee:∀ {xs:List PV}{x:PV},x∈xs->aau x<=aaw xs:=by
 intro xs;induction xs with
 | nil=>intro x h;cases h
 | cons y r o=>
  intro x h;simp only [aaw];rcases Bl.1 h with rfl | h
  ·omega
  ·have:=o h;omega
theorem amz (xs:List PV):xs.length<=aaw xs:=by
 induction xs with
 | nil=>simp
 | cons y r h=>have:=ad4 y;simp only [aaw,Am];omega
def abe (P:Program):Nat->TypeId->PV->Prop
 | 0,_,_=>False
 | n+1,T,v=>
  match P.underlying T with
  | some .bool=>∃ b,v=.bool b
  | some (.int k)=>∃ m,v=.int m/\(Lit.int k m).wf=true
  | some .string=>∃ s,v=.str s
  | some (.slice E)=>∃ xs,v=.slice xs/\∀ x,x∈xs->abe P n E x
  | some (.struct o)=>∃ h,v=.agg h/\h.length=o.size/\∀ (i:Nat) (x:PV) (f:Field),h[i]?=some x->o[i]?=some f->abe P n f.type x
  | _=>True
def ae7 (w:World) (b off n:Nat):List Value:=(List.range n).map λj=>(w.cell? ⟨b,off+j,none⟩).getD Go.undef
theorem af7 (w:World) (b off n:Nat):(ae7 w b off n).length=n:=by simp [ae7]
theorem ain {w:World}{b off n j:Nat}{v:Value} (o:j<n) (h:w.cell? ⟨b,off+j,none⟩=some v):(ae7 w b off n)[j]?=some v:=by simp [ae7,o,h]
theorem ail (a:Addr) (n:Nat) (h:a.spot=none):a.add n=⟨a.block,a.off+n,none⟩:=by
 unfold Addr.add;split
 ·rename_i o;subst o;cases a;simp at h;subst h;rfl
 ·rfl
theorem cells?_get {w:World}{base:Nat}{a:Addr}{n:Nat}{cs:List Value} (h:w.cells? base a n=some cs):cs.length=n/\∀ i,i<n->∃ v,cs[i]?=some v/\w.cell? (a.add i)=some v:=by
 unfold World.cells? at h;split at h
 ·refine ⟨by simpa using Lib.mapM_length h,λi o=>?_⟩;exact Lib.mapM_at h i i (by simp [o])
 ·cases h
section
variable {H:Type}{enc:TypeId×Value->H}{P:Program}{w:World}{S:List TypeId}
theorem anu {J:Type}{f:J->Option (DataW H×List MemPlace)}{l:List J}{xs:List (DataW H×List MemPlace)} (h:l.mapM f=some xs) {g:PV->Nat->Prop}
 (M:∀ (i:Nat) (a:J) (d:DataW H×List MemPlace),l[i]?=some a->xs[i]?=some d->f a=some d->∃ v,g v i/\aau v<=Rows.uptoBulk d.1):
 ∃ z:List PV,z.length=l.length/\(∀ (i:Nat) (v:PV),z[i]?=some v->g v i)/\aaw z<=Rows.uptoBulkAll (xs.map (·.1)):=by
 induction l generalizing xs g with
 | nil=>
  simp at h;subst h
  exact ⟨[],rfl,λi v o=>by simp at o,by simp [aaw,Rows.uptoBulkAll]⟩
 | cons a r ih=>
  rw [List.mapM_cons] at h
  simp only [Option.bind_eq_bind,Bg,Option.pure_def,Al] at h
  obtain ⟨y,hy,ys,I,rfl⟩:=h
  obtain ⟨v,hv,hb⟩:=M 0 a y rfl rfl hy
  obtain ⟨z,O,Z,h3⟩:=ih (g:=λv i=>g v (i+1)) I (λi a d ha hd hf=>M (i+1) a d (by simpa using ha) (by simpa using hd) hf)
  refine ⟨v::z,by simp [O],λi u o=>?_,?_⟩
  ·cases i with
   | zero=>simp at o;subst o;exact hv
   | succ i=>exact Z i u (by simpa using o)
  ·simp only [aaw,Bh,Rows.uptoBulkAll];omega
theorem a3k (hS:ahq P S=true):∀ (o:Nat) (T:TypeId) (cs:List Value) (d:DataW H) (ps:List MemPlace),S.any (Nat.beq T)=true->DataW.trod enc P w 0 (λ_=>true) true o T cs=some (d,ps)->
 ∃ v,(Rep P (λb _=>b<w.heap.size) w T v cs/\abe P o T v)/\aau v<=Rows.uptoBulk d:=by
 intro o
 induction o with
 | zero=>intro T cs d ps _ h;simp [DataW.trod] at h
 | succ o ih=>
  intro T cs d ps hT h
  have hp:=akk hS hT
  unfold ai7 at hp
  split at hp
  ·rename_i I;simp only [DataW.trod,I] at h;split at h<;>simp_all;obtain ⟨rfl,rfl⟩:=h;exact ⟨_,⟨.bool I,by simp [abe,I]⟩,by simp [aau,Rows.uptoBulk]⟩
  ·rename_i k I;simp only [DataW.trod,I] at h;split at h<;>simp_all;obtain ⟨⟨rfl,hw⟩,rfl,rfl⟩:=h;exact ⟨_,⟨.int I,by simp [abe,I,hw]⟩,by simp [aau,Rows.uptoBulk]⟩
  ·rename_i I;simp only [DataW.trod,I] at h;split at h<;>simp_all;rename_i s;obtain ⟨_,rfl,rfl⟩:=h;refine ⟨.str s.data.toList,⟨?_,by simp [abe,I]⟩,by simp [aau,Rows.uptoBulk]⟩;have:=Rep.str (P:=P) (D:=λb _=>b<w.heap.size) (w:=w) (T:=T) (s:=s.data.toList) I;simpa using this
  ·rename_i E I;simp only [Ai,Bool.not_eq_true'] at hp;obtain ⟨hE,ah⟩:=hp;have hc:P.cellsOf E≠0:=λe=>by rw [e] at ah;cases ah
   simp only [DataW.trod,I] at h;split at h
   ·cases ‹some (TypeDesc.slice E)=some _›
   ·cases ‹some (TypeDesc.slice E)=some _›
   ·cases ‹some (TypeDesc.slice E)=some _›
   ·cases ‹some (TypeDesc.slice E)=some _›
   ·cases ‹some (TypeDesc.slice E)=some _›
   ·cases ‹some (TypeDesc.slice E)=some _›
   ·simp only [Al,Prod.mk.injEq] at h;obtain ⟨rfl,rfl⟩:=h;exact ⟨.slice [],⟨.nil I λ_=>rfl,by simp [abe,I]⟩,by simp [aau,aaw,Rows.uptoBulk]⟩
   ·rename_i E' a z cap he;cases he;split at h
    ·rename_i hr;obtain ⟨_,az,ax⟩:=hr;simp only [Ba,Bg,Option.map_eq_some_iff] at h;obtain ⟨an,h1,aw,h2,h3⟩:=h;simp only [Prod.mk.injEq] at h3;obtain ⟨rfl,_⟩:=h3;obtain ⟨vs,g1,g2,g3⟩:=anu (g:=λv i=>i<z->(∃ ds cs,w.cells? 0 (a.add (i*P.cellsOf E)) (P.cellsOf E)=some cs/\Rep P (λb _=>b<w.heap.size) w E v cs/\abe P o E v/\ds=cs)) h1 (λi j dd hj hd hf=>by
      simp only [Bg] at hf;obtain ⟨O,Z,ht⟩:=hf;obtain ⟨v,⟨q1,q2⟩,q3⟩:=ih E O dd.1 dd.2 hE ht;have au:j=i:=by have aj:=(List.getElem?_eq_some_iff.1 hj).1;simp at aj;simp [aj] at hj;exact hj.symm
      subst au;exact ⟨v,λ_=>⟨O,O,Z,q1,q2,rfl⟩,q3⟩)
     have J:vs.length=z:=by simpa using g1
     refine ⟨.slice vs,⟨?_,?_⟩,?_⟩
     ·by_cases h0:z=0
      ·subst h0;have:vs=[]:=Bc J;subst this;exact .nil I (λe=>by cases e)
      ·have aa:a.spot=none:=by
        obtain ⟨_,O,Z,_⟩:=g2 0 vs[0] (Aq (by omega)) (by omega);obtain ⟨_,hg⟩:=cells?_get Z;obtain ⟨v,_,hv⟩:=hg 0 (by omega);simp only [Nat.zero_mul,Addr.add,Ba] at hv;unfold World.cell? at hv;split at hv
        ·split at hv
         ·cases hv
         ·rename_i hs;simpa using hs
        ·cases hv
       have ad:∀ i,i<z->∀ j,j<P.cellsOf E->∃ v,w.cell? ⟨a.block,a.off+(i*P.cellsOf E+j),none⟩=some v:=by intro i hi j hj;obtain ⟨_,O,Z,_⟩:=g2 i vs[i] (Aq (by omega)) hi;obtain ⟨_,hg⟩:=cells?_get Z;obtain ⟨v,_,hv⟩:=hg j hj;rw [ail a _ aa,ail _ _ rfl] at hv;exact ⟨v,by simpa [Nat.add_assoc] using hv⟩
       have ab:0<P.cellsOf E:=Nat.pos_of_ne_zero hc;have ag:∀ j,j<z*P.cellsOf E->∃ v,w.cell? ⟨a.block,a.off+j,none⟩=some v:=by intro j hj;have h1:j / P.cellsOf E<z:=(Nat.div_lt_iff_lt_mul ab).2 hj;obtain ⟨v,hv⟩:=ad _ h1 (j%P.cellsOf E) (Nat.mod_lt _ ab);have e:=Nat.div_add_mod j (P.cellsOf E);rw [Nat.mul_comm] at e;rw [e] at hv;exact ⟨v,hv⟩
       have ao:a=⟨a.block,a.off,none⟩:=by cases a;simp at aa;subst aa;rfl
       have al:Rep P (λb _=>b<w.heap.size) w T (.slice vs) [.slice (some ⟨a.block,a.off,none⟩) vs.length cap]:=by
        refine .slice (L:=ae7 w a.block a.off (z*P.cellsOf E)) I (by omega) (by rw [af7,J]) (λi x hx=>?_) (λj v hj=>?_)
        ·have hi:i<z:=by have:=(List.getElem?_eq_some_iff.1 hx).1;omega
         obtain ⟨_,O,Z,q1,_⟩:=g2 i x hx hi;obtain ⟨ay,hg⟩:=cells?_get Z;have:((ae7 w a.block a.off (z*P.cellsOf E)).drop (i*P.cellsOf E)).take (P.cellsOf E)=O:=by
          apply List.ext_getElem?;intro j;by_cases hj:j<P.cellsOf E
          ·obtain ⟨v,av,am⟩:=hg j hj;rw [ail a _ aa,ail _ _ rfl] at am;have hb:i*P.cellsOf E+j<z*P.cellsOf E:=by
            have:=Ay (P.cellsOf E) (show i+1<=z by omega);rw [Nat.add_mul] at this;omega
           rw [List.getElem?_take_of_lt hj,List.getElem?_drop,av];exact ain hb (by simpa [Nat.add_assoc] using am)
          ·rw [A4 (by simp;omega),A4 (by omega)]
         rw [this];exact q1
        ·have ae:=(List.getElem?_eq_some_iff.1 hj).1;rw [af7] at ae;obtain ⟨v',af⟩:=ag j ae;have:=ain ae af;rw [hj] at this;cases this;refine ⟨?_,af⟩;show a.block<w.heap.size;rcases Nat.lt_or_ge a.block w.heap.size with h' | h'
         ·exact h'
         ·simp [World.cell?,Array.getElem?_eq_none h'] at af
       rw [J,<-ao] at al;exact al
     ·simp only [abe,I,PV.slice.injEq,exists_eq_left'];intro x hx;obtain ⟨i,hi⟩:=List.mem_iff_getElem?.1 hx;have ar:i<z:=by have:=(List.getElem?_eq_some_iff.1 hi).1;omega
      obtain ⟨_,_,_,_,q2,_⟩:=g2 i x hi ar;exact q2
     ·simp only [aau,Rows.uptoBulk];omega
    ·cases h
   all_goals first | (cases h;done) | cases ‹some (TypeDesc.slice E)=some _›
  ·rename_i fs I;simp only [Ai] at hp;obtain ⟨ai,aq⟩:=hp;have L:=ab7 ai I;have M:(if cs.length=P.cellsOf T then (fs.toList.mapM λf=>DataW.trod enc P w 0 (λ_=>true) true o f.type ((cs.drop f.offset).take (P.cellsOf f.type))).map λxs=>(DataW.agg (xs.map (·.1)),xs.flatMap (·.2)) else none)=some (d,ps):=by
    rw [<-h];simp only [DataW.trod,I]
   split at M
   ·rename_i J;simp only [Option.map_eq_some_iff,Prod.mk.injEq] at M;obtain ⟨xs,h1,rfl,_⟩:=M;obtain ⟨vs,g1,g2,g3⟩:=anu (g:=λv i=>∀ f,fs[i]?=some f->Rep P (λb _=>b<w.heap.size) w f.type v ((cs.drop f.offset).take (P.cellsOf f.type))/\abe P o f.type v) h1 (λi f dd hf hd ht=>by
     have ak:f∈fs.toList:=List.mem_of_getElem? hf;obtain ⟨v,q1,q2⟩:=ih f.type _ dd.1 dd.2 (List.all_eq_true.1 aq f ak) ht;refine ⟨v,λf' ap=>?_,q2⟩;have:f'=f:=by rw [Bp] at hf;rw [ap] at hf;cases hf;rfl
     subst this;exact q1)
    refine ⟨.agg vs,⟨.agg I J ?_ (by simpa using g1) (λi v f hv hf=>(g2 i v hv f hf).1),?_⟩,by simp only [aau,Rows.uptoBulk];omega⟩
    ·refine L.oneCell J (λi f hf=>?_);have hi:i<vs.length:=by rw [g1,Array.length_toList];exact (Array.getElem?_eq_some_iff.1 hf).1
     exact ((g2 i _ (Aq hi) f hf).1).oneCell
    ·simp only [abe,I,PV.agg.injEq,exists_eq_left'];exact ⟨by simpa using g1,λi x f hx hf=>(g2 i x hx f hf).2⟩
   ·cases M
  ·cases hp
end
theorem als {P:Program}{n:Nat}{T:TypeId}{v:PV}{z:Array Field} (h:abe P n T v) (O:P.underlying T=some (.struct z)):
 ∃ o m,v=.agg o/\o.length=z.size/\∀ (i:Nat) (x:PV) (f:Field),o[i]?=some x->z[i]?=some f->abe P m f.type x:=by
 cases n with
 | zero=>cases h
 | succ n=>
  simp only [abe,O] at h
  obtain ⟨o,I,J,M⟩:=h
  exact ⟨o,n,I,J,M⟩
theorem avx {P:Program}{n:Nat}{T E:TypeId}{v:PV} (h:abe P n T v) (I:P.underlying T=some (.slice E)):∃ xs m,v=.slice xs/\∀ x,x∈xs->abe P m E x:=by
 cases n with
 | zero=>cases h
 | succ n=>simp only [abe,I] at h;obtain ⟨xs,o,z⟩:=h;exact ⟨xs,n,o,z⟩
theorem a1l {P:Program}{n:Nat}{T:TypeId}{k:IntKind}{v:PV} (h:abe P n T v) (o:P.underlying T=some (.int k)):∃ m,v=.int m/\(Lit.int k m).wf=true:=by
 cases n with
 | zero=>cases h
 | succ n=>simpa only [abe,o] using h
theorem aef (v:PV):v.asList.length+1<=aau v:=by
 cases v with
 | slice xs=>have:=amz xs;simp [PV.asList,aau];omega
 | _=>have:=ad4;simp [PV.asList,aau]
theorem at7 (v:PV):v.asStr.length+1<=aau v:=by cases v<;>simp [PV.asStr,aau]
end Go.Ab
