/- From the form's readings to plain data. -/
import Derived.Test.YtjogoleiodbfdaaGreatDoorGenEh
import Derived.Test.YtjogoleiodbfdaaGreatDoorRows
import Derived.ChangeShapes
set_option linter.unusedVariables false
set_option linter.unusedSimpArgs false
set_option linter.unnecessarySimpa false
namespace Go.Ab
open Go Go.Proofs Go.Proofs.YtjogoleiodbfdaaGreatDoor
def ajw (P:Program) (S:List TypeId) (T:TypeId):Bool:=
 match P.underlying T with
 | some .bool | some (.int _) | some .string=>true
 | some (.slice E)=>S.any (Nat.beq E)&&!(Nat.beq (P.cellsOf E) 0)
 | some (.struct h)=>acf P T&&h.toList.all λf=>S.any (Nat.beq f.type)
 | _=>false
def ah8 (P:Program) (S:List TypeId):Bool:=S.all (ajw P S)
theorem alg {P:Program}{S:List TypeId} (h:ah8 P S=true) {T:TypeId} (o:S.any (Nat.beq T)=true):ajw P S T=true:=by obtain ⟨x,J,I⟩:=List.any_eq_true.1 o;have:=Ae I;subst this;exact Bs.1 h _ J
mutual
def aat:PV->Nat
 | .str s=>s.length+1
 | .slice xs=>aay xs+1
 | .agg xs=>aay xs+1
 | _=>1
def aay:List PV->Nat
 | []=>0
 | x::r=>aat x+aay r
end
theorem aee (v:PV):1<=aat v:=by cases v<;>simp [aat]
theorem aeo:∀ {xs:List PV}{x:PV},x∈xs->aat x<=aay xs:=by
 intro xs;induction xs with
 | nil=>intro x h;cases h
 | cons y r o=>
  intro x h;simp only [aay];rcases Bn.1 h with rfl | h
  ·omega
  ·have:=o h;omega
theorem an3 (xs:List PV):xs.length<=aay xs:=by
 induction xs with
 | nil=>simp
 | cons y r h=>have:=aee y;simp only [aay,Am];omega
def abg (P:Program):Nat->TypeId->PV->Prop
 | 0,_,_=>False
 | n+1,T,v=>
  match P.underlying T with
  | some .bool=>∃ b,v=.bool b
  | some (.int k)=>∃ m,v=.int m/\(Lit.int k m).wf=true
  | some .string=>∃ s,v=.str s
  | some (.slice E)=>∃ xs,v=.slice xs/\∀ x,x∈xs->abg P n E x
  | some (.struct o)=>∃ h,v=.agg h/\h.length=o.size/\∀ (i:Nat) (x:PV) (f:Field),h[i]?=some x->o[i]?=some f->abg P n f.type x
  | _=>True
def afj (w:World) (b off n:Nat):List Value:=(List.range n).map λj=>(w.cell? ⟨b,off+j,none⟩).getD Go.undef
theorem agn (w:World) (b off n:Nat):(afj w b off n).length=n:=by simp [afj]
theorem ajc {w:World}{b off n j:Nat}{v:Value} (o:j<n) (h:w.cell? ⟨b,off+j,none⟩=some v):(afj w b off n)[j]?=some v:=by simp [afj,o,h]
theorem ai9 (a:Addr) (n:Nat) (h:a.spot=none):a.add n=⟨a.block,a.off+n,none⟩:=by
 unfold Addr.add;split
 ·rename_i o;subst o;cases a;simp at h;subst h;rfl
 ·rfl
theorem cells?_get {w:World}{base:Nat}{a:Addr}{n:Nat}{cs:List Value} (h:w.cells? base a n=some cs):cs.length=n/\∀ i,i<n->∃ v,cs[i]?=some v/\w.cell? (a.add i)=some v:=by
 unfold World.cells? at h;split at h
 ·refine ⟨by simpa using Lib.mapM_length h,λi o=>?_⟩;exact Lib.mapM_at h i i (by simp [o])
 ·cases h
section
variable {H:Type}{enc:TypeId×Value->H}{P:Program}{w:World}{S:List TypeId}
theorem aot {M:Type}{f:M->Option (DataW H×List MemPlace)}{l:List M}{xs:List (DataW H×List MemPlace)} (h:l.mapM f=some xs) {g:PV->Nat->Prop}
 (O:∀ (i:Nat) (a:M) (d:DataW H×List MemPlace),l[i]?=some a->xs[i]?=some d->f a=some d->∃ v,g v i/\aat v<=Rows.uptoBulk d.1):
 ∃ I:List PV,I.length=l.length/\(∀ (i:Nat) (v:PV),I[i]?=some v->g v i)/\aay I<=Rows.uptoBulkAll (xs.map (·.1)):=by
 induction l generalizing xs g with
 | nil=>
  simp at h;subst h
  exact ⟨[],rfl,λi v o=>by simp at o,by simp [aay,Rows.uptoBulkAll]⟩
 | cons a r ih=>
  rw [List.mapM_cons] at h
  simp only [Option.bind_eq_bind,Bf,Option.pure_def,Al] at h
  obtain ⟨y,hy,ys,J,rfl⟩:=h
  obtain ⟨v,hv,hb⟩:=O 0 a y rfl rfl hy
  obtain ⟨I,Z,h2,h3⟩:=ih (g:=λv i=>g v (i+1)) J (λi a d ha hd hf=>O (i+1) a d (by simpa using ha) (by simpa using hd) hf)
  refine ⟨v::I,by simp [Z],λi u o=>?_,?_⟩
  ·cases i with
   | zero=>simp at o;subst o;exact hv
   | succ i=>exact h2 i u (by simpa using o)
  ·simp only [aay,Bh,Rows.uptoBulkAll];omega
theorem a6g (hS:ah8 P S=true):∀ (o:Nat) (T:TypeId) (cs:List Value) (d:DataW H) (ps:List MemPlace),S.any (Nat.beq T)=true->DataW.trod enc P w 0 (λ_=>true) true o T cs=some (d,ps)->
 ∃ v,(Rep P (λb _=>b<w.heap.size) w T v cs/\abg P o T v)/\aat v<=Rows.uptoBulk d:=by
 intro o
 induction o with
 | zero=>intro T cs d ps _ h;simp [DataW.trod] at h
 | succ o ih=>
  intro T cs d ps hT h
  have hp:=alg hS hT
  unfold ajw at hp
  split at hp
  ·rename_i J;simp only [DataW.trod,J] at h;split at h<;>simp_all;obtain ⟨rfl,rfl⟩:=h;exact ⟨_,⟨.bool J,by simp [abg,J]⟩,by simp [aat,Rows.uptoBulk]⟩
  ·rename_i k J;simp only [DataW.trod,J] at h;split at h<;>simp_all;obtain ⟨⟨rfl,hw⟩,rfl,rfl⟩:=h;exact ⟨_,⟨.int J,by simp [abg,J,hw]⟩,by simp [aat,Rows.uptoBulk]⟩
  ·rename_i J;simp only [DataW.trod,J] at h;split at h<;>simp_all;rename_i s;obtain ⟨_,rfl,rfl⟩:=h;refine ⟨.str s.data.toList,⟨?_,by simp [abg,J]⟩,by simp [aat,Rows.uptoBulk]⟩;have:=Rep.str (P:=P) (D:=λb _=>b<w.heap.size) (w:=w) (T:=T) (s:=s.data.toList) J;simpa using this
  ·rename_i E J;simp only [Aj,Bool.not_eq_true'] at hp;obtain ⟨hE,ai⟩:=hp;have hc:P.cellsOf E≠0:=λe=>by rw [e] at ai;cases ai
   simp only [DataW.trod,J] at h;split at h
   ·cases ‹some (TypeDesc.slice E)=some _›
   ·cases ‹some (TypeDesc.slice E)=some _›
   ·cases ‹some (TypeDesc.slice E)=some _›
   ·cases ‹some (TypeDesc.slice E)=some _›
   ·cases ‹some (TypeDesc.slice E)=some _›
   ·cases ‹some (TypeDesc.slice E)=some _›
   ·simp only [Al,Prod.mk.injEq] at h;obtain ⟨rfl,rfl⟩:=h;exact ⟨.slice [],⟨.nil J λ_=>rfl,by simp [abg,J]⟩,by simp [aat,aay,Rows.uptoBulk]⟩
   ·rename_i E' a I cap he;cases he;split at h
    ·rename_i hr;obtain ⟨_,aA,ay⟩:=hr;simp only [A9,Bf,Option.map_eq_some_iff] at h;obtain ⟨ao,h1,ax,h2,h3⟩:=h;simp only [Prod.mk.injEq] at h3;obtain ⟨rfl,_⟩:=h3;obtain ⟨vs,g1,g2,g3⟩:=aot (g:=λv i=>i<I->(∃ ds cs,w.cells? 0 (a.add (i*P.cellsOf E)) (P.cellsOf E)=some cs/\Rep P (λb _=>b<w.heap.size) w E v cs/\abg P o E v/\ds=cs)) h1 (λi j dd hj hd hf=>by
      simp only [Bf] at hf;obtain ⟨Z,aa,ht⟩:=hf;obtain ⟨v,⟨q1,q2⟩,q3⟩:=ih E Z dd.1 dd.2 hE ht;have av:j=i:=by have ak:=(Bg.1 hj).1;simp at ak;simp [ak] at hj;exact hj.symm
      subst av;exact ⟨v,λ_=>⟨Z,Z,aa,q1,q2,rfl⟩,q3⟩)
     have M:vs.length=I:=by simpa using g1
     refine ⟨.slice vs,⟨?_,?_⟩,?_⟩
     ·by_cases h0:I=0
      ·subst h0;have:vs=[]:=Bc M;subst this;exact .nil J (λe=>by cases e)
      ·have ab:a.spot=none:=by
        obtain ⟨_,Z,aa,_⟩:=g2 0 vs[0] (As (by omega)) (by omega);obtain ⟨_,hg⟩:=cells?_get aa;obtain ⟨v,_,hv⟩:=hg 0 (by omega);simp only [Nat.zero_mul,Addr.add,A9] at hv;unfold World.cell? at hv;split at hv
        ·split at hv
         ·cases hv
         ·rename_i hs;simpa using hs
        ·cases hv
       have ae:∀ i,i<I->∀ j,j<P.cellsOf E->∃ v,w.cell? ⟨a.block,a.off+(i*P.cellsOf E+j),none⟩=some v:=by intro i hi j hj;obtain ⟨_,Z,aa,_⟩:=g2 i vs[i] (As (by omega)) hi;obtain ⟨_,hg⟩:=cells?_get aa;obtain ⟨v,_,hv⟩:=hg j hj;rw [ai9 a _ ab,ai9 _ _ rfl] at hv;exact ⟨v,by simpa [Nat.add_assoc] using hv⟩
       have ad:0<P.cellsOf E:=Nat.pos_of_ne_zero hc;have ah:∀ j,j<I*P.cellsOf E->∃ v,w.cell? ⟨a.block,a.off+j,none⟩=some v:=by intro j hj;have h1:j / P.cellsOf E<I:=(Nat.div_lt_iff_lt_mul ad).2 hj;obtain ⟨v,hv⟩:=ae _ h1 (j%P.cellsOf E) (Nat.mod_lt _ ad);have e:=Nat.div_add_mod j (P.cellsOf E);rw [Nat.mul_comm] at e;rw [e] at hv;exact ⟨v,hv⟩
       have ap:a=⟨a.block,a.off,none⟩:=by cases a;simp at ab;subst ab;rfl
       have am:Rep P (λb _=>b<w.heap.size) w T (.slice vs) [.slice (some ⟨a.block,a.off,none⟩) vs.length cap]:=by
        refine .slice (L:=afj w a.block a.off (I*P.cellsOf E)) J (by omega) (by rw [agn,M]) (λi x hx=>?_) (λj v hj=>?_)
        ·have hi:i<I:=by have:=(Bg.1 hx).1;omega
         obtain ⟨_,Z,aa,q1,_⟩:=g2 i x hx hi;obtain ⟨az,hg⟩:=cells?_get aa;have:((afj w a.block a.off (I*P.cellsOf E)).drop (i*P.cellsOf E)).take (P.cellsOf E)=Z:=by
          apply List.ext_getElem?;intro j;by_cases hj:j<P.cellsOf E
          ·obtain ⟨v,aw,an⟩:=hg j hj;rw [ai9 a _ ab,ai9 _ _ rfl] at an;have hb:i*P.cellsOf E+j<I*P.cellsOf E:=by
            have:=Aw (P.cellsOf E) (show i+1<=I by omega);rw [Nat.add_mul] at this;omega
           rw [List.getElem?_take_of_lt hj,List.getElem?_drop,aw];exact ajc hb (by simpa [Nat.add_assoc] using an)
          ·rw [Bb (by simp;omega),Bb (by omega)]
         rw [this];exact q1
        ·have af:=(Bg.1 hj).1;rw [agn] at af;obtain ⟨v',ag⟩:=ah j af;have:=ajc af ag;rw [hj] at this;cases this;refine ⟨?_,ag⟩;show a.block<w.heap.size;rcases Nat.lt_or_ge a.block w.heap.size with h' | h'
         ·exact h'
         ·simp [World.cell?,Array.getElem?_eq_none h'] at ag
       rw [M,<-ap] at am;exact am
     ·simp only [abg,J,PV.slice.injEq,exists_eq_left'];intro x hx;obtain ⟨i,hi⟩:=List.mem_iff_getElem?.1 hx;have au:i<I:=by have:=(Bg.1 hi).1;omega
      obtain ⟨_,_,_,_,q2,_⟩:=g2 i x hi au;exact q2
     ·simp only [aat,Rows.uptoBulk];omega
    ·cases h
   all_goals first | (cases h;done) | cases ‹some (TypeDesc.slice E)=some _›
  ·rename_i fs J;simp only [Aj] at hp;obtain ⟨aj,ar⟩:=hp;have L:=acg aj J;have O:(if cs.length=P.cellsOf T then (fs.toList.mapM λf=>DataW.trod enc P w 0 (λ_=>true) true o f.type ((cs.drop f.offset).take (P.cellsOf f.type))).map λxs=>(DataW.agg (xs.map (·.1)),xs.flatMap (·.2)) else none)=some (d,ps):=by
    rw [<-h];simp only [DataW.trod,J]
   split at O
   ·rename_i M;simp only [Option.map_eq_some_iff,Prod.mk.injEq] at O;obtain ⟨xs,h1,rfl,_⟩:=O;obtain ⟨vs,g1,g2,g3⟩:=aot (g:=λv i=>∀ f,fs[i]?=some f->Rep P (λb _=>b<w.heap.size) w f.type v ((cs.drop f.offset).take (P.cellsOf f.type))/\abg P o f.type v) h1 (λi f dd hf hd ht=>by
     have al:f∈fs.toList:=List.mem_of_getElem? hf;obtain ⟨v,q1,q2⟩:=ih f.type _ dd.1 dd.2 (Bs.1 ar f al) ht;refine ⟨v,λf' aq=>?_,q2⟩;have:f'=f:=by rw [Bq] at hf;rw [aq] at hf;cases hf;rfl
     subst this;exact q1)
    refine ⟨.agg vs,⟨.agg J M ?_ (by simpa using g1) (λi v f hv hf=>(g2 i v hv f hf).1),?_⟩,by simp only [aat,Rows.uptoBulk];omega⟩
    ·refine L.oneCell M (λi f hf=>?_);have hi:i<vs.length:=by rw [g1,Array.length_toList];exact (Array.getElem?_eq_some_iff.1 hf).1
     exact ((g2 i _ (As hi) f hf).1).oneCell
    ·simp only [abg,J,PV.agg.injEq,exists_eq_left'];exact ⟨by simpa using g1,λi x f hx hf=>(g2 i x hx f hf).2⟩
   ·cases O
  ·cases hp
end
theorem amp {P:Program}{n:Nat}{T:TypeId}{v:PV}{I:Array Field} (h:abg P n T v) (Z:P.underlying T=some (.struct I)):
 ∃ o m,v=.agg o/\o.length=I.size/\∀ (i:Nat) (x:PV) (f:Field),o[i]?=some x->I[i]?=some f->abg P m f.type x:=by
 cases n with
 | zero=>cases h
 | succ n=>
  simp only [abg,Z] at h
  obtain ⟨o,J,M,O⟩:=h
  exact ⟨o,n,J,M,O⟩
theorem axo {P:Program}{n:Nat}{T E:TypeId}{v:PV} (h:abg P n T v) (J:P.underlying T=some (.slice E)):∃ xs m,v=.slice xs/\∀ x,x∈xs->abg P m E x:=by
 cases n with
 | zero=>cases h
 | succ n=>simp only [abg,J] at h;obtain ⟨xs,o,I⟩:=h;exact ⟨xs,n,o,I⟩
theorem a4h {P:Program}{n:Nat}{T:TypeId}{k:IntKind}{v:PV} (h:abg P n T v) (o:P.underlying T=some (.int k)):∃ m,v=.int m/\(Lit.int k m).wf=true:=by
 cases n with
 | zero=>cases h
 | succ n=>simpa only [abg,o] using h
theorem aep (v:PV):v.asList.length+1<=aat v:=by
 cases v with
 | slice xs=>have:=an3 xs;simp [PV.asList,aat];omega
 | _=>have:=aee;simp [PV.asList,aat]
theorem avr (v:PV):v.asStr.length+1<=aat v:=by cases v<;>simp [PV.asStr,aat]
end Go.Ab
