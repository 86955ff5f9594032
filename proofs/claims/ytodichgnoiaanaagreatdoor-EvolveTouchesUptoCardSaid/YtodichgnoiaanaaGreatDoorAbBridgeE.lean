/- From the form's readings to plain data. -/
import Derived.Test.YtodichgnoiaanaaGreatDoorGenE
import Derived.Test.YtodichgnoiaanaaGreatDoorRows
import Derived.ChangeShapes
set_option linter.unusedVariables false
set_option linter.unusedSimpArgs false
set_option linter.unnecessarySimpa false
namespace Go.Ab
open Go Go.Proofs Go.Proofs.YtodichgnoiaanaaGreatDoor
def akr (P:Program) (S:List TypeId) (T:TypeId):Bool:=
 match P.underlying T with
 | some .bool | some (.int _) | some .string=>true
 | some (.slice E)=>S.any (Nat.beq E)&&!(Nat.beq (P.cellsOf E) 0)
 | some (.struct h)=>ace P T&&h.toList.all λf=>S.any (Nat.beq f.type)
 | some (.array n E)=>S.any (Nat.beq E)&&Nat.beq (P.cellsOf T) (n*P.cellsOf E)&&!(Nat.beq (P.cellsOf E) 0)
 | _=>false
def ait (P:Program) (S:List TypeId):Bool:=S.all (akr P S)
theorem ami {P:Program}{S:List TypeId} (h:ait P S=true) {T:TypeId} (o:S.any (Nat.beq T)=true):akr P S T=true:=by obtain ⟨x,I,z⟩:=List.any_eq_true.1 o;have:=Ae z;subst this;exact Bj.1 h _ I
mutual
def aaq:PV->Nat
 | .str s=>s.length+1
 | .slice xs=>aax xs+1
 | .agg xs=>aax xs+1
 | _=>1
def aax:List PV->Nat
 | []=>0
 | x::r=>aaq x+aax r
end
theorem aen (v:PV):1<=aaq v:=by cases v<;>simp [aaq]
theorem ae1:∀ {xs:List PV}{x:PV},x∈xs->aaq x<=aax xs:=by
 intro xs;induction xs with
 | nil=>grind
 | cons y r o=>intro x h;simp only [aax];grind
theorem apg (xs:List PV):xs.length<=aax xs:=by
 induction xs with
 | nil=>simp
 | cons y r h=>grind [aen,aax,List.length_cons]
def abb (P:Program):Nat->TypeId->PV->Prop
 | 0,_,_=>False
 | n+1,T,v=>
  match P.underlying T with
  | some .bool=>∃ b,v=.bool b
  | some (.int k)=>∃ m,v=.int m/\(Lit.int k m).wf=true
  | some .string=>∃ s,v=.str s
  | some (.slice E)=>∃ xs,v=.slice xs/\∀ x,x∈xs->abb P n E x
  | some (.struct o)=>∃ h,v=.agg h/\h.length=o.size/\∀ (i:Nat) (x:PV) (f:Field),h[i]?=some x->o[i]?=some f->abb P n f.type x
  | some (.array k E)=>∃ h,v=.agg h/\h.length=k/\∀ x,x∈h->abb P n E x
  | _=>True
def af0 (w:World) (b off n:Nat):List Value:=(List.range n).map λj=>(w.cell? ⟨b,off+j,none⟩).getD Go.undef
theorem ag8 (w:World) (b off n:Nat):(af0 w b off n).length=n:=by simp [af0]
theorem aj3 {w:World}{b off n j:Nat}{v:Value} (o:j<n) (h:w.cell? ⟨b,off+j,none⟩=some v):(af0 w b off n)[j]?=some v:=by grind [af0]
theorem ajx (a:Addr) (n:Nat) (h:a.spot=none):a.add n=⟨a.block,a.off+n,none⟩:=by
 unfold Addr.add;split
 ·rename_i o;subst o;cases a;grind
 ·rfl
theorem cells?_get {w:World}{base:Nat}{a:Addr}{n:Nat}{cs:List Value} (h:w.cells? base a n=some cs):cs.length=n/\∀ i,i<n->∃ v,cs[i]?=some v/\w.cell? (a.add i)=some v:=by
 unfold World.cells? at h;split at h
 ·refine ⟨by simpa using Lib.mapM_length h,λi o=>?_⟩;exact Lib.mapM_at h i i (by simp [o])
 ·cases h
section
variable {H:Type}{enc:TypeId×Value->H}{P:Program}{w:World}{S:List TypeId}
theorem alj {I:Type}{f:I->Option (DataW H×List MemPlace)}{l:List I}{xs:List (DataW H×List MemPlace)} (h:l.mapM f=some xs) {g:PV->Nat->Prop}
 (M:∀ (i:Nat) (a:I) (d:DataW H×List MemPlace),l[i]?=some a->xs[i]?=some d->f a=some d->∃ v,g v i/\aaq v<=Rows.uptoBulk d.1):
 ∃ o:List PV,o.length=l.length/\(∀ (i:Nat) (v:PV),o[i]?=some v->g v i)/\aax o<=Rows.uptoBulkAll (xs.map (·.1)):=by
 induction l generalizing xs g with
 | nil=>
  simp at h;subst h
  exact ⟨[],rfl,λi v J=>by simp at J,by simp [aax,Rows.uptoBulkAll]⟩
 | cons a r ih=>
  rw [List.mapM_cons] at h
  simp only [Option.bind_eq_bind,Bd,Option.pure_def,Ak] at h
  obtain ⟨y,hy,ys,z,rfl⟩:=h
  obtain ⟨v,hv,hb⟩:=M 0 a y rfl rfl hy
  obtain ⟨o,O,h2,h3⟩:=ih (g:=λv i=>g v (i+1)) z (λi a d Z hd hf=>M (i+1) a d (by simpa using Z) (by simpa using hd) hf)
  refine ⟨v::o,by simp [O],λi u J=>?_,?_⟩
  all_goals grind [aax,Rows.uptoBulkAll]
theorem bap (hS:ait P S=true):∀ (z:Nat) (T:TypeId) (cs:List Value) (d:DataW H) (ps:List MemPlace),S.any (Nat.beq T)=true->DataW.trod enc P w 0 (λ_=>true) true z T cs=some (d,ps)->
 ∃ v,(Rep P (λb _=>b<w.heap.size) w T v cs/\abb P z T v)/\aaq v<=Rows.uptoBulk d:=by
 intro z
 induction z with
 | zero=>intro T cs d ps _ h;simp [DataW.trod] at h
 | succ z ih=>
  intro T cs d ps hT h
  have hp:=ami hS hT
  unfold akr at hp
  split at hp
  ·rename_i I;simp only [DataW.trod,I] at h;split at h<;>simp_all;obtain ⟨rfl,rfl⟩:=h;exact ⟨_,⟨.bool I,by simp [abb,I]⟩,by simp [aaq,Rows.uptoBulk]⟩
  ·rename_i k I;simp only [DataW.trod,I] at h;split at h<;>simp_all;obtain ⟨⟨rfl,hw⟩,rfl,rfl⟩:=h;exact ⟨_,⟨.int I,by grind [abb]⟩,by simp [aaq,Rows.uptoBulk]⟩
  ·rename_i I;simp only [DataW.trod,I] at h;split at h<;>simp_all;rename_i s;obtain ⟨_,rfl,rfl⟩:=h;refine ⟨.str s.data.toList,⟨?_,by simp [abb,I]⟩,by simp [aaq,Rows.uptoBulk]⟩;have:=Rep.str (P:=P) (D:=λb _=>b<w.heap.size) (w:=w) (T:=T) (s:=s.data.toList) I;simpa using this
  ·rename_i E I;simp only [Aj,Bool.not_eq_true'] at hp;obtain ⟨hE,ai⟩:=hp;have hc:P.cellsOf E≠0:=λe=>by all_goals simp_all
   simp only [DataW.trod,I] at h;split at h
   ·all_goals grind
   ·all_goals grind
   ·all_goals grind
   ·all_goals grind
   ·all_goals grind
   ·all_goals grind
   ·simp only [Ak,Prod.mk.injEq] at h;obtain ⟨rfl,rfl⟩:=h;exact ⟨.slice [],⟨.nil I λ_=>rfl,by simp [abb,I]⟩,by simp [aaq,aax,Rows.uptoBulk]⟩
   ·rename_i E' a M cap he;cases he;split at h
    ·rename_i hr;obtain ⟨_,aq,am⟩:=hr;simp only [A9,Bd,Option.map_eq_some_iff] at h;obtain ⟨ah,h1,al,h2,h3⟩:=h;simp only [Prod.mk.injEq] at h3;obtain ⟨rfl,_⟩:=h3;obtain ⟨O,g1,g2,g3⟩:=alj (g:=λv i=>i<M->(∃ ds cs,w.cells? 0 (a.add (i*P.cellsOf E)) (P.cellsOf E)=some cs/\Rep P (λb _=>b<w.heap.size) w E v cs/\abb P z E v/\ds=cs)) h1 (λi j dd hj hd hf=>by
      simp only [Bd] at hf;all_goals grind)
     have J:O.length=M:=by simpa using g1
     refine ⟨.slice O,⟨?_,?_⟩,?_⟩
     ·by_cases h0:M=0
      ·subst h0;have:O=[]:=Ba J;subst this;exact .nil I (λe=>by cases e)
      ·have ag:a.spot=none:=by
        obtain ⟨_,ab,aa,_⟩:=g2 0 O[0] (Am (by omega)) (by omega);obtain ⟨_,hg⟩:=cells?_get aa;obtain ⟨v,_,hv⟩:=hg 0 (by omega);simp only [Nat.zero_mul,Addr.add,A9] at hv;unfold World.cell? at hv;split at hv;all_goals simp_all
       have ad:∀ i,i<M->∀ j,j<P.cellsOf E->∃ v,w.cell? ⟨a.block,a.off+(i*P.cellsOf E+j),none⟩=some v:=by intro i hi j hj;obtain ⟨_,ab,aa,_⟩:=g2 i O[i] (Am (by omega)) hi;obtain ⟨_,hg⟩:=cells?_get aa;obtain ⟨v,_,hv⟩:=hg j hj;rw [ajx a _ ag,ajx _ _ rfl] at hv;all_goals grind
       have Z:0<P.cellsOf E:=Nat.pos_of_ne_zero hc;have ak:∀ j,j<M*P.cellsOf E->∃ v,w.cell? ⟨a.block,a.off+j,none⟩=some v:=by intro j hj;have h1:j / P.cellsOf E<M:=(Nat.div_lt_iff_lt_mul Z).2 hj;obtain ⟨v,hv⟩:=ad _ h1 (j%P.cellsOf E) (Nat.mod_lt _ Z);all_goals grind [Nat.div_add_mod,Nat.mul_comm]
       have an:a=⟨a.block,a.off,none⟩:=by cases a;all_goals grind
       have ar:Rep P (λb _=>b<w.heap.size) w T (.slice O) [.slice (some ⟨a.block,a.off,none⟩) O.length cap]:=by
        refine .slice (L:=af0 w a.block a.off (M*P.cellsOf E)) I (by omega) (by rw [ag8,J]) (λi x hx=>?_) (λj v hj=>?_)
        ·have hi:i<M:=by all_goals grind
         obtain ⟨_,ab,aa,q1,_⟩:=g2 i x hx hi;obtain ⟨ap,hg⟩:=cells?_get aa;have:((af0 w a.block a.off (M*P.cellsOf E)).drop (i*P.cellsOf E)).take (P.cellsOf E)=ab:=by
          apply List.ext_getElem?;intro j;by_cases hj:j<P.cellsOf E
          ·obtain ⟨v,au,aj⟩:=hg j hj;rw [ajx a _ ag,ajx _ _ rfl] at aj;have hb:i*P.cellsOf E+j<M*P.cellsOf E:=by
            have:=Au (P.cellsOf E) (show i+1<=M by omega);all_goals grind
           all_goals grind [List.getElem?_take_of_lt,aj3,Nat.add_assoc]
          all_goals grind
         all_goals grind
        all_goals grind [List.getElem?_eq_some_iff,ag8,aj3,Nat.lt_or_ge,World.cell?,Array.getElem?_eq_none]
       all_goals grind
     ·simp only [abb,I,PV.slice.injEq,exists_eq_left'];all_goals grind [List.mem_iff_getElem?,List.getElem?_eq_some_iff]
     all_goals grind [aaq,Rows.uptoBulk]
    ·cases h
   all_goals grind
  ·rename_i fs I;simp only [Aj] at hp;obtain ⟨af,ao⟩:=hp;have L:=acf af (abd I);have o:(if cs.length=P.cellsOf T then (fs.toList.mapM λf=>DataW.trod enc P w 0 (λ_=>true) true z f.type ((cs.drop f.offset).take (P.cellsOf f.type))).map λxs=>(DataW.agg (xs.map (·.1)),xs.flatMap (·.2)) else none)=some (d,ps):=by
    rw [<-h];simp only [DataW.trod,I]
   split at o
   ·rename_i J;simp only [Option.map_eq_some_iff,Prod.mk.injEq] at o;obtain ⟨xs,h1,rfl,_⟩:=o;obtain ⟨O,g1,g2,g3⟩:=alj (g:=λv i=>∀ f,fs[i]?=some f->Rep P (λb _=>b<w.heap.size) w f.type v ((cs.drop f.offset).take (P.cellsOf f.type))/\abb P z f.type v) h1 (λi f dd hf hd ht=>by
     grind)
    refine ⟨.agg O,⟨.agg I J ?_ (by simpa using g1) (λi v f hv hf=>(g2 i v hv f hf).1),?_⟩,by grind [aaq,Rows.uptoBulk]⟩
    ·refine L.oneCell J (λi f hf=>?_);have hi:i<O.length:=by grind
     exact ((g2 i _ (Am hi) f hf).1).oneCell
    ·simp only [abb,I,PV.agg.injEq,exists_eq_left'];grind
   ·cases o
  ·rename_i n E I;simp only [Aj,Bool.not_eq_true'] at hp;obtain ⟨⟨hE,ae⟩,ai⟩:=hp;have ae:=Ae ae;have Z:0<P.cellsOf E:=Nat.pos_of_ne_zero (λe=>by grind);have o:(if cs.length=P.cellsOf T then ((List.range n).mapM λi=>DataW.trod enc P w 0 (λ_=>true) true z E ((cs.drop (i*P.cellsOf E)).take (P.cellsOf E))).map λxs=>(DataW.agg (xs.map (·.1)),xs.flatMap (·.2)) else none)=some (d,ps):=by
    rw [<-h];simp only [DataW.trod,I]
   split at o
   ·rename_i J;simp only [Option.map_eq_some_iff,Prod.mk.injEq] at o;obtain ⟨xs,h1,rfl,_⟩:=o;obtain ⟨O,g1,g2,g3⟩:=alj (g:=λv i=>i<n->Rep P (λb _=>b<w.heap.size) w E v ((cs.drop (i*P.cellsOf E)).take (P.cellsOf E))/\abb P z E v) h1 (λi j dd hj hd ht=>by
     grind)
    have hl:O.length=n:=by simpa using g1
    have lt:∀ {i:Nat}{v:PV},O[i]?=some v->i<n:=λhi=>by grind
    refine ⟨.agg O,⟨.arr I J ?_ hl (λi v hv=>(g2 i v hv (lt hv)).1),?_⟩,by grind [aaq,Rows.uptoBulk]⟩
    ·intro c hc;obtain ⟨j,hj,rfl⟩:=List.mem_iff_getElem.1 hc;have hd:j / P.cellsOf E<n:=by rw [Nat.div_lt_iff_lt_mul Z];omega
     refine ((g2 _ _ (Am (show j / P.cellsOf E<O.length by omega)) hd).1).oneCell _ (List.mem_iff_getElem?.2 ⟨j%P.cellsOf E,?_⟩);grind [List.getElem?_take_of_lt,Nat.mod_lt,Nat.div_add_mod,Nat.mul_comm,List.getElem?_eq_getElem]
    ·simp only [abb,I,PV.agg.injEq,exists_eq_left'];grind [List.mem_iff_getElem?]
   ·cases o
  ·cases hp
end
theorem an4 {P:Program}{n:Nat}{T:TypeId}{v:PV}{z:Array Field} (h:abb P n T v) (O:P.underlying T=some (.struct z)):
 ∃ o m,v=.agg o/\o.length=z.size/\∀ (i:Nat) (x:PV) (f:Field),o[i]?=some x->z[i]?=some f->abb P m f.type x:=by
 cases n with
 | zero=>cases h
 | succ n=>
  simp only [abb,O] at h
  obtain ⟨o,I,J,M⟩:=h
  exact ⟨o,n,I,J,M⟩
theorem az7 {P:Program}{n:Nat}{T E:TypeId}{v:PV} (h:abb P n T v) (I:P.underlying T=some (.slice E)):∃ xs m,v=.slice xs/\∀ x,x∈xs->abb P m E x:=by
 cases n with
 | zero=>cases h
 | succ n=>simp only [abb,I] at h;obtain ⟨xs,o,z⟩:=h;exact ⟨xs,n,o,z⟩
theorem a8k {P:Program}{n:Nat}{T:TypeId}{k:IntKind}{v:PV} (h:abb P n T v) (o:P.underlying T=some (.int k)):∃ m,v=.int m/\(Lit.int k m).wf=true:=by
 cases n with
 | zero=>cases h
 | succ n=>grind [abb]
theorem ae3 (v:PV):v.asList.length+1<=aaq v:=by
 cases v with
 | slice xs=>grind [apg,PV.asList,aaq]
 | _=>have:=aen;simp [PV.asList,aaq]
theorem ax8 (v:PV):v.asStr.length+1<=aaq v:=by cases v<;>simp [PV.asStr,aaq]
end Go.Ab
