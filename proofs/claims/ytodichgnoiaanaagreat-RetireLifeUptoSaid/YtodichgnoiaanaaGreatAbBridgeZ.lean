/- From the form's readings to plain data. -/
import Derived.Test.YtodichgnoiaanaaGreatAbLoop
import Derived.Test.YtodichgnoiaanaaGreatRows
import Derived.Lib.LaidTab
import Derived.ChangeShapes
set_option linter.unusedVariables false
set_option linter.unusedSimpArgs false
set_option linter.unnecessarySimpa false
namespace Go.Ab
open Go Go.Proofs Go.Proofs.YtodichgnoiaanaaGreat
def ajc (P:Program) (S:List TypeId) (T:TypeId):Bool:=
 match P.underlying T with
 | some .bool | some (.int _) | some .string=>true
 | some (.slice E)=>S.any (Nat.beq E)&&!(Nat.beq (P.cellsOf E) 0)
 | some (.struct fs)=>abz P T&&fs.toList.all fun f=>S.any (Nat.beq f.type)
 | some (.array n E)=>S.any (Nat.beq E)&&Nat.beq (P.cellsOf T) (n*P.cellsOf E)&&!(Nat.beq (P.cellsOf E) 0)
 | _=>false
def ahj (P:Program) (S:List TypeId):Bool:=S.all (ajc P S)
theorem aks {P:Program}{S:List TypeId} (h:ahj P S=true) {T:TypeId} (hT:S.any (Nat.beq T)=true):ajc P S T=true:=by
 obtain ⟨x,hx,he⟩:=List.any_eq_true.1 hT
 have:=Nat.eq_of_beq_eq_true he;subst this
 exact List.all_eq_true.1 h _ hx
mutual
def aam:PV->Nat
 | .str s=>s.length+1
 | .slice xs=>aaw xs+1
 | .agg xs=>aaw xs+1
 | _=>1
def aaw:List PV->Nat
 | []=>0
 | x::r=>aam x+aaw r
end
theorem ad2 (v:PV):1<=aam v:=by cases v<;>simp [aam]
theorem adh:∀ {xs:List PV}{x:PV},x∈xs->aam x<=aaw xs:=by
 intro xs
 induction xs with
 | nil=>intro x h;cases h
 | cons y r ih=>
  intro x h
  simp only [aaw]
  rcases List.mem_cons.1 h with rfl | h
  ·omega
  ·have:=ih h;omega
theorem anf (xs:List PV):xs.length<=aaw xs:=by
 induction xs with
 | nil=>simp
 | cons y r ih=>have:=ad2 y;simp only [aaw,List.length_cons];omega
def aa8 (P:Program):Nat->TypeId->PV->Prop
 | 0,_,_=>False
 | n+1,T,v=>
  match P.underlying T with
  | some .bool=>∃ b,v=.bool b
  | some (.int k)=>∃ m,v=.int m/\(Lit.int k m).wf=true
  | some .string=>∃ s,v=.str s
  | some (.slice E)=>∃ xs,v=.slice xs/\∀ x,x∈xs->aa8 P n E x
  | some (.struct fs)=>∃ vs,v=.agg vs/\vs.length=fs.size/\∀ (i:Nat) (x:PV) (f:Field),vs[i]?=some x->fs[i]?=some f->aa8 P n f.type x
  | some (.array k E)=>∃ vs,v=.agg vs/\vs.length=k/\∀ x,x∈vs->aa8 P n E x
  | _=>True
def ae3 (w:World) (b off n:Nat):List Value:=(List.range n).map fun j=>(w.cell? ⟨b,off+j,none⟩).getD Go.undef
theorem af1 (w:World) (b off n:Nat):(ae3 w b off n).length=n:=by simp [ae3]
theorem aio {w:World}{b off n j:Nat}{v:Value} (hj:j<n) (h:w.cell? ⟨b,off+j,none⟩=some v):(ae3 w b off n)[j]?=some v:=by
 simp [ae3,hj,h]
theorem aim (a:Addr) (n:Nat) (h:a.spot=none):a.add n=⟨a.block,a.off+n,none⟩:=by
 unfold Addr.add
 split
 ·rename_i h0;subst h0;cases a;simp at h;subst h;rfl
 ·rfl
theorem cells?_get {w:World}{base:Nat}{a:Addr}{n:Nat}{cs:List Value} (h:w.cells? base a n=some cs):cs.length=n/\∀ i,i<n->∃ v,cs[i]?=some v/\w.cell? (a.add i)=some v:=by
 unfold World.cells? at h
 split at h
 ·refine ⟨by simpa using Lib.mapM_length h,fun i hi=>?_⟩
  exact Lib.mapM_at h i i (by simp [hi])
 ·cases h
section
variable {H:Type}{enc:TypeId×Value->H}{P:Program}{w:World}{S:List TypeId}
theorem ake {α:Type}{f:α->Option (DataW H×List MemPlace)}{l:List α}{xs:List (DataW H×List MemPlace)} (h:l.mapM f=some xs) {g:PV->Nat->Prop}
 (hp:∀ (i:Nat) (a:α) (d:DataW H×List MemPlace),l[i]?=some a->xs[i]?=some d->f a=some d->∃ v,g v i/\aam v<=Rows.uptoBulk d.1):
 ∃ vs:List PV,vs.length=l.length/\(∀ (i:Nat) (v:PV),vs[i]?=some v->g v i)/\aaw vs<=Rows.uptoBulkAll (xs.map (·.1)):=by
 induction l generalizing xs g with
 | nil=>
  simp at h;subst h
  exact ⟨[],rfl,fun i v hi=>by simp at hi,by simp [aaw,Rows.uptoBulkAll]⟩
 | cons a r ih=>
  rw [List.mapM_cons] at h
  simp only [Option.bind_eq_bind,Option.bind_eq_some_iff,Option.pure_def,Option.some.injEq] at h
  obtain ⟨y,hy,ys,hys,rfl⟩:=h
  obtain ⟨v,hv,hb⟩:=hp 0 a y rfl rfl hy
  obtain ⟨vs,h1,h2,h3⟩:=ih (g:=fun v i=>g v (i+1)) hys (fun i a d ha hd hf=>hp (i+1) a d (by simpa using ha) (by simpa using hd) hf)
  refine ⟨v::vs,by simp [h1],fun i u hi=>?_,?_⟩
  ·cases i with
   | zero=>simp at hi;subst hi;exact hv
   | succ i=>exact h2 i u (by simpa using hi)
  ·simp only [aaw,List.map_cons,Rows.uptoBulkAll];omega
theorem a3u (hS:ahj P S=true):∀ (fuel:Nat) (T:TypeId) (cs:List Value) (d:DataW H) (ps:List MemPlace),S.any (Nat.beq T)=true->DataW.trod enc P w 0 (fun _=>true) true fuel T cs=some (d,ps)->
 ∃ v,(Rep P (fun b _=>b<w.heap.size) w T v cs/\aa8 P fuel T v)/\aam v<=Rows.uptoBulk d:=by
 intro fuel
 induction fuel with
 | zero=>intro T cs d ps _ h;simp [DataW.trod] at h
 | succ fuel ih=>
  intro T cs d ps hT h
  have hp:=aks hS hT
  unfold ajc at hp
  split at hp
  ·rename_i hu
   simp only [DataW.trod,hu] at h
   split at h<;>simp_all
   obtain ⟨rfl,rfl⟩:=h
   exact ⟨_,⟨.bool hu,by simp [aa8,hu]⟩,by simp [aam,Rows.uptoBulk]⟩
  ·rename_i k hu
   simp only [DataW.trod,hu] at h
   split at h<;>simp_all
   obtain ⟨⟨rfl,hw⟩,rfl,rfl⟩:=h
   exact ⟨_,⟨.int hu,by simp [aa8,hu,hw]⟩,by simp [aam,Rows.uptoBulk]⟩
  ·rename_i hu
   simp only [DataW.trod,hu] at h
   split at h<;>simp_all
   rename_i s
   obtain ⟨_,rfl,rfl⟩:=h
   refine ⟨.str s.data.toList,⟨?_,by simp [aa8,hu]⟩,by simp [aam,Rows.uptoBulk]⟩
   have:=Rep.str (P:=P) (D:=fun b _=>b<w.heap.size) (w:=w) (T:=T) (s:=s.data.toList) hu
   simpa using this
  ·rename_i E hu
   simp only [Bool.and_eq_true,Bool.not_eq_true'] at hp
   obtain ⟨hE,hc0⟩:=hp
   have hc:P.cellsOf E≠0:=fun e=>by rw [e] at hc0;cases hc0
   simp only [DataW.trod,hu] at h
   split at h
   ·cases ‹some (TypeDesc.slice E)=some _›
   ·cases ‹some (TypeDesc.slice E)=some _›
   ·cases ‹some (TypeDesc.slice E)=some _›
   ·cases ‹some (TypeDesc.slice E)=some _›
   ·cases ‹some (TypeDesc.slice E)=some _›
   ·cases ‹some (TypeDesc.slice E)=some _›
   ·simp only [Option.some.injEq,Prod.mk.injEq] at h
    obtain ⟨rfl,rfl⟩:=h
    exact ⟨.slice [],⟨.nil hu fun _=>rfl,by simp [aa8,hu]⟩,by simp [aam,aaw,Rows.uptoBulk]⟩
   ·rename_i E' a len cap he
    cases he
    split at h
    ·rename_i hr
     obtain ⟨_,hlc,hcm⟩:=hr
     simp only [if_true,Option.bind_eq_some_iff,Option.map_eq_some_iff] at h
     obtain ⟨elems,h1,rest,h2,h3⟩:=h
     simp only [Prod.mk.injEq] at h3
     obtain ⟨rfl,_⟩:=h3
     obtain ⟨vs,g1,g2,g3⟩:=ake (g:=fun v i=>i<len->(∃ ds cs,w.cells? 0 (a.add (i*P.cellsOf E)) (P.cellsOf E)=some cs/\Rep P (fun b _=>b<w.heap.size) w E v cs/\aa8 P fuel E v/\ds=cs)) h1 (fun i j dd hj hd hf=>by
      simp only [Option.bind_eq_some_iff] at hf
      obtain ⟨cs',hcs,ht⟩:=hf
      obtain ⟨v,⟨q1,q2⟩,q3⟩:=ih E cs' dd.1 dd.2 hE ht
      have hji:j=i:=by
       have hlt:=(List.getElem?_eq_some_iff.1 hj).1
       simp at hlt
       simp [hlt] at hj;exact hj.symm
      subst hji
      exact ⟨v,fun _=>⟨cs',cs',hcs,q1,q2,rfl⟩,q3⟩)
     have hlen:vs.length=len:=by simpa using g1
     refine ⟨.slice vs,⟨?_,?_⟩,?_⟩
     ·by_cases h0:len=0
      ·subst h0
       have:vs=[]:=List.eq_nil_of_length_eq_zero hlen
       subst this
       exact .nil hu (fun e=>by cases e)
      ·have hsp:a.spot=none:=by
        obtain ⟨_,cs',hcs,_⟩:=g2 0 vs[0] (List.getElem?_eq_getElem (by omega)) (by omega)
        obtain ⟨_,hg⟩:=cells?_get hcs
        obtain ⟨v,_,hv⟩:=hg 0 (by omega)
        simp only [Nat.zero_mul,Addr.add,if_true] at hv
        unfold World.cell? at hv
        split at hv
        ·split at hv
         ·cases hv
         ·rename_i hs;simpa using hs
        ·cases hv
       have hcell:∀ i,i<len->∀ j,j<P.cellsOf E->∃ v,w.cell? ⟨a.block,a.off+(i*P.cellsOf E+j),none⟩=some v:=by
        intro i hi j hj
        obtain ⟨_,cs',hcs,_⟩:=g2 i vs[i] (List.getElem?_eq_getElem (by omega)) hi
        obtain ⟨_,hg⟩:=cells?_get hcs
        obtain ⟨v,_,hv⟩:=hg j hj
        rw [aim a _ hsp,aim _ _ rfl] at hv
        exact ⟨v,by simpa [Nat.add_assoc] using hv⟩
       have hpos:0<P.cellsOf E:=Nat.pos_of_ne_zero hc
       have hall:∀ j,j<len*P.cellsOf E->∃ v,w.cell? ⟨a.block,a.off+j,none⟩=some v:=by
        intro j hj
        have h1:j / P.cellsOf E<len:=(Nat.div_lt_iff_lt_mul hpos).2 hj
        obtain ⟨v,hv⟩:=hcell _ h1 (j%P.cellsOf E) (Nat.mod_lt _ hpos)
        have e:=Nat.div_add_mod j (P.cellsOf E)
        rw [Nat.mul_comm] at e
        rw [e] at hv
        exact ⟨v,hv⟩
       have hea:a=⟨a.block,a.off,none⟩:=by cases a;simp at hsp;subst hsp;rfl
       have hmk:Rep P (fun b _=>b<w.heap.size) w T (.slice vs) [.slice (some ⟨a.block,a.off,none⟩) vs.length cap]:=by
        refine .slice (L:=ae3 w a.block a.off (len*P.cellsOf E)) hu (by omega) (by rw [af1,hlen]) (fun i x hx=>?_) (fun j v hj=>?_)
        ·have hi:i<len:=by have:=(List.getElem?_eq_some_iff.1 hx).1;omega
         obtain ⟨_,cs',hcs,q1,_⟩:=g2 i x hx hi
         obtain ⟨hl',hg⟩:=cells?_get hcs
         have:((ae3 w a.block a.off (len*P.cellsOf E)).drop (i*P.cellsOf E)).take (P.cellsOf E)=cs':=by
          apply List.ext_getElem?
          intro j
          by_cases hj:j<P.cellsOf E
          ·obtain ⟨v,hv1,hv2⟩:=hg j hj
           rw [aim a _ hsp,aim _ _ rfl] at hv2
           have hb:i*P.cellsOf E+j<len*P.cellsOf E:=by
            have:=Nat.mul_le_mul_right (P.cellsOf E) (show i+1<=len by omega)
            rw [Nat.add_mul] at this;omega
           rw [List.getElem?_take_of_lt hj,List.getElem?_drop,hv1]
           exact aio hb (by simpa [Nat.add_assoc] using hv2)
          ·rw [List.getElem?_eq_none (by simp;omega),List.getElem?_eq_none (by omega)]
         rw [this]
         exact q1
        ·have hjl:=(List.getElem?_eq_some_iff.1 hj).1
         rw [af1] at hjl
         obtain ⟨v',hv'⟩:=hall j hjl
         have:=aio hjl hv'
         rw [hj] at this;cases this
         refine ⟨?_,hv'⟩
         show a.block<w.heap.size
         rcases Nat.lt_or_ge a.block w.heap.size with h' | h'
         ·exact h'
         ·simp [World.cell?,Array.getElem?_eq_none h'] at hv'
       rw [hlen,<-hea] at hmk
       exact hmk
     ·simp only [aa8,hu,PV.slice.injEq,exists_eq_left']
      intro x hx
      obtain ⟨i,hi⟩:=List.mem_iff_getElem?.1 hx
      have hil:i<len:=by have:=(List.getElem?_eq_some_iff.1 hi).1;omega
      obtain ⟨_,_,_,_,q2,_⟩:=g2 i x hi hil
      exact q2
     ·simp only [aam,Rows.uptoBulk];omega
    ·cases h
   all_goals first | (cases h;done) | cases ‹some (TypeDesc.slice E)=some _›
  ·rename_i fs hu
   simp only [Bool.and_eq_true] at hp
   obtain ⟨hlay,hfs⟩:=hp
   have L:=ab9 hlay hu
   have hstep:(if cs.length=P.cellsOf T then (fs.toList.mapM fun f=>DataW.trod enc P w 0 (fun _=>true) true fuel f.type ((cs.drop f.offset).take (P.cellsOf f.type))).map fun xs=>(DataW.agg (xs.map (·.1)),xs.flatMap (·.2)) else none)=some (d,ps):=by
    rw [<-h]
    simp only [DataW.trod,hu]
   split at hstep
   ·rename_i hlen
    simp only [Option.map_eq_some_iff,Prod.mk.injEq] at hstep
    obtain ⟨xs,h1,rfl,_⟩:=hstep
    obtain ⟨vs,g1,g2,g3⟩:=ake (g:=fun v i=>∀ f,fs[i]?=some f->Rep P (fun b _=>b<w.heap.size) w f.type v ((cs.drop f.offset).take (P.cellsOf f.type))/\aa8 P fuel f.type v) h1 (fun i f dd hf hd ht=>by
     have hmem:f∈fs.toList:=List.mem_of_getElem? hf
     obtain ⟨v,q1,q2⟩:=ih f.type _ dd.1 dd.2 (List.all_eq_true.1 hfs f hmem) ht
     refine ⟨v,fun f' hf'=>?_,q2⟩
     have:f'=f:=by
      rw [Array.getElem?_toList] at hf
      rw [hf'] at hf;cases hf;rfl
     subst this
     exact q1)
    refine ⟨.agg vs,⟨.agg hu hlen ?_ (by simpa using g1) (fun i v f hv hf=>(g2 i v hv f hf).1),?_⟩,by simp only [aam,Rows.uptoBulk];omega⟩
    ·refine L.oneCell hlen (fun i f hf=>?_)
     have hi:i<vs.length:=by rw [g1,Array.length_toList];exact (Array.getElem?_eq_some_iff.1 hf).1
     exact ((g2 i _ (List.getElem?_eq_getElem hi) f hf).1).oneCell
    ·simp only [aa8,hu,PV.agg.injEq,exists_eq_left']
     exact ⟨by simpa using g1,fun i x f hx hf=>(g2 i x hx f hf).2⟩
   ·cases hstep
  ·rename_i n E hu
   simp only [Bool.and_eq_true,Bool.not_eq_true'] at hp
   obtain ⟨⟨hE,hcT⟩,hc0⟩:=hp
   have hcT:=Nat.eq_of_beq_eq_true hcT
   have hpos:0<P.cellsOf E:=Nat.pos_of_ne_zero (fun e=>by rw [e] at hc0;cases hc0)
   have hstep:(if cs.length=P.cellsOf T then ((List.range n).mapM fun i=>DataW.trod enc P w 0 (fun _=>true) true fuel E ((cs.drop (i*P.cellsOf E)).take (P.cellsOf E))).map fun xs=>(DataW.agg (xs.map (·.1)),xs.flatMap (·.2)) else none)=some (d,ps):=by
    rw [<-h]
    simp only [DataW.trod,hu]
   split at hstep
   ·rename_i hlen
    simp only [Option.map_eq_some_iff,Prod.mk.injEq] at hstep
    obtain ⟨xs,h1,rfl,_⟩:=hstep
    obtain ⟨vs,g1,g2,g3⟩:=ake (g:=fun v i=>i<n->Rep P (fun b _=>b<w.heap.size) w E v ((cs.drop (i*P.cellsOf E)).take (P.cellsOf E))/\aa8 P fuel E v) h1 (fun i j dd hj hd ht=>by
     obtain ⟨v,q1,q2⟩:=ih E _ dd.1 dd.2 hE ht
     have hji:j=i:=by
      have hlt:=(List.getElem?_eq_some_iff.1 hj).1
      simp at hlt
      simp [hlt] at hj;exact hj.symm
     subst hji
     exact ⟨v,fun _=>q1,q2⟩)
    have hl:vs.length=n:=by simpa using g1
    have lt:∀ {i:Nat}{v:PV},vs[i]?=some v->i<n:=fun hi=>by have:=(List.getElem?_eq_some_iff.1 hi).1;omega
    refine ⟨.agg vs,⟨.arr hu hlen ?_ hl (fun i v hv=>(g2 i v hv (lt hv)).1),?_⟩,by simp only [aam,Rows.uptoBulk];omega⟩
    ·intro c hc
     obtain ⟨j,hj,rfl⟩:=List.mem_iff_getElem.1 hc
     have hd:j / P.cellsOf E<n:=by rw [Nat.div_lt_iff_lt_mul hpos];omega
     refine ((g2 _ _ (List.getElem?_eq_getElem (show j / P.cellsOf E<vs.length by omega)) hd).1).oneCell _ (List.mem_iff_getElem?.2 ⟨j%P.cellsOf E,?_⟩)
     rw [List.getElem?_take_of_lt (Nat.mod_lt _ hpos),List.getElem?_drop]
     have:=Nat.div_add_mod j (P.cellsOf E)
     rw [Nat.mul_comm] at this
     rw [this,List.getElem?_eq_getElem hj]
    ·simp only [aa8,hu,PV.agg.injEq,exists_eq_left']
     refine ⟨hl,fun x hx=>?_⟩
     obtain ⟨i,hi⟩:=List.mem_iff_getElem?.1 hx
     exact (g2 i x hi (lt hi)).2
   ·cases hstep
  ·cases hp
end
theorem alz {P:Program}{n:Nat}{T:TypeId}{v:PV}{fs:Array Field} (h:aa8 P n T v) (hu:P.underlying T=some (.struct fs)):
 ∃ vs m,v=.agg vs/\vs.length=fs.size/\∀ (i:Nat) (x:PV) (f:Field),vs[i]?=some x->fs[i]?=some f->aa8 P m f.type x:=by
 cases n with
 | zero=>cases h
 | succ n=>
  simp only [aa8,hu] at h
  obtain ⟨vs,h1,h2,h3⟩:=h
  exact ⟨vs,n,h1,h2,h3⟩
theorem aw1 {P:Program}{n:Nat}{T E:TypeId}{v:PV} (h:aa8 P n T v) (hu:P.underlying T=some (.slice E)):∃ xs m,v=.slice xs/\∀ x,x∈xs->aa8 P m E x:=by
 cases n with
 | zero=>cases h
 | succ n=>
  simp only [aa8,hu] at h
  obtain ⟨xs,h1,h2⟩:=h
  exact ⟨xs,n,h1,h2⟩
theorem a2s {P:Program}{n:Nat}{T:TypeId}{k:IntKind}{v:PV} (h:aa8 P n T v) (hu:P.underlying T=some (.int k)):∃ m,v=.int m/\(Lit.int k m).wf=true:=by
 cases n with
 | zero=>cases h
 | succ n=>simpa only [aa8,hu] using h
theorem ad9 (v:PV):v.asList.length+1<=aam v:=by
 cases v with
 | slice xs=>have:=anf xs;simp [PV.asList,aam];omega
 | _=>have:=ad2;simp [PV.asList,aam]
theorem ao2 (v:PV):v.asStr.length+1<=aam v:=by
 cases v<;>simp [PV.asStr,aam]
end Go.Ab
