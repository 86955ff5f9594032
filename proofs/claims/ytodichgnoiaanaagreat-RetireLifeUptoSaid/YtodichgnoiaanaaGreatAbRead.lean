/- Reading slots; zero values; plain data out of slots; parts of a box. -/
import Derived.Test.YtodichgnoiaanaaGreatAbRel
import Derived.Laws.StructEq
set_option linter.unusedVariables false
set_option linter.unusedSimpArgs false
set_option linter.unnecessarySimpa false
namespace Go.Ab
open Go
section
variable {Γ:Ctx}{D:Dom}{ow:Own}{μ:Nat->Nat}{e:Env}{st:List BX}{a:Act}{w:World}
theorem ath (h:Slots Γ D ow μ e st a w):∀ (f t1:Nat) (w1:Bool) (t:Nat) (v:Bool),ah6 e f t1 w1 t v=true->a.tmps.getD t1 Go.undef=.bool w1->a.tmps.getD t Go.undef=.bool v:=by
 intro f
 induction f with
 | zero=>intro t1 w1 t v hh;simp [ah6] at hh
 | succ f ih=>
  intro t1 w1 t v hh hv
  unfold ah6 at hh
  cases hb:(Nat.beq t1 t&&(bif w1 then v else !v)) with
  | true=>
   simp only [Bool.and_eq_true] at hb
   obtain ⟨h1,h2⟩:=hb
   have e1:t1=t:=Nat.eq_of_beq_eq_true h1
   have e2:w1=v:=by cases w1<;>cases v<;>simp_all
   rw [<-e1,<-e2];exact hv
  | false=>
   rw [hb] at hh
   simp only [cond_false] at hh
   have hs:=h.slot t1
   cases he:e t1 with
   | gd t2 w2 x=>
    rw [he] at hh hs
    refine ih t2 w2 t v hh ?_
    by_cases hc:a.tmps.getD t2 Go.undef=.bool w2
    ·exact hc
    ·have:=hs.2 hc
     rw [hv] at this
     cases this
   | _=>rw [he] at hh;simp at hh
theorem anb (h:Slots Γ D ow μ e st a w) (gs:List (Nat×Bool)) (hg:∀ x,x∈gs->a.tmps.getD x.1 Go.undef=.bool x.2) (t:Nat) (v:Bool) (hh:ag4 e gs t v=true):a.tmps.getD t Go.undef=.bool v:=by
 induction gs with
 | nil=>simp [ag4] at hh
 | cons x r ih=>
  obtain ⟨t1,w1⟩:=x
  unfold ag4 at hh
  cases hb:ah6 e 8 t1 w1 t v with
  | true=>exact ath h 8 t1 w1 t v hb (hg (t1,w1) (by simp))
  | false=>
   rw [hb] at hh
   exact ih (fun x hx=>hg x (by simp [hx])) hh
theorem a3l (h:Slots Γ D ow μ e st a w) (gs:List (Nat×Bool)) (hg:∀ x,x∈gs->a.tmps.getD x.1 Go.undef=.bool x.2) (t:Nat):SRep Γ.P D w ow μ st (rd e gs (e t)) (a.tmps.getD t Go.undef):=by
 have hs:=h.slot t
 cases he:e t with
 | gd t1 w1 x=>
  rw [he] at hs
  simp only [rd]
  cases hb:ag4 e gs t1 w1 with
  | true=>exact hs.1 (anb h gs hg t1 w1 hb)
  | false=>exact .undef
 | _=>rw [he] at hs;exact hs
theorem ao3 (v:Value):SRep Γ.P D w ow μ st (as7 v) v:=by
 unfold as7
 split
 ·exact .bool
 ·exact .int
 ·rename_i s
  exact .str (s:=s.data.toList)
 ·exact .nils
 ·exact .eif (fun _=>rfl) (fun h=>by cases h)
 ·exact .raw
theorem abm (h:Slots Γ D ow μ e st a w) (gs:List (Nat×Bool)) (hg:∀ x,x∈gs->a.tmps.getD x.1 Go.undef=.bool x.2) (x:Operand):SRep Γ.P D w ow μ st (opd e gs x) (a.eval x):=by
 cases x with
 | tmp t=>exact a3l h gs hg t
 | const v=>exact ao3 v
 | global g=>exact .undef
 | func f=>exact .fn (caps:=[]) rfl (by simp) (fun i s v hi=>by simp at hi)
theorem ae7 (h:Slots Γ D ow μ e st a w):∀ (f t:Nat) (v c:Bool),gval e f t v=some c->(a.tmps.getD t Go.undef=.bool v ↔ c=true):=by
 intro f
 induction f with
 | zero=>intro t v c hh;simp [gval] at hh
 | succ f ih=>
  intro t v c hh
  unfold gval at hh
  have hs:=h.slot t
  cases he:e t with
  | bool b=>
   rw [he] at hh hs
   simp only [Option.some.injEq] at hh
   have hv:a.tmps.getD t Go.undef=.bool b:=by generalize a.tmps.getD t Go.undef=u at hs;cases hs;rfl
   rw [hv,<-hh]
   cases b<;>cases v<;>simp [bq]
  | gd t1 w1 x=>
   cases x with
   | bool b=>
    rw [he] at hh hs
    simp only at hh
    cases hg:gval e f t1 w1 with
    | none=>rw [hg] at hh;simp at hh
    | some c1=>
     rw [hg] at hh
     simp only [Option.some.injEq] at hh
     have hi:=ih t1 w1 c1 hg
     by_cases hc:a.tmps.getD t1 Go.undef=.bool w1
     ·have hv:a.tmps.getD t Go.undef=.bool b:=by have:=hs.1 hc;generalize a.tmps.getD t Go.undef=u at this;cases this;rfl
      have c1t:=hi.1 hc
      rw [hv,<-hh,c1t]
      cases b<;>cases v<;>simp [bq]
     ·have hv:=hs.2 hc
      have c1f:c1=false:=by cases c1<;>simp_all
      rw [hv,<-hh,c1f]
      constructor
      ·intro hh;cases hh
      ·intro hh;cases b<;>cases v<;>simp [bq] at hh
   | _=>rw [he] at hh;simp at hh
  | _=>rw [he] at hh;simp at hh
end
theorem anl (P:Program):∀ (l:List Field) (n m:Nat),ab3 P l n=some m->
 n<=m/\∀ (i:Nat) (f:Field),l[i]?=some f->n<=f.offset/\f.offset+P.cellsOf f.type<=m/\0<P.cellsOf f.type/\(aaj P f.type=true∨P.cellsOf f.type=1)/\
  ∀ (j:Nat) (g:Field),l[j]?=some g->i<j->f.offset+P.cellsOf f.type<=g.offset:=by
 intro l
 induction l with
 | nil=>intro n m h;simp [ab3] at h;subst h;exact ⟨Nat.le_refl _,fun i f hi=>by simp at hi⟩
 | cons x r ih=>
  intro n m h
  unfold ab3 at h
  cases hc:(Nat.beq x.offset n&&!(Nat.beq (P.cellsOf x.type) 0)&&(aaj P x.type||Nat.beq (P.cellsOf x.type) 1)) with
  | false=>rw [hc] at h;simp at h
  | true=>
   rw [hc] at h
   simp only [cond_true] at h
   simp only [Bool.and_eq_true,Bool.not_eq_true',Bool.or_eq_true] at hc
   obtain ⟨⟨h1,h2⟩,h3⟩:=hc
   have e1:x.offset=n:=Nat.eq_of_beq_eq_true h1
   have h2':0<P.cellsOf x.type:=by
    rcases Nat.eq_zero_or_pos (P.cellsOf x.type) with h0 | h0
    ·rw [h0] at h2;cases h2
    ·exact h0
   obtain ⟨hle,hr⟩:=ih _ _ h
   refine ⟨by omega,fun i f hi=>?_⟩
   cases i with
   | zero=>
    simp at hi;subst hi
    refine ⟨by omega,by omega,h2',h3.imp id Nat.eq_of_beq_eq_true,fun j g hj hij=>?_⟩
    cases j with
    | zero=>omega
    | succ j=>simp at hj;have:=(hr j g hj).1;omega
   | succ i=>
    simp at hi
    obtain ⟨q1,q2,q3,q4,q5⟩:=hr i f hi
    refine ⟨by omega,q2,q3,q4,fun j g hj hij=>?_⟩
    cases j with
    | zero=>omega
    | succ j=>simp at hj;exact q5 j g hj (by omega)
theorem al5 (P:Program):∀ (l:List Field) (n m:Nat),ab3 P l n=some m->∀ j,n<=j->j<m->∃ (i:Nat) (f:Field),l[i]?=some f/\f.offset<=j/\j<f.offset+P.cellsOf f.type:=by
 intro l
 induction l with
 | nil=>intro n m h j h1 h2;simp [ab3] at h;omega
 | cons x r ih=>
  intro n m h j h1 h2
  unfold ab3 at h
  cases hc:(Nat.beq x.offset n&&!(Nat.beq (P.cellsOf x.type) 0)&&(aaj P x.type||Nat.beq (P.cellsOf x.type) 1)) with
  | false=>rw [hc] at h;simp at h
  | true=>
   rw [hc] at h
   simp only [cond_true] at h
   simp only [Bool.and_eq_true] at hc
   have e1:x.offset=n:=Nat.eq_of_beq_eq_true hc.1.1
   by_cases hj:j<n+P.cellsOf x.type
   ·exact ⟨0,x,rfl,by omega,by omega⟩
   ·obtain ⟨i,f,q1,q2⟩:=ih _ _ h j (by omega) h2
    exact ⟨i+1,f,by simpa using q1,q2⟩
structure Laid (P:Program) (T:TypeId) (fs:Array Field):Prop where
 inside:∀ (i:Nat) (f:Field),fs[i]?=some f->f.offset+P.cellsOf f.type<=P.cellsOf T
 pos:∀ (i:Nat) (f:Field),fs[i]?=some f->0<P.cellsOf f.type
 one:∀ (i:Nat) (f:Field),fs[i]?=some f->aaj P f.type=true∨P.cellsOf f.type=1
 apart:∀ (i j:Nat) (f g:Field),fs[i]?=some f->fs[j]?=some g->i<j->f.offset+P.cellsOf f.type<=g.offset
 cover:∀ j,j<P.cellsOf T->∃ (i:Nat) (f:Field),fs[i]?=some f/\f.offset<=j/\j<f.offset+P.cellsOf f.type
theorem ab9 {P:Program}{T:TypeId}{fs:Array Field} (h:abz P T=true) (hT:P.underlying T=some (.struct fs)):Laid P T fs:=by
 unfold abz at h
 rw [hT] at h
 simp only at h
 cases hl:ab3 P fs.toList 0 with
 | none=>rw [hl] at h;cases h
 | some n=>
  rw [hl] at h
  have en:n=P.cellsOf T:=Nat.eq_of_beq_eq_true h
  obtain ⟨_,hs⟩:=anl P _ _ _ hl
  have tl:∀ (i:Nat),fs.toList[i]?=fs[i]?:=fun i=>by simp
  exact ⟨fun i f hi=>by have:=(hs i f (by rw [tl];exact hi)).2.1;omega,fun i f hi=>(hs i f (by rw [tl];exact hi)).2.2.1,fun i f hi=>(hs i f (by rw [tl];exact hi)).2.2.2.1,
   fun i j f g hi hj hij=>(hs i f (by rw [tl];exact hi)).2.2.2.2 j g (by rw [tl];exact hj) hij,
   fun j hj=>by obtain ⟨i,f,q1,q2⟩:=al5 P _ _ _ hl j (Nat.zero_le _) (by omega);exact ⟨i,f,by rw [<-tl];exact q1,q2⟩⟩
theorem Laid.oneCell {P:Program}{T:TypeId}{fs:Array Field} (h:Laid P T fs) {cs:List Value} (hl:cs.length=P.cellsOf T)
 (ho:∀ (i:Nat) (f:Field),fs[i]?=some f->∀ c,c∈(cs.drop f.offset).take (P.cellsOf f.type)->c.oneCell'=true):∀ c,c∈cs->c.oneCell'=true:=by
 intro c hc
 obtain ⟨j,hj,rfl⟩:=List.mem_iff_getElem.1 hc
 obtain ⟨i,f,q1,q2,q3⟩:=h.cover j (by omega)
 refine ho i f q1 _ (List.mem_iff_getElem?.2 ⟨j-f.offset,?_⟩)
 rw [List.getElem?_take_of_lt (by omega),List.getElem?_drop,show f.offset+(j-f.offset)=j by omega,List.getElem?_eq_getElem hj]
theorem Laid.len {P:Program}{T:TypeId}{fs:Array Field} (h:Laid P T fs) {cs:List Value} (hl:cs.length=P.cellsOf T) {i:Nat}{f:Field} (hf:fs[i]?=some f):
 ((cs.drop f.offset).take (P.cellsOf f.type)).length=P.cellsOf f.type:=by
 have:=h.inside i f hf
 simp;omega
theorem aoi {P:Program}{T:TypeId}{cs:List Value} (h:aaj P T=true∨cs.length=1) (ho:∀ c,c∈cs->c.oneCell'=true):(pack P T cs).cells.toList=cs:=by
 unfold pack
 cases ha:aaj P T with
 | true=>simp [Value.cells]
 | false=>
  rcases h with h | h
  ·rw [ha] at h;cases h
  ·match cs,h with
   | [c],_=>
    have:=ho c (by simp)
    cases c<;>simp_all [Value.oneCell',Value.cells]
theorem adx {v:Value} (h:v.oneCell'=true):v.cells=#[v]:=by cases v<;>simp_all [Value.oneCell',Value.cells]
section
variable {P:Program}{D:Dom}{ow:Own}{μ:Nat->Nat}{st:List BX}{w:World}
theorem aw5:∀ (ds:List Field) (ss:List SV),aw4 P ds ss=true->ds.length=ss.length/\∀ (i:Nat) (f:Field) (s:SV),ds[i]?=some f->ss[i]?=some s->isOf P f.type s=true:=by
 intro ds
 induction ds with
 | nil=>intro ss h;cases ss with
  | nil=>exact ⟨rfl,fun i f s hi=>by simp at hi⟩
  | cons x r=>simp [aw4] at h
 | cons d r ih=>intro ss h;cases ss with
  | nil=>simp [aw4] at h
  | cons x q=>
   simp only [aw4,Bool.and_eq_true] at h
   obtain ⟨h1,h2⟩:=ih q h.2
   refine ⟨by simp [h1],fun i f s hi hs=>?_⟩
   cases i with
   | zero=>simp at hi hs;subst hi;subst hs;exact h.1
   | succ i=>exact h2 i f s (by simpa using hi) (by simpa using hs)
theorem a1j:∀ (ss:List SV) (i:Nat),(aqd ss)[i]?=(ss[i]?).map toPV:=by
 intro ss
 induction ss with
 | nil=>intro i;simp [aqd]
 | cons x r ih=>intro i;cases i with
  | zero=>simp [aqd]
  | succ i=>simp [aqd,ih]
theorem asn (ss:List SV):(aqd ss).length=ss.length:=by
 induction ss with
 | nil=>simp [aqd]
 | cons x r ih=>simp [aqd,ih]
theorem aba {s:SV}{v:Value} (h:SRep P D w ow μ st s v):∀ T,isOf P T s=true->Rep P D w T (toPV s) v.cells.toList:=by
 induction h with
 | eif=>intro T h;simp [isOf] at h
 | ifc=>intro T h;simp [isOf] at h
 | lit hs=>
  intro T h
  unfold isOf at h;split at h
  ·rename_i hT;have:=Nat.eq_of_beq_eq_true h;subst this
   exact hs.rep hT
  ·cases h
 | arrOld=>intro T h;simp [isOf] at h
 | arrNil=>intro T h;simp [isOf] at h
 | arr=>intro T h;simp [isOf] at h
 | arefOld=>intro T h;simp [isOf] at h
 | aref=>intro T h;simp [isOf] at h
 | eref=>intro T h;simp [isOf] at h
 | asl=>intro T h;simp [isOf] at h
 | undef=>intro T h;simp [isOf] at h
 | bool=>
  intro T h
  unfold isOf at h;split at h
  ·rename_i hT;exact .bool hT
  ·cases h
 | int=>
  intro T h
  unfold isOf at h;split at h
  ·rename_i hT;simp at h;subst h;exact .int hT
  ·cases h
 | str=>
  intro T h
  unfold isOf at h;split at h
  ·rename_i hT;exact .str hT
  ·cases h
 | slice hs=>
  intro T h
  unfold isOf at h;split at h
  ·rename_i hT;have:=Nat.eq_of_beq_eq_true h;subst this
   have:=hs.rep hT
   cases hs<;>exact this
  ·cases h
 | data ha hr=>
  intro T h
  unfold isOf at h
  have:=Nat.eq_of_beq_eq_true h;subst this
  simpa [Value.cells,toPV] using hr
 | @agg T' fs vs cs hT hl ho hv hp ih=>
  intro T h
  simp only [isOf,Bool.and_eq_true] at h
  obtain ⟨⟨h1,h2⟩,h3⟩:=h
  have:=Nat.eq_of_beq_eq_true h1;subst this
  rw [hT] at h3
  simp only at h3
  obtain ⟨q1,q2⟩:=aw5 _ _ h3
  have hL:=ab9 h2 hT
  simp only [toPV,Value.cells]
  refine .agg hT hl ho (by rw [asn];exact hv) (fun i v f hi hf=>?_)
  rw [a1j] at hi
  cases hs:vs[i]? with
  | none=>rw [hs] at hi;simp at hi
  | some s=>
   rw [hs] at hi;simp at hi;subst hi
   have:=ih i s f hs hf f.type (q2 i f s (by simpa using hf) hs)
   rwa [aoi ((hL.one i f hf).imp id (fun h1=>by rw [hL.len hl hf];exact h1)) (fun c hc=>ho c (List.mem_of_mem_drop (List.mem_of_mem_take hc)))] at this
 | map hm=>
  intro T h
  unfold isOf at h;split at h
  ·rename_i hT;simp only [Bool.and_eq_true] at h
   have e1:=Nat.eq_of_beq_eq_true h.1;have e2:=Nat.eq_of_beq_eq_true h.2;subst e1;subst e2
   cases hm with
   | nil=>exact .mapnil hT
   | mk kc vc a b c d e f=>exact .map kc vc hT a b c d e f
  ·cases h
 | nils=>
  intro T h
  unfold isOf at h;split at h
  ·rename_i hT;exact .nil hT fun _=>rfl
  ·cases h
 | acc hs=>
  intro T h
  unfold isOf at h;split at h
  ·rename_i hT;have:=Nat.eq_of_beq_eq_true h;subst this
   have:=hs.rep hT
   cases hs<;>exact this
  ·cases h
 | ref=>intro T h;simp [isOf] at h
 | mref=>intro T h;simp [isOf] at h
 | iref=>intro T h;simp [isOf] at h
 | mitr=>intro T h;simp [isOf] at h
 | sln=>intro T h;simp [isOf] at h
 | bref=>intro T h;simp [isOf] at h
 | nx=>intro T h;simp [isOf] at h
 | pto=>intro T h;simp [isOf] at h
 | fn=>intro T h;simp [isOf] at h
 | tup=>intro T h;simp [isOf] at h
 | raw=>
  intro T h
  simp only [isOf,Bool.and_eq_true] at h
  rw [adx h.2]
  exact .raw h.1 h.2
theorem ax5:∀ (n:Nat) (T:TypeId) (cs:List Value),zeroCells? P n T cs=true->SRep P D w ow μ st (abd P n T) (pack P T cs)/\(∀ c,c∈cs->c.oneCell'=true):=by
 intro n
 induction n with
 | zero=>intro T cs h;simp [zeroCells?] at h
 | succ n ih=>
  intro T cs h
  cases hT:P.underlying T with
  | none=>simp [zeroCells?,hT] at h
  | some d=>
   cases d with
   | struct fs=>
    simp only [zeroCells?,hT,Bool.and_eq_true] at h
    obtain ⟨⟨hL,hlen⟩,hall⟩:=h
    have hL:=ab9 hL hT
    have hlen:cs.length=P.cellsOf T:=Nat.eq_of_beq_eq_true hlen
    have hf:∀ (i:Nat) (f:Field),fs[i]?=some f->zeroCells? P n f.type ((cs.drop f.offset).take (P.cellsOf f.type))=true:=by
     intro i f hi
     exact List.all_eq_true.1 hall f (by rw [List.mem_iff_getElem?];exact ⟨i,by simpa using hi⟩)
    have ha:aaj P T=true:=by simp [aaj,hT]
    have ho:=hL.oneCell hlen (fun i f hi=>(ih _ _ (hf i f hi)).2)
    refine ⟨?_,ho⟩
    simp only [abd,hT,pack,ha,if_true]
    refine .agg hT hlen ho (by simp) (fun i v f hv hi=>?_)
    have hi':fs.toList[i]?=some f:=by simpa using hi
    rw [List.getElem?_map,hi'] at hv
    simp at hv
    subst hv
    exact (ih _ _ (hf i f hi)).1
   | array k E=>
    simp only [zeroCells?,hT,Bool.and_eq_true,Bool.or_eq_true] at h
    obtain ⟨⟨⟨⟨h1,h2⟩,h3⟩,h4⟩,h5⟩:=h
    have h1:=Nat.eq_of_beq_eq_true h1
    have h2:=Nat.eq_of_beq_eq_true h2
    have hi:∀ i,i<k->zeroCells? P n E ((cs.drop (i*P.cellsOf E)).take (P.cellsOf E))=true:=fun i hi=>List.all_eq_true.1 h5 i (List.mem_range.2 hi)
    have hle:∀ i,i<k->i*P.cellsOf E+P.cellsOf E<=cs.length:=fun i hi=>by
     rw [h1,h2]
     have:(i+1)*P.cellsOf E<=k*P.cellsOf E:=Nat.mul_le_mul_right _ (by omega)
     rw [Nat.add_mul] at this;omega
    have ho:∀ c,c∈cs->c.oneCell'=true:=by
     intro c hc
     obtain ⟨j,hj,rfl⟩:=List.mem_iff_getElem.1 hc
     have hpos:0<P.cellsOf E:=by
      rcases Nat.eq_zero_or_pos (P.cellsOf E) with h0 | h0
      ·rw [h0,Nat.mul_zero] at h2;omega
      ·exact h0
     have hd:j / P.cellsOf E<k:=by rw [Nat.div_lt_iff_lt_mul hpos];omega
     refine (ih E _ (hi _ hd)).2 _ (List.mem_iff_getElem?.2 ⟨j%P.cellsOf E,?_⟩)
     rw [List.getElem?_take_of_lt (Nat.mod_lt _ hpos),List.getElem?_drop]
     have:=Nat.div_add_mod j (P.cellsOf E)
     rw [Nat.mul_comm] at this
     rw [this,List.getElem?_eq_getElem hj]
    have ha:aaj P T=true:=by simp [aaj,hT]
    refine ⟨?_,ho⟩
    simp only [abd,hT,pack,ha,if_true]
    refine .data ha (.arr hT h1 ho (by simp) (fun i v hv=>?_))
    obtain ⟨hlt,hv⟩:=List.getElem?_eq_some_iff.1 hv
    simp at hlt
    simp at hv
    subst hv
    have hz:=(ih E _ (hi i hlt)).1
    have hr:=aba hz E h4
    have hl:((cs.drop (i*P.cellsOf E)).take (P.cellsOf E)).length=P.cellsOf E:=by
     rw [List.length_take,List.length_drop];have:=hle i hlt;omega
    have hoo:=(ih E _ (hi i hlt)).2
    generalize (cs.drop (i*P.cellsOf E)).take (P.cellsOf E)=zs at*
    have hp:(pack P E zs).cells.toList=zs:=by
     cases hE:aaj P E with
     | true=>simp [pack,hE,Value.cells]
     | false=>
      rw [hE] at h3
      rcases h3 with h3 | h3
      ·cases h3
      ·have h3:=Nat.eq_of_beq_eq_true h3
       rw [h3] at hl
       match zs,hl,hoo with
       | [u],_,hoo=>
        have hu:=hoo u (by simp)
        simp only [pack,hE,Bool.false_eq_true,if_false,List.headD]
        rw [adx hu]
    rwa [hp] at hr
   | _=>
    simp only [zeroCells?,hT] at h
    try split at h
    all_goals first
     | (rename_i hq;cases hq;done)
     | (simp at h;done)
     | skip
    all_goals (try (rename_i hq;cases hq))
    all_goals simp only [abd,hT,pack,aaj]
    all_goals first
     | (simp at h;subst h;exact ⟨.bool,by simp [Value.oneCell']⟩)
     | (simp at h;obtain ⟨rfl,rfl⟩:=h;exact ⟨.int,by simp [Value.oneCell']⟩)
     | (exact ⟨.nils,by simp [Value.oneCell']⟩)
     | (exact ⟨.map .nil,by simp [Value.oneCell']⟩)
     | (exact ⟨.raw,by simp [Value.oneCell']⟩)
     | (rename_i s
        have hs:s=⟨#[]⟩:=by
         cases s with
         | mk d=>simp at h;subst h;rfl
        subst hs
        exact ⟨.str,by simp [Value.oneCell']⟩)
     | (trace_state;fail)
theorem Rep.aggLen {T:TypeId}{v:PV}{cs:List Value} (h:Rep P D w T v cs) (ha:aaj P T=true):cs.length=P.cellsOf T:=by
 cases h with
 | agg _ hl=>exact hl
 | arr _ hl=>exact hl
 | raw hr=>unfold rawT at hr;unfold aaj at ha;split at ha<;>simp_all
 | bool hT=>simp [aaj,hT] at ha
 | int hT=>simp [aaj,hT] at ha
 | str hT=>simp [aaj,hT] at ha
 | nil hT=>simp [aaj,hT] at ha
 | slice hT=>simp [aaj,hT] at ha
 | mapnil hT=>simp [aaj,hT] at ha
 | map _ _ hT=>simp [aaj,hT] at ha
theorem ae6 {s:SV}{v:Value}{T:TypeId} (h:SRep P D w ow μ st s v) (hf:af9 P T s=true):
 v.cells.toList.length=P.cellsOf T/\(∀ c,c∈v.cells.toList->c.oneCell'=true)/\pack P T v.cells.toList=v:=by
 have one:∀ {u:Value},u.oneCell'=true->(!aaj P T&&Nat.beq (P.cellsOf T) 1)=true->u.cells.toList.length=P.cellsOf T/\(∀ c,c∈u.cells.toList->c.oneCell'=true)/\pack P T u.cells.toList=u:=by
  intro u hu hb
  simp only [Bool.and_eq_true,Bool.not_eq_true'] at hb
  have e1:=Nat.eq_of_beq_eq_true hb.2
  rw [adx hu]
  refine ⟨by simp [e1],by simpa using hu,by simp [pack,hb.1]⟩
 cases h with
 | undef=>simp [af9] at hf
 | nx=>simp [af9] at hf
 | tup=>simp [af9] at hf
 | data ha hr=>
  simp only [af9,Bool.and_eq_true] at hf
  have:=Nat.eq_of_beq_eq_true hf.1;subst this
  exact ⟨by simpa [Value.cells] using hr.aggLen ha,by simpa [Value.cells] using hr.oneCell,by simp [Value.cells,pack,ha]⟩
 | agg hT hl ho hv hp=>
  simp only [af9,Bool.and_eq_true] at hf
  have:=Nat.eq_of_beq_eq_true hf.1;subst this
  exact ⟨by simpa [Value.cells] using hl,by simpa [Value.cells] using ho,by simp [Value.cells,pack,hf.2]⟩
 | raw=>simp only [af9,Bool.and_eq_true] at hf;exact one hf.2 (by simpa using hf.1)
 | slice hs=>cases hs<;>exact one rfl hf
 | map hs=>cases hs<;>exact one rfl hf
 | acc hs=>cases hs<;>exact one rfl hf
 | @eif b v h1 h2=>
  cases b with
  | true=>rw [h1 rfl];exact one rfl hf
  | false=>obtain ⟨t,u,rfl⟩:=h2 rfl;exact one rfl hf
 | arrOld _ _ ho=>exact one ho hf
 | arefOld _ _ ho=>exact one ho hf
 | _=>exact one rfl hf
theorem at7 (T:TypeId) (v:PV):∀ (ds:List Field) (n i:Nat),(afx P T v ds n)[i]?=(ds[i]?).map fun f=>ofPV P f.type (v.fld (n+i)):=by
 intro ds
 induction ds with
 | nil=>intro n i;simp [afx]
 | cons d r ih=>intro n i;cases i with
  | zero=>simp [afx]
  | succ i=>simp [afx,ih,show n+1+i=n+(i+1) by omega]
theorem anp (T:TypeId) (v:PV):∀ (ds:List Field) (n:Nat),(afx P T v ds n).length=ds.length:=by
 intro ds
 induction ds with
 | nil=>intro n;simp [afx]
 | cons d r ih=>intro n;simp [afx,ih]
theorem apc {vs:List PV}{i:Nat}{v:PV} (h:vs[i]?=some v):PV.fld (.agg vs) i=v:=by
 simp [PV.fld,PV.parts,List.getD,h]
theorem agk {s:SV}{TB:TypeId}{cs:List Value}{fs:List SV}{ds:Array Field} (hs:SRep P D w ow μ st s (pack P TB cs)) (he:af4 P TB s=some fs) (hT:P.underlying TB=some (.struct ds)):
 Laid P TB ds/\cs.length=P.cellsOf TB/\fs.length=ds.size/\(∀ c,c∈cs->c.oneCell'=true)/\
  ∀ (i:Nat) (x:SV) (f:Field),fs[i]?=some x->ds[i]?=some f->SRep P D w ow μ st x (pack P f.type ((cs.drop f.offset).take (P.cellsOf f.type))):=by
 have ha:aaj P TB=true:=by simp [aaj,hT]
 unfold af4 at he
 cases hl:abz P TB with
 | false=>rw [hl] at he;simp at he
 | true=>
  rw [hl] at he
  simp only [cond_true] at he
  have hL:=ab9 hl hT
  have hpk:pack P TB cs=.agg cs.toArray:=by simp [pack,ha]
  rw [hpk] at hs
  generalize hv:Value.agg cs.toArray=v at hs
  cases hs with
  | @agg T fs' vs cs' hT' hl' ho hv' hp=>
   simp only at he
   cases hb:Nat.beq TB T with
   | false=>rw [hb] at he;simp at he
   | true=>
    rw [hb] at he
    simp only [cond_true,Option.some.injEq] at he
    have:=Nat.eq_of_beq_eq_true hb;subst this;subst he
    rw [hT] at hT';cases hT'
    have e:cs=cs':=by simpa using hv
    subst e
    exact ⟨hL,hl',hv',ho,hp⟩
  | @data T pv cs' hagg hr=>
   simp only at he
   cases hb:Nat.beq TB T with
   | false=>rw [hb] at he;simp at he
   | true=>
    rw [hb,hT] at he
    simp only [cond_true,Option.some.injEq] at he
    have:=Nat.eq_of_beq_eq_true hb;subst this;subst he
    have e:cs=cs':=by simpa using hv
    subst e
    cases hr with
    | @agg _ fs2 vs cs2 hT2 hl2 ho2 hv2 hr2=>
     rw [hT] at hT2;cases hT2
     refine ⟨hL,hl2,by rw [anp];simp,ho2,fun i x f hi hf=>?_⟩
     rw [at7] at hi
     have hf':ds.toList[i]?=some f:=by simpa using hf
     rw [hf'] at hi
     simp at hi
     subst hi
     have hlt:i<vs.length:=by rw [hv2];exact (Array.getElem?_eq_some_iff.1 hf).1
     have hvi:vs[i]?=some vs[i]:=List.getElem?_eq_getElem hlt
     rw [apc hvi]
     exact (hr2 i vs[i] f hvi hf).ofPV
    | arr hT2=>rw [hT] at hT2;cases hT2
    | bool hT2=>rw [hT] at hT2;cases hT2
    | int hT2=>rw [hT] at hT2;cases hT2
    | str hT2=>rw [hT] at hT2;cases hT2
    | nil hT2=>rw [hT] at hT2;cases hT2
    | slice hT2=>rw [hT] at hT2;cases hT2
    | mapnil hT2=>rw [hT] at hT2;cases hT2
    | map _ _ hT2=>rw [hT] at hT2;cases hT2
    | raw hr2=>simp [rawT,hT] at hr2
  | _=>simp at he
theorem aiw:∀ (path:List Nat) (TB:TypeId) (s:SV) (cs:List Value) (off:Nat) (T:TypeId) (x:SV),SRep P D w ow μ st s (pack P TB cs)->cs.length=P.cellsOf TB->aby P TB path=some (off,T)->agn P TB s path=some x->
 SRep P D w ow μ st x (pack P T ((cs.drop off).take (P.cellsOf T)))/\off+P.cellsOf T<=cs.length:=by
 intro path
 induction path with
 | nil=>
  intro TB s cs off T x hs hl hp hg
  simp [aby] at hp
  simp [agn] at hg
  obtain ⟨rfl,rfl⟩:=hp
  subst hg
  exact ⟨by simpa [<-hl] using hs,by omega⟩
 | cons i p ih=>
  intro TB s cs off T x hs hl hp hg
  unfold aby at hp
  unfold agn at hg
  cases hT:P.underlying TB with
  | none=>rw [hT] at hp;simp at hp
  | some d=>
   cases d with
   | struct ds=>
    rw [hT] at hp hg
    simp only at hp hg
    cases hf:ds[i]? with
    | none=>rw [hf] at hp;simp at hp
    | some f=>
     rw [hf] at hp
     simp only at hp
     cases hq:aby P f.type p with
     | none=>rw [hq] at hp;simp at hp
     | some r=>
      obtain ⟨o,t⟩:=r
      rw [hq] at hp
      simp at hp
      obtain ⟨rfl,rfl⟩:=hp
      cases he:af4 P TB s with
      | none=>rw [he] at hg;simp at hg
      | some fs=>
       rw [he] at hg
       simp only at hg
       cases hx:fs[i]? with
       | none=>rw [hx] at hg;simp at hg
       | some y=>
        rw [hx,hf] at hg
        simp only at hg
        obtain ⟨hL,h1,h2,h3,h4⟩:=agk hs he hT
        obtain ⟨q1,q2⟩:=ih f.type y _ o t x (h4 i y f hx hf) (hL.len h1 hf) hq hg
        rw [hL.len h1 hf] at q2
        have hin:=hL.inside i f hf
        refine ⟨?_,by omega⟩
        rw [List.drop_take,List.take_take,List.drop_drop,Nat.min_eq_left (by omega)] at q1
        exact q1
   | _=>rw [hT] at hp;simp at hp
def abf (cs:List Value) (off:Nat) (xs:List Value):List Value:=cs.take off++xs++cs.drop (off+xs.length)
theorem abx {cs xs:List Value}{off:Nat} (h:off+xs.length<=cs.length):(abf cs off xs).length=cs.length:=by
 simp [abf];omega
theorem am2 {cs xs:List Value}{off:Nat} (h:off+xs.length<=cs.length):((abf cs off xs).drop off).take xs.length=xs:=by
 unfold abf
 have h1:(cs.take off).length=off:=by simp;omega
 rw [List.append_assoc,List.drop_append_of_le_length (by omega),List.drop_eq_nil_of_le (by omega:(cs.take off).length<=off),List.nil_append,List.take_append_of_le_length (by omega),List.take_of_length_le (by omega)]
theorem afn {cs xs:List Value}{off:Nat} (h:off+xs.length<=cs.length) (j:Nat):(abf cs off xs)[j]?=if off<=j/\j<off+xs.length then xs[j-off]? else cs[j]?:=by
 unfold abf
 have h1:(cs.take off).length=off:=by simp;omega
 by_cases hj:j<off
 ·rw [List.append_assoc,List.getElem?_append_left (by omega),List.getElem?_take_of_lt hj,if_neg (by omega)]
 ·rw [List.append_assoc,List.getElem?_append_right (by omega),h1]
  by_cases hj2:j<off+xs.length
  ·rw [List.getElem?_append_left (by omega),if_pos (by omega)]
  ·rw [List.getElem?_append_right (by omega),List.getElem?_drop,if_neg (by omega)]
   congr 1;omega
theorem adn {cs xs:List Value}{off:Nat} (h:off+xs.length<=cs.length) {o n:Nat} (ha:o+n<=off∨off+xs.length<=o):((abf cs off xs).drop o).take n=(cs.drop o).take n:=by
 apply List.ext_getElem?
 intro j
 by_cases hj:j<n
 ·rw [List.getElem?_take_of_lt hj,List.getElem?_take_of_lt hj,List.getElem?_drop,List.getElem?_drop,afn h,if_neg (by omega)]
 ·rw [List.getElem?_eq_none (by simp;omega),List.getElem?_eq_none (by simp;omega)]
theorem ajp {cs xs:List Value}{off o n:Nat} (h1:o+n<=cs.length) (h:off+xs.length<=n):((abf cs (o+off) xs).drop o).take n=abf ((cs.drop o).take n) off xs:=by
 have hl:((cs.drop o).take n).length=n:=by simp;omega
 apply List.ext_getElem?
 intro j
 rw [afn (by omega)]
 by_cases hj:j<n
 ·rw [List.getElem?_take_of_lt hj,List.getElem?_drop,afn (by omega),List.getElem?_take_of_lt hj,List.getElem?_drop]
  by_cases hc:off<=j/\j<off+xs.length
  ·rw [if_pos (by omega),if_pos hc];congr 1;omega
  ·rw [if_neg (by omega),if_neg hc]
 ·rw [List.getElem?_eq_none (by simp;omega),if_neg (by omega),List.getElem?_eq_none (by omega)]
theorem ajn:∀ (path:List Nat) (TB:TypeId) (s:SV) (cs:List Value) (off:Nat) (T:TypeId) (x:SV) (xs:List Value) (s':SV),SRep P D w ow μ st s (pack P TB cs)->cs.length=P.cellsOf TB->aby P TB path=some (off,T)->
 SRep P D w ow μ st x (pack P T xs)->xs.length=P.cellsOf T->(∀ c,c∈xs->c.oneCell'=true)->agy P TB s path x=some s'->
 SRep P D w ow μ st s' (pack P TB (abf cs off xs))/\off+xs.length<=cs.length:=by
 intro path
 induction path with
 | nil=>
  intro TB s cs off T x xs s' hs hl hp hx hxl hxo hg
  simp [aby] at hp
  simp [agy] at hg
  obtain ⟨rfl,rfl⟩:=hp
  subst hg
  refine ⟨?_,by omega⟩
  have:abf cs 0 xs=xs:=by simp [abf];omega
  rw [this];exact hx
 | cons i p ih=>
  intro TB s cs off T x xs s' hs hl hp hx hxl hxo hg
  unfold aby at hp
  unfold agy at hg
  cases hT:P.underlying TB with
  | none=>rw [hT] at hp;simp at hp
  | some d=>
   cases d with
   | struct ds=>
    rw [hT] at hp hg
    simp only at hp hg
    cases hf:ds[i]? with
    | none=>rw [hf] at hp;simp at hp
    | some f=>
     rw [hf] at hp
     simp only at hp
     cases hq:aby P f.type p with
     | none=>rw [hq] at hp;simp at hp
     | some r=>
      obtain ⟨o,t⟩:=r
      rw [hq] at hp
      simp at hp
      obtain ⟨rfl,rfl⟩:=hp
      cases he:af4 P TB s with
      | none=>rw [he] at hg;simp at hg
      | some fs=>
       rw [he] at hg
       simp only at hg
       cases hy:fs[i]? with
       | none=>rw [hy] at hg;simp at hg
       | some y=>
        rw [hy,hf] at hg
        simp only at hg
        cases hz:agy P f.type y p x with
        | none=>rw [hz] at hg;simp at hg
        | some z=>
         rw [hz] at hg
         simp only [Option.some.injEq] at hg
         subst hg
         obtain ⟨hL,h1,h2,h3,h4⟩:=agk hs he hT
         obtain ⟨q1,q2⟩:=ih f.type y _ o t x xs z (h4 i y f hy hf) (hL.len h1 hf) hq hx hxl hxo hz
         rw [hL.len h1 hf] at q2
         have hin:=hL.inside i f hf
         have hle:f.offset+o+xs.length<=cs.length:=by omega
         have ha:aaj P TB=true:=by simp [aaj,hT]
         refine ⟨?_,hle⟩
         have hpk:pack P TB (abf cs (f.offset+o) xs)=.agg (abf cs (f.offset+o) xs).toArray:=by simp [pack,ha]
         rw [hpk]
         refine .agg hT (by rw [abx hle];exact h1) ?_ (by simpa using h2) (fun j v g hj hg=>?_)
         ·intro c hc
          unfold abf at hc
          simp only [List.mem_append] at hc
          rcases hc with (hc | hc) | hc
          ·exact h3 c (List.mem_of_mem_take hc)
          ·exact hxo c hc
          ·exact h3 c (List.mem_of_mem_drop hc)
         ·by_cases hij:j=i
          ·subst hij
           rw [hf] at hg;cases hg
           have hlt:j<fs.length:=(List.getElem?_eq_some_iff.1 hy).1
           rw [List.getElem?_set_self hlt] at hj
           cases hj
           rw [ajp (by omega) q2]
           exact q1
          ·rw [List.getElem?_set_ne (by omega)] at hj
           rw [adn hle]
           ·exact h4 j v g hj hg
           ·rcases Nat.lt_or_gt_of_ne hij with hlt | hgt
            ·have:=hL.apart j i g f hg hf hlt;omega
            ·have:=hL.apart i j f g hf hg hgt;omega
   | _=>rw [hT] at hp;simp at hp
end
end Go.Ab
namespace Go.Ab
open Go
theorem aa5 {P:Program}{T:TypeId} (h:P.cellsOf T≠0):∃ i,P.info? T=some i/\i.size=P.cellsOf T:=by
 cases hi:P.info? T with
 | none=>simp [Program.cellsOf,hi] at h
 | some i=>exact ⟨i,rfl,by simp [Program.cellsOf,hi]⟩
theorem aix {P:Program}{T:TypeId}{d:TypeDesc} (h:P.underlying T=some d):∃ i,P.info? T=some i/\i.size=P.cellsOf T:=by
 cases hi:P.info? T with
 | none=>simp [Program.underlying,hi] at h
 | some i=>exact ⟨i,rfl,by simp [Program.cellsOf,hi]⟩
theorem aa3 {P:Program}{T:TypeId}{i:TypeInfo} (h:P.info? T=some i) (hs:i.size=P.cellsOf T) (w:World):(sizeOf T).run P w=.ok (P.cellsOf T) w:=by
 simp [sizeOf,typeInfo,h,hs]
theorem akh {P:Program}{T:TypeId} (h:(P.underlying T).isSome=true) (w:World):(isAgg T).run P w=.ok (aaj P T) w:=by
 obtain ⟨d,hd⟩:=Option.isSome_iff_exists.1 h
 cases d<;>simp [isAgg,run_underlying hd,aaj,hd]
theorem aqa {P:Program}{T:TypeId} (hT:(P.underlying T).isSome=true) (cs:List Value) (off:Nat) (h:off+P.cellsOf T<=cs.length) (h1:aaj P T=true∨P.cellsOf T=1) (w:World):
 (part T cs.toArray off).run P w=.ok (pack P T ((cs.drop off).take (P.cellsOf T))) w:=by
 unfold part
 simp only [Sem.run_bind,akh hT,Result.andThen_ok]
 cases ha:aaj P T with
 | true=>
  obtain ⟨d,hd⟩:=Option.isSome_iff_exists.1 hT
  obtain ⟨i,hi,hs⟩:=aix hd
  simp only [if_true,Sem.run_bind,aa3 hi hs,Result.andThen_ok,pack,ha]
  simp [List.extract_toArray,List.extract_eq_take_drop]
 | false=>
  have h1:P.cellsOf T=1:=by rcases h1 with h1 | h1<;>simp_all
  rw [h1] at h ⊢
  have hlt:off<cs.length:=by omega
  have e:(cs.drop off).take 1=[cs[off]]:=by rw [List.drop_eq_getElem_cons hlt];rfl
  simp [hlt,pack,ha,e]
section
variable {P:Program}{D:Dom}{ow:Own}{μ:Nat->Nat}{st:List BX}{w:World}
theorem aj6 {T:TypeId}{s:SV}{fs:List SV}{v:Value} (h:SRep P D w ow μ st s v) (he:af4 P T s=some fs):SRep P D w ow μ st (.agg T fs) v:=by
 have h0:=he
 unfold af4 at he
 cases hl:abz P T with
 | false=>rw [hl] at he;cases he
 | true=>
  rw [hl] at he
  simp only [cond_true] at he
  split at he
  ·rename_i T' fs'
   cases hb:Nat.beq T T' with
   | false=>rw [hb] at he;cases he
   | true=>
    rw [hb] at he
    simp only [cond_true,Option.some.injEq] at he;subst he
    have:=Nat.eq_of_beq_eq_true hb;subst this
    exact h
  ·rename_i T' pv
   cases hb:Nat.beq T T' with
   | false=>rw [hb] at he;cases he
   | true=>
    rw [hb] at he
    simp only [cond_true] at he
    have:=Nat.eq_of_beq_eq_true hb;subst this
    split at he
    ·rename_i ds hT
     cases h with
     | @data _ _ cs ha hr=>
      have hp:SRep P D w ow μ st (.data T pv) (pack P T cs):=by
       simp only [pack,ha,if_true];exact .data ha hr
      obtain ⟨h1,h2,h3,h4,h5⟩:=agk hp h0 hT
      exact .agg hT h2 h4 h3 h5
    ·cases he
  ·cases he
theorem ao9 {T:TypeId}{x y:SV}{a b:Value}{r:Bool} (hx:SRep P D w ow μ st x a) (hy:SRep P D w ow μ st y b) (h:ao8 P T x y=some r) (d:Nat):(Op.equalIn (d+1) T a b).run P w=.ok r w:=by
 unfold ao8 at h
 split at h
 ·rename_i hT
  cases hx;cases hy
  simp only [Option.some.injEq] at h;subst h
  exact run_equalIn_bool w d T _ _ hT
 ·rename_i k0 k a' k' b' hT
  cases hx;cases hy
  cases hkk:decide (k=k') with
  | false=>rw [hkk] at h;cases h
  | true=>
   rw [hkk] at h
   have:=of_decide_eq_true hkk;subst this
   simp only [cond_true,Option.some.injEq] at h;subst h
   exact run_equalIn_int w d T k k0 _ _ hT
 ·rename_i hT
  cases hx;cases hy
  simp only [Option.some.injEq] at h;subst h
  rw [run_equalIn_string w d T _ _ hT]
  simp [ByteArray.toList_mk]
 ·cases h
theorem anx (d:Nat) {xc yc:List Value}:∀ (ds:List Field) (xs ys:List SV) (r:Bool),acy P ds xs ys=some r->(∀ f,f∈ds->f.name≠ "_")->
 (∀ (i:Nat) (f:Field) (x:SV),ds[i]?=some f->xs[i]?=some x->∃ a,(part f.type xc.toArray f.offset).run P w=.ok a w/\SRep P D w ow μ st x a)->
 (∀ (i:Nat) (f:Field) (y:SV),ds[i]?=some f->ys[i]?=some y->∃ a,(part f.type yc.toArray f.offset).run P w=.ok a w/\SRep P D w ow μ st y a)->
 (Op.eqFields (d+1) xc.toArray yc.toArray ds).run P w=.ok r w:=by
 intro ds
 induction ds with
 | nil=>
  intro xs ys r h _ _ _
  cases xs<;>cases ys<;>simp [acy] at h
  subst h
  simp [Op.eqFields]
 | cons f ds ih=>
  intro xs ys r h hn hx hy
  cases xs with
  | nil=>simp [acy] at h
  | cons x xs=>
   cases ys with
   | nil=>simp [acy] at h
   | cons y ys=>
    simp only [acy] at h
    split at h
    ·rename_i b c hb hc
     simp only [Option.some.injEq] at h;subst h
     obtain ⟨a1,p1,q1⟩:=hx 0 f x rfl rfl
     obtain ⟨a2,p2,q2⟩:=hy 0 f y rfl rfl
     have he:=ao9 q1 q2 hb d
     have hi:=ih xs ys c hc (fun g hg=>hn g (by simp [hg])) (fun i g z h1 h2=>hx (i+1) g z (by simpa using h1) (by simpa using h2)) (fun i g z h1 h2=>hy (i+1) g z (by simpa using h1) (by simpa using h2))
     simp only [Op.eqFields,hn f (by simp),ne_eq,not_false_eq_true,if_true,Sem.run_bind,p1,p2,he,Result.andThen_ok]
     cases b
     ·simp
     ·simpa using hi
    ·cases h
theorem ask (T:TypeId) (op:BinOp) (x y:SV) (a b:Value) (v:SV) (ha:SRep P D w ow μ st x a) (hb:SRep P D w ow μ st y b) (h:adz P op T x y=.val true v) (ox oy:Operand):
 ∃ u,(do eqGuard op T ox oy a b;binOp op T a b:Sem Value).run P w=.ok u w/\SRep P D w ow μ st v u:=by
 unfold adz at h
 split at h
 ·rename_i ds xs ys hT hxs hys
  have hax:=aj6 ha hxs
  have hby:=aj6 hb hys
  have hlay:abz P T=true:=by
   unfold af4 at hxs
   cases hl:abz P T with
   | true=>rfl
   | false=>rw [hl] at hxs;cases hxs
  have hL:=ab9 hlay hT
  cases hc:(ds.toList.all (fun f=>!(f.name== "_"))&&!(P.stoodInHeld T)&&!(P.eqGuardType P.depth T)) with
  | false=>rw [hc] at h;cases h
  | true=>
   rw [hc] at h
   simp only [cond_true] at h
   simp only [Bool.and_eq_true,Bool.not_eq_true'] at hc
   obtain ⟨⟨c1,c2⟩,c3⟩:=hc
   cases hax with
   | @agg _ fs _ cs hT1 hl1 ho1 hv1 hp1=>
    rw [hT] at hT1;cases hT1
    cases hby with
    | @agg _ fs2 _ cs2 hT2 hl2 ho2 hv2 hp2=>
     rw [hT] at hT2;cases hT2
     have hf:P.fieldsOf T=ds:=by simp [Program.fieldsOf,hT]
     have hone:∀ (zc:List Value) (zs:List SV),zc.length=P.cellsOf T->(∀ (i:Nat) (v:SV) (f:Field),zs[i]?=some v->ds[i]?=some f->SRep P D w ow μ st v (pack P f.type ((zc.drop f.offset).take (P.cellsOf f.type))))->
      ∀ (i:Nat) (f:Field) (z:SV),ds.toList[i]?=some f->(P.underlying f.type).isSome=true->zs[i]?=some z->∃ u,(part f.type zc.toArray f.offset).run P w=.ok u w/\SRep P D w ow μ st z u:=by
      intro zc zs hl hz i f z hf hs hzi
      have hfi:ds[i]?=some f:=by simpa using hf
      exact ⟨_,aqa hs zc f.offset (by rw [hl];exact hL.inside i f hfi) (by rcases hL.one i f hfi with h | h;exact Or.inl h;exact Or.inr h) w,hz i z f hzi hfi⟩
     have hsome:∀ (ds:List Field) (xs ys:List SV) (r:Bool),acy P ds xs ys=some r->∀ f,f∈ds->(P.underlying f.type).isSome=true:=by
      intro ds
      induction ds with
      | nil=>intro xs ys r _ f hf;cases hf
      | cons g r ih=>
       intro xs ys b hb f hf
       cases xs with
       | nil=>simp [acy] at hb
       | cons x xs=>
        cases ys with
        | nil=>simp [acy] at hb
        | cons y ys=>
         simp only [acy] at hb
         split at hb
         ·rename_i b1 b2 h1 h2
          rcases List.mem_cons.1 hf with rfl | hf
          ·unfold ao8 at h1
           split at h1<;>first | (rename_i hT;rw [hT];rfl) | cases h1
          ·exact ih xs ys b2 h2 f hf
         ·cases hb
     have key:∀ r,acy P ds.toList xs ys=some r->(Op.equalIn 10000 T (.agg cs.toArray) (.agg cs2.toArray)).run P w=.ok r w:=by
      intro r hr
      rw [run_equalIn_struct w 9999 T cs.toArray cs2.toArray (by rw [hf];exact hT) c2,hf]
      refine anx 9998 ds.toList xs ys r hr (fun f hf=>?_) (fun i f z h1 h2=>hone cs xs hl1 hp1 i f z h1 (hsome _ _ _ _ hr f (List.mem_of_getElem? h1)) h2) (fun i f z h1 h2=>hone cs2 ys hl2 hp2 i f z h1 (hsome _ _ _ _ hr f (List.mem_of_getElem? h1)) h2)
      have:=List.all_eq_true.1 c1 f hf
      simpa using this
     split at h
     ·rename_i r hr
      simp only [Ac.val.injEq,true_and] at h;subst h
      exact ⟨.bool r,by rw [Sem.run_bind,run_eqGuard_agg w .eql T ox oy _ _ c3,Result.andThen_ok,run_eql_struct,key r hr];rfl,.bool⟩
     ·rename_i r hr
      simp only [Ac.val.injEq,true_and] at h;subst h
      exact ⟨.bool (!r),by rw [Sem.run_bind,run_eqGuard_agg w .neq T ox oy _ _ c3,Result.andThen_ok,run_neq_struct,key r hr];rfl,.bool⟩
     ·cases h
 ·cases h
end
end Go.Ab
