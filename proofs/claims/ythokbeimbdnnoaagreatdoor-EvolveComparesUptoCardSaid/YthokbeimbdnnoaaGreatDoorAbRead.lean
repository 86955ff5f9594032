/- Reading slots; zero values; plain data out of slots; parts of a box. -/
import Derived.Test.YthokbeimbdnnoaaGreatDoorAbRel
import Derived.Laws.StructEq
set_option linter.unusedVariables false
set_option linter.unusedSimpArgs false
set_option linter.unnecessarySimpa false
namespace Go.Ab
open Go
section
variable {Γ:Ctx}{D:Dom}{ow:Own}{μ:Nat->Nat}{e:Env}{st:List BX}{a:Act}{w:World}
theorem asq (h:Slots Γ D ow μ e st a w):∀ (f z:Nat) (H:Bool) (t:Nat) (v:Bool),ajp e f z H t v=true->a.tmps.getD z Go.undef=.bool H->a.tmps.getD t Go.undef=.bool v:=by
 intro f;induction f with
 | zero=>intro z H t v o;simp [ajp] at o
 | succ f ih=>
  intro z H t v o Z;unfold ajp at o;cases I:(Nat.beq z t&&(bif H then v else !v)) with
  | true=>
   simp only [Ai] at I;obtain ⟨h1,h2⟩:=I;have e1:z=t:=Aa h1;have e2:H=v:=by cases H<;>cases v<;>simp_all
   rw [<-e1,<-e2];exact Z
  | false=>
   rw [I] at o;simp only [Ah] at o;have O:=h.slot z;cases M:e z with
   | gd t2 w2 x=>
    rw [M] at o O;refine ih t2 w2 t v o ?_;by_cases J:a.tmps.getD t2 Go.undef=.bool w2
    ·exact J
    ·have:=O.2 J;rw [Z] at this;cases this
   | _=>rw [M] at o;simp at o
theorem amx (h:Slots Γ D ow μ e st a w) (z:List (Nat×Bool)) (M:∀ x,x∈z->a.tmps.getD x.1 Go.undef=.bool x.2) (t:Nat) (v:Bool) (o:ahe e z t v=true):a.tmps.getD t Go.undef=.bool v:=by
 induction z with
 | nil=>simp [ahe] at o
 | cons x r Z=>
  obtain ⟨H,I⟩:=x;unfold ahe at o;cases J:ajp e 8 H I t v with
  | true=>exact asq h 8 H I t v J (M (H,I) (by simp))
  | false=>rw [J] at o;exact Z (λx O=>M x (by simp [O])) o
theorem a2l (h:Slots Γ D ow μ e st a w) (o:List (Nat×Bool)) (O:∀ x,x∈o->a.tmps.getD x.1 Go.undef=.bool x.2) (t:Nat):SRep Γ.P D w ow μ st (rd e o (e t)) (a.tmps.getD t Go.undef):=by
 have z:=h.slot t;cases H:e t with
 | gd I J x=>
  rw [H] at z;simp only [rd];cases M:ahe e o I J with
  | true=>exact z.1 (amx h o O I J M)
  | false=>exact .undef
 | _=>rw [H] at z;exact z
theorem aoi (v:Value):SRep Γ.P D w ow μ st (asd v) v:=by
 unfold asd;split
 ·exact .bool
 ·exact .int
 ·rename_i s;exact .str (s:=s.data.toList)
 ·exact .nils
 ·exact .eif (λ_=>rfl) (λh=>by cases h)
 ·exact .raw
theorem abm (h:Slots Γ D ow μ e st a w) (o:List (Nat×Bool)) (z:∀ x,x∈o->a.tmps.getD x.1 Go.undef=.bool x.2) (x:Operand):SRep Γ.P D w ow μ st (opd e o x) (a.eval x):=by
 cases x with
 | tmp t=>exact a2l h o z t
 | const v=>exact aoi v
 | global g=>exact .undef
 | func f=>exact .fn (caps:=[]) rfl (by simp) (λi s v H=>by simp at H)
theorem afa (h:Slots Γ D ow μ e st a w):∀ (f t:Nat) (v c:Bool),gval e f t v=some c->(a.tmps.getD t Go.undef=.bool v ↔ c=true):=by
 intro f;induction f with
 | zero=>intro t v c o;simp [gval] at o
 | succ f ih=>
  intro t v c o;unfold gval at o;have z:=h.slot t;cases I:e t with
  | bool b=>
   rw [I] at o z;simp only [Al] at o;have H:a.tmps.getD t Go.undef=.bool b:=by generalize a.tmps.getD t Go.undef=u at z;cases z;rfl
   rw [H,<-o];cases b<;>cases v<;>simp [bq]
  | gd t1 w1 x=>
   cases x with
   | bool b=>
    rw [I] at o z;simp only at o;cases hg:gval e f t1 w1 with
    | none=>rw [hg] at o;simp at o
    | some J=>
     rw [hg] at o;simp only [Al] at o;have hi:=ih t1 w1 J hg;by_cases Z:a.tmps.getD t1 Go.undef=.bool w1
     ·have H:a.tmps.getD t Go.undef=.bool b:=by have:=z.1 Z;generalize a.tmps.getD t Go.undef=u at this;cases this;rfl
      have O:=hi.1 Z;rw [H,<-o,O];cases b<;>cases v<;>simp [bq]
     ·have H:=z.2 Z;have M:J=false:=by cases J<;>simp_all
      rw [H,<-o,M];constructor
      ·intro o;cases o
      ·intro o;cases b<;>cases v<;>simp [bq] at o
   | _=>rw [I] at o;simp at o
  | _=>rw [I] at o;simp at o
end
theorem am4 (P:Program):∀ (l:List Field) (n m:Nat),ab2 P l n=some m->
 n<=m/\∀ (i:Nat) (f:Field),l[i]?=some f->n<=f.offset/\f.offset+P.cellsOf f.type<=m/\0<P.cellsOf f.type/\(aak P f.type=true\/P.cellsOf f.type=1)/\
  ∀ (j:Nat) (g:Field),l[j]?=some g->i<j->f.offset+P.cellsOf f.type<=g.offset:=by
 intro l
 induction l with
 | nil=>intro n m h;simp [ab2] at h;subst h;exact ⟨Nat.le_refl _,λi f o=>by simp at o⟩
 | cons x r ih=>
  intro n m h
  unfold ab2 at h
  cases H:(Nat.beq x.offset n&&!(Nat.beq (P.cellsOf x.type) 0)&&(aak P x.type||Nat.beq (P.cellsOf x.type) 1)) with
  | false=>rw [H] at h;simp at h
  | true=>
   rw [H] at h
   simp only [Af] at h
   simp only [Ai,Bool.not_eq_true',Bd] at H
   obtain ⟨⟨h1,O⟩,h3⟩:=H
   have e1:x.offset=n:=Aa h1
   have J:0<P.cellsOf x.type:=by
    rcases Nat.eq_zero_or_pos (P.cellsOf x.type) with I | I
    ·rw [I] at O;cases O
    ·exact I
   obtain ⟨aa,Z⟩:=ih _ _ h
   refine ⟨by omega,λi f o=>?_⟩
   cases i with
   | zero=>
    simp at o;subst o
    refine ⟨by omega,by omega,J,h3.imp id Aa,λj g z M=>?_⟩
    cases j with
    | zero=>omega
    | succ j=>simp at z;have:=(Z j g z).1;omega
   | succ i=>
    simp at o
    obtain ⟨q1,q2,q3,q4,q5⟩:=Z i f o
    refine ⟨by omega,q2,q3,q4,λj g z M=>?_⟩
    cases j with
    | zero=>omega
    | succ j=>simp at z;exact q5 j g z (by omega)
theorem alz (P:Program):∀ (l:List Field) (n m:Nat),ab2 P l n=some m->∀ j,n<=j->j<m->∃ (i:Nat) (f:Field),l[i]?=some f/\f.offset<=j/\j<f.offset+P.cellsOf f.type:=by
 intro l;induction l with
 | nil=>intro n m h j H z;simp [ab2] at h;omega
 | cons x r I=>
  intro n m h j H z;unfold ab2 at h;cases o:(Nat.beq x.offset n&&!(Nat.beq (P.cellsOf x.type) 0)&&(aak P x.type||Nat.beq (P.cellsOf x.type) 1)) with
  | false=>rw [o] at h;simp at h
  | true=>
   rw [o] at h;simp only [Af] at h;simp only [Ai] at o;have O:x.offset=n:=Aa o.1.1;by_cases Z:j<n+P.cellsOf x.type
   ·exact ⟨0,x,rfl,by omega,by omega⟩
   ·obtain ⟨i,f,J,M⟩:=I _ _ h j (by omega) z;exact ⟨i+1,f,by simpa using J,M⟩
structure Laid (P:Program) (T:TypeId) (fs:Array Field):Prop where
 inside:∀ (i:Nat) (f:Field),fs[i]?=some f->f.offset+P.cellsOf f.type<=P.cellsOf T
 pos:∀ (i:Nat) (f:Field),fs[i]?=some f->0<P.cellsOf f.type
 one:∀ (i:Nat) (f:Field),fs[i]?=some f->aak P f.type=true\/P.cellsOf f.type=1
 apart:∀ (i j:Nat) (f g:Field),fs[i]?=some f->fs[j]?=some g->i<j->f.offset+P.cellsOf f.type<=g.offset
 cover:∀ j,j<P.cellsOf T->∃ (i:Nat) (f:Field),fs[i]?=some f/\f.offset<=j/\j<f.offset+P.cellsOf f.type
theorem ab7 {P:Program}{T:TypeId}{H:Array Field} (h:abx P T=true) (Z:P.underlying T=some (.struct H)):Laid P T H:=by
 unfold abx at h;rw [Z] at h;simp only at h;cases I:ab2 P H.toList 0 with
 | none=>rw [I] at h;cases h
 | some n=>
  rw [I] at h;have en:n=P.cellsOf T:=Aa h;obtain ⟨_,J⟩:=am4 P _ _ _ I;have z:∀ (i:Nat),H.toList[i]?=H[i]?:=λi=>by simp
  exact ⟨λi f o=>by have:=(J i f (by rw [z];exact o)).2.1;omega,λi f o=>(J i f (by rw [z];exact o)).2.2.1,λi f o=>(J i f (by rw [z];exact o)).2.2.2.1,
   λi j f g o O M=>(J i f (by rw [z];exact o)).2.2.2.2 j g (by rw [z];exact O) M,
   λj O=>by obtain ⟨i,f,q1,q2⟩:=alz P _ _ _ I j (Nat.zero_le _) (by omega);exact ⟨i,f,by rw [<-z];exact q1,q2⟩⟩
theorem Laid.oneCell {P:Program}{T:TypeId}{o:Array Field} (h:Laid P T o) {cs:List Value} (M:cs.length=P.cellsOf T)
 (I:∀ (i:Nat) (f:Field),o[i]?=some f->∀ c,c∈(cs.drop f.offset).take (P.cellsOf f.type)->c.oneCell'=true):∀ c,c∈cs->c.oneCell'=true:=by
 intro c z
 obtain ⟨j,H,rfl⟩:=List.mem_iff_getElem.1 z
 obtain ⟨i,f,J,O,Z⟩:=h.cover j (by omega)
 refine I i f J _ (List.mem_iff_getElem?.2 ⟨j-f.offset,?_⟩)
 rw [List.getElem?_take_of_lt (by omega),List.getElem?_drop,show f.offset+(j-f.offset)=j by omega,Aq H]
theorem Laid.len {P:Program}{T:TypeId}{o:Array Field} (h:Laid P T o) {cs:List Value} (H:cs.length=P.cellsOf T) {i:Nat}{f:Field} (z:o[i]?=some f):
 ((cs.drop f.offset).take (P.cellsOf f.type)).length=P.cellsOf f.type:=by
 have:=h.inside i f z
 simp;omega
theorem anw {P:Program}{T:TypeId}{cs:List Value} (h:aak P T=true\/cs.length=1) (z:∀ c,c∈cs->c.oneCell'=true):(pack P T cs).cells.toList=cs:=by
 unfold pack;cases o:aak P T with
 | true=>simp [Value.cells]
 | false=>
  rcases h with h | h
  ·rw [o] at h;cases h
  ·match cs,h with
   | [c],_=>have:=z c (by simp);cases c<;>simp_all [Value.oneCell',Value.cells]
theorem ady {v:Value} (h:v.oneCell'=true):v.cells=#[v]:=by cases v<;>simp_all [Value.oneCell',Value.cells]
section
variable {P:Program}{D:Dom}{ow:Own}{μ:Nat->Nat}{st:List BX}{w:World}
theorem av4:∀ (z:List Field) (o:List SV),av3 P z o=true->z.length=o.length/\∀ (i:Nat) (f:Field) (s:SV),z[i]?=some f->o[i]?=some s->isOf P f.type s=true:=by
 intro z;induction z with
 | nil=>intro o h;cases o with
  | nil=>exact ⟨rfl,λi f s H=>by simp at H⟩
  | cons x r=>simp [av3] at h
 | cons d r O=>intro o h;cases o with
  | nil=>simp [av3] at h
  | cons x q=>
   simp only [av3,Ai] at h
   obtain ⟨J,M⟩:=O q h.2
   refine ⟨by simp [J],λi f s H I=>?_⟩
   cases i with
   | zero=>simp at H I;subst H;subst I;exact h.1
   | succ i=>exact M i f s (by simpa using H) (by simpa using I)
theorem a0c:∀ (h:List SV) (i:Nat),(apt h)[i]?=(h[i]?).map toPV:=by
 intro h;induction h with
 | nil=>intro i;simp [apt]
 | cons x r o=>intro i;cases i with
  | zero=>simp [apt]
  | succ i=>simp [apt,o]
theorem ars (h:List SV):(apt h).length=h.length:=by
 induction h with
 | nil=>simp [apt]
 | cons x r o=>simp [apt,o]
theorem abh {s:SV}{v:Value} (h:SRep P D w ow μ st s v):∀ T,isOf P T s=true->Rep P D w T (toPV s) v.cells.toList:=by
 induction h with
 | eif=>intro T h;simp [isOf] at h
 | ifc=>intro T h;simp [isOf] at h
 | lit z=>
  intro T h;unfold isOf at h;split at h
  ·rename_i o;have:=Aa h;subst this;exact z.rep o
  ·cases h
 | arrOld=>intro T h;simp [isOf] at h
 | arrNil=>intro T h;simp [isOf] at h
 | arr=>intro T h;simp [isOf] at h
 | arefOld=>intro T h;simp [isOf] at h
 | aref=>intro T h;simp [isOf] at h
 | eref=>intro T h;simp [isOf] at h
 | asl=>intro T h;simp [isOf] at h
 | undef=>intro T h;simp [isOf] at h
 | bool=>
  intro T h;unfold isOf at h;split at h
  ·rename_i o;exact .bool o
  ·cases h
 | int=>
  intro T h;unfold isOf at h;split at h
  ·rename_i o;simp at h;subst h;exact .int o
  ·cases h
 | str=>
  intro T h;unfold isOf at h;split at h
  ·rename_i o;exact .str o
  ·cases h
 | slice z=>
  intro T h;unfold isOf at h;split at h
  ·rename_i o;have:=Aa h;subst this;have:=z.rep o;cases z<;>exact this
  ·cases h
 | data ha hr=>intro T h;unfold isOf at h;have:=Aa h;subst this;simpa [Value.cells,toPV] using hr
 | @agg T' fs vs cs o Z ho hv hp ih=>
  intro T h;simp only [isOf,Ai] at h;obtain ⟨⟨J,h2⟩,M⟩:=h;have:=Aa J;subst this;rw [o] at M;simp only at M;obtain ⟨q1,q2⟩:=av4 _ _ M;have O:=ab7 h2 o;simp only [toPV,Value.cells];refine .agg o Z ho (by rw [ars];exact hv) (λi v f H I=>?_);rw [a0c] at H;cases z:vs[i]? with
  | none=>rw [z] at H;simp at H
  | some s=>rw [z] at H;simp at H;subst H;have:=ih i s f z I f.type (q2 i f s (by simpa using I) z);rwa [anw ((O.one i f I).imp id (λJ=>by rw [O.len Z I];exact J)) (λc hc=>ho c (List.mem_of_mem_drop (List.mem_of_mem_take hc)))] at this
 | map hm=>
  intro T h;unfold isOf at h;split at h
  ·rename_i o;simp only [Ai] at h;have e1:=Aa h.1;have e2:=Aa h.2;subst e1;subst e2;cases hm with
   | nil=>exact .mapnil o
   | mk kc vc a b c d e f=>exact .map kc vc o a b c d e f
  ·cases h
 | nils=>
  intro T h;unfold isOf at h;split at h
  ·rename_i o;exact .nil o λ_=>rfl
  ·cases h
 | acc z=>
  intro T h;unfold isOf at h;split at h
  ·rename_i o;have:=Aa h;subst this;have:=z.rep o;cases z<;>exact this
  ·cases h
 | ref=>intro T h;simp [isOf] at h
 | mref=>intro T h;simp [isOf] at h
 | iref=>intro T h;simp [isOf] at h
 | mitr=>intro T h;simp [isOf] at h
 | sln=>intro T h;simp [isOf] at h
 | bref=>intro T h;simp [isOf] at h
 | nx=>intro T h;simp [isOf] at h
 | pto=>intro T h;simp [isOf] at h
 | fn=>intro T h;simp [isOf] at h
 | tup=>intro T h;simp [isOf] at h
 | raw=>intro T h;simp only [isOf,Ai] at h;rw [ady h.2];exact .raw h.1 h.2
theorem aw1:∀ (n:Nat) (T:TypeId) (cs:List Value),zeroCells? P n T cs=true->SRep P D w ow μ st (abk P n T) (pack P T cs)/\(∀ c,c∈cs->c.oneCell'=true):=by
 intro n;induction n with
 | zero=>intro T cs h;simp [zeroCells?] at h
 | succ n ih=>
  intro T cs h;cases H:P.underlying T with
  | none=>simp [zeroCells?,H] at h
  | some d=>
   cases d with
   | struct fs=>
    simp only [zeroCells?,H,Ai] at h;obtain ⟨⟨hL,o⟩,aa⟩:=h;have hL:=ab7 hL H;have o:cs.length=P.cellsOf T:=Aa o;have hf:∀ (i:Nat) (f:Field),fs[i]?=some f->zeroCells? P n f.type ((cs.drop f.offset).take (P.cellsOf f.type))=true:=by intro i f z;exact List.all_eq_true.1 aa f (by rw [List.mem_iff_getElem?];exact ⟨i,by simpa using z⟩)
    have ha:aak P T=true:=by simp [aak,H]
    have ho:=hL.oneCell o (λi f z=>(ih _ _ (hf i f z)).2);refine ⟨?_,ho⟩;simp only [abk,H,pack,ha,Ba];refine .agg H o ho (by simp) (λi v f O z=>?_);have ab:fs.toList[i]?=some f:=by simpa using z
    rw [Bf,ab] at O;simp at O;subst O;exact (ih _ _ (hf i f z)).1
   | array k E=>
    simp only [zeroCells?,H,Ai,Bd] at h;obtain ⟨⟨⟨⟨h1,h2⟩,J⟩,h4⟩,h5⟩:=h;have h1:=Aa h1;have h2:=Aa h2;have z:∀ i,i<k->zeroCells? P n E ((cs.drop (i*P.cellsOf E)).take (P.cellsOf E))=true:=λi z=>List.all_eq_true.1 h5 i (List.mem_range.2 z);have ad:∀ i,i<k->i*P.cellsOf E+P.cellsOf E<=cs.length:=λi z=>by rw [h1,h2];have:(i+1)*P.cellsOf E<=k*P.cellsOf E:=Ay _ (by omega);rw [Nat.add_mul] at this;omega
    have ho:∀ c,c∈cs->c.oneCell'=true:=by
     intro c hc;obtain ⟨j,hj,rfl⟩:=List.mem_iff_getElem.1 hc;have M:0<P.cellsOf E:=by
      rcases Nat.eq_zero_or_pos (P.cellsOf E) with h0 | h0
      ·rw [h0,Nat.mul_zero] at h2;omega
      ·exact h0
     have hd:j / P.cellsOf E<k:=by rw [Nat.div_lt_iff_lt_mul M];omega
     refine (ih E _ (z _ hd)).2 _ (List.mem_iff_getElem?.2 ⟨j%P.cellsOf E,?_⟩);rw [List.getElem?_take_of_lt (Nat.mod_lt _ M),List.getElem?_drop];have:=Nat.div_add_mod j (P.cellsOf E);rw [Nat.mul_comm] at this;rw [this,Aq hj]
    have ha:aak P T=true:=by simp [aak,H]
    refine ⟨?_,ho⟩;simp only [abk,H,pack,ha,Ba];refine .data ha (.arr H h1 ho (by simp) (λi v O=>?_));obtain ⟨I,O⟩:=List.getElem?_eq_some_iff.1 O;simp at I;simp at O;subst O;have hz:=(ih E _ (z i I)).1;have hr:=abh hz E h4;have hl:((cs.drop (i*P.cellsOf E)).take (P.cellsOf E)).length=P.cellsOf E:=by rw [List.length_take,Be];have:=ad i I;omega
    have Z:=(ih E _ (z i I)).2;generalize (cs.drop (i*P.cellsOf E)).take (P.cellsOf E)=zs at*;have hp:(pack P E zs).cells.toList=zs:=by
     cases hE:aak P E with
     | true=>simp [pack,hE,Value.cells]
     | false=>
      rw [hE] at J;rcases J with J | J
      ·cases J
      ·have J:=Aa J;rw [J] at hl;match zs,hl,Z with
       | [u],_,Z=>have hu:=Z u (by simp);simp only [pack,hE,A7,A8,List.headD];rw [ady hu]
    rwa [hp] at hr
   | _=>
    simp only [zeroCells?,H] at h;try split at h
    all_goals first
     | (rename_i hq;cases hq;done)
     | (simp at h;done)
     | skip
    all_goals (try (rename_i hq;cases hq))
    all_goals simp only [abk,H,pack,aak]
    all_goals first
     | (simp at h;subst h;exact ⟨.bool,by simp [Value.oneCell']⟩)
     | (simp at h;obtain ⟨rfl,rfl⟩:=h;exact ⟨.int,by simp [Value.oneCell']⟩)
     | (exact ⟨.nils,by simp [Value.oneCell']⟩)
     | (exact ⟨.map .nil,by simp [Value.oneCell']⟩)
     | (exact ⟨.raw,by simp [Value.oneCell']⟩)
     | (
      rename_i s
      have hs:s=⟨#[]⟩:=by
       cases s with
       | mk d=>simp at h;subst h;rfl
      subst hs
      exact ⟨.str,by simp [Value.oneCell']⟩)
     | (trace_state;fail)
theorem Rep.aggLen {T:TypeId}{v:PV}{cs:List Value} (h:Rep P D w T v cs) (z:aak P T=true):cs.length=P.cellsOf T:=by
 cases h with
 | agg _ H=>exact H
 | arr _ H=>exact H
 | raw I=>unfold rawT at I;unfold aak at z;split at z<;>simp_all
 | bool o=>simp [aak,o] at z
 | int o=>simp [aak,o] at z
 | str o=>simp [aak,o] at z
 | nil o=>simp [aak,o] at z
 | slice o=>simp [aak,o] at z
 | mapnil o=>simp [aak,o] at z
 | map _ _ o=>simp [aak,o] at z
theorem ae9 {s:SV}{v:Value}{T:TypeId} (h:SRep P D w ow μ st s v) (o:agj P T s=true):
 v.cells.toList.length=P.cellsOf T/\(∀ c,c∈v.cells.toList->c.oneCell'=true)/\pack P T v.cells.toList=v:=by
 have z:∀ {u:Value},u.oneCell'=true->(!aak P T&&Nat.beq (P.cellsOf T) 1)=true->u.cells.toList.length=P.cellsOf T/\(∀ c,c∈u.cells.toList->c.oneCell'=true)/\pack P T u.cells.toList=u:=by intro u Z J;simp only [Ai,Bool.not_eq_true'] at J;have e1:=Aa J.2;rw [ady Z];refine ⟨by simp [e1],by simpa using Z,by simp [pack,J.1]⟩
 cases h with
 | undef=>simp [agj] at o
 | nx=>simp [agj] at o
 | tup=>simp [agj] at o
 | data M O=>
  simp only [agj,Ai] at o
  have:=Aa o.1;subst this
  exact ⟨by simpa [Value.cells] using O.aggLen M,by simpa [Value.cells] using O.oneCell,by simp [Value.cells,pack,M]⟩
 | agg hT hl H hv hp=>
  simp only [agj,Ai] at o
  have:=Aa o.1;subst this
  exact ⟨by simpa [Value.cells] using hl,by simpa [Value.cells] using H,by simp [Value.cells,pack,o.2]⟩
 | raw=>simp only [agj,Ai] at o;exact z o.2 (by simpa using o.1)
 | slice I=>cases I<;>exact z rfl o
 | map I=>cases I<;>exact z rfl o
 | acc I=>cases I<;>exact z rfl o
 | @eif b v h1 h2=>
  cases b with
  | true=>rw [h1 rfl];exact z rfl o
  | false=>obtain ⟨t,u,rfl⟩:=h2 rfl;exact z rfl o
 | arrOld _ _ H=>exact z H o
 | arefOld _ _ H=>exact z H o
 | _=>exact z rfl o
theorem as6 (T:TypeId) (v:PV):∀ (h:List Field) (n i:Nat),(af1 P T v h n)[i]?=(h[i]?).map λf=>ofPV P f.type (v.fld (n+i)):=by
 intro h;induction h with
 | nil=>intro n i;simp [af1]
 | cons d r o=>intro n i;cases i with
  | zero=>simp [af1]
  | succ i=>simp [af1,o,show n+1+i=n+(i+1) by omega]
theorem am7 (T:TypeId) (v:PV):∀ (h:List Field) (n:Nat),(af1 P T v h n).length=h.length:=by
 intro h;induction h with
 | nil=>intro n;simp [af1]
 | cons d r o=>intro n;simp [af1,o]
theorem aou {o:List PV}{i:Nat}{v:PV} (h:o[i]?=some v):PV.fld (.agg o) i=v:=by simp [PV.fld,PV.parts,List.getD,h]
theorem agv {s:SV}{TB:TypeId}{cs:List Value}{fs:List SV}{M:Array Field} (hs:SRep P D w ow μ st s (pack P TB cs)) (o:aga P TB s=some fs) (z:P.underlying TB=some (.struct M)):
 Laid P TB M/\cs.length=P.cellsOf TB/\fs.length=M.size/\(∀ c,c∈cs->c.oneCell'=true)/\
  ∀ (i:Nat) (x:SV) (f:Field),fs[i]?=some x->M[i]?=some f->SRep P D w ow μ st x (pack P f.type ((cs.drop f.offset).take (P.cellsOf f.type))):=by
 have ha:aak P TB=true:=by simp [aak,z]
 unfold aga at o
 cases hl:abx P TB with
 | false=>rw [hl] at o;simp at o
 | true=>
  rw [hl] at o
  simp only [Af] at o
  have hL:=ab7 hl z
  have ag:pack P TB cs=.agg cs.toArray:=by simp [pack,ha]
  rw [ag] at hs
  generalize hv:Value.agg cs.toArray=v at hs
  cases hs with
  | @agg T al vs H O ab ho ah hp=>
   simp only at o
   cases I:Nat.beq TB T with
   | false=>rw [I] at o;simp at o
   | true=>
    rw [I] at o
    simp only [Af,Al] at o
    have:=Aa I;subst this;subst o
    rw [z] at O;cases O
    have e:cs=H:=by simpa using hv
    subst e
    exact ⟨hL,ab,ah,ho,hp⟩
  | @data T pv H aj hr=>
   simp only at o
   cases I:Nat.beq TB T with
   | false=>rw [I] at o;simp at o
   | true=>
    rw [I,z] at o
    simp only [Af,Al] at o
    have:=Aa I;subst this;subst o
    have e:cs=H:=by simpa using hv
    subst e
    cases hr with
    | @agg _ am vs ak h ad af ai J=>
     rw [z] at h;cases h
     refine ⟨hL,ad,by rw [am7];simp,af,λi x f hi hf=>?_⟩
     rw [as6] at hi
     have aa:M.toList[i]?=some f:=by simpa using hf
     rw [aa] at hi
     simp at hi
     subst hi
     have ae:i<vs.length:=by rw [ai];exact (Array.getElem?_eq_some_iff.1 hf).1
     have Z:vs[i]?=some vs[i]:=Aq ae
     rw [aou Z]
     exact (J i vs[i] f Z hf).ofPV
    | arr h=>rw [z] at h;cases h
    | bool h=>rw [z] at h;cases h
    | int h=>rw [z] at h;cases h
    | str h=>rw [z] at h;cases h
    | nil h=>rw [z] at h;cases h
    | slice h=>rw [z] at h;cases h
    | mapnil h=>rw [z] at h;cases h
    | map _ _ h=>rw [z] at h;cases h
    | raw J=>simp [rawT,z] at J
  | _=>simp at o
theorem ais:∀ (path:List Nat) (TB:TypeId) (s:SV) (cs:List Value) (off:Nat) (T:TypeId) (x:SV),SRep P D w ow μ st s (pack P TB cs)->cs.length=P.cellsOf TB->abv P TB path=some (off,T)->agy P TB s path=some x->
 SRep P D w ow μ st x (pack P T ((cs.drop off).take (P.cellsOf T)))/\off+P.cellsOf T<=cs.length:=by
 intro path
 induction path with
 | nil=>
  intro TB s cs off T x Z hl h z
  simp [abv] at h
  simp [agy] at z
  obtain ⟨rfl,rfl⟩:=h
  subst z
  exact ⟨by simpa [<-hl] using Z,by omega⟩
 | cons i p ih=>
  intro TB s cs off T x Z hl h z
  unfold abv at h
  unfold agy at z
  cases I:P.underlying TB with
  | none=>rw [I] at h;simp at h
  | some d=>
   cases d with
   | struct ds=>
    rw [I] at h z
    simp only at h z
    cases H:ds[i]? with
    | none=>rw [H] at h;simp at h
    | some f=>
     rw [H] at h
     simp only at h
     cases O:abv P f.type p with
     | none=>rw [O] at h;simp at h
     | some r=>
      obtain ⟨o,t⟩:=r
      rw [O] at h
      simp at h
      obtain ⟨rfl,rfl⟩:=h
      cases M:aga P TB s with
      | none=>rw [M] at z;simp at z
      | some fs=>
       rw [M] at z
       simp only at z
       cases hx:fs[i]? with
       | none=>rw [hx] at z;simp at z
       | some y=>
        rw [hx,H] at z
        simp only at z
        obtain ⟨J,h1,h2,h3,h4⟩:=agv Z M I
        obtain ⟨q1,q2⟩:=ih f.type y _ o t x (h4 i y f hx H) (J.len h1 H) O z
        rw [J.len h1 H] at q2
        have aa:=J.inside i f H
        refine ⟨?_,by omega⟩
        rw [List.drop_take,List.take_take,Bo,Nat.min_eq_left (by omega)] at q1
        exact q1
   | _=>rw [I] at h;simp at h
def abd (cs:List Value) (off:Nat) (xs:List Value):List Value:=cs.take off++xs++cs.drop (off+xs.length)
theorem abu {cs xs:List Value}{off:Nat} (h:off+xs.length<=cs.length):(abd cs off xs).length=cs.length:=by simp [abd];omega
theorem amq {cs xs:List Value}{off:Nat} (h:off+xs.length<=cs.length):((abd cs off xs).drop off).take xs.length=xs:=by
 unfold abd;have o:(cs.take off).length=off:=by simp;omega
 rw [Ap,List.drop_append_of_le_length (by omega),Bb (by omega:(cs.take off).length<=off),A9,List.take_append_of_le_length (by omega),List.take_of_length_le (by omega)]
theorem afq {cs xs:List Value}{off:Nat} (h:off+xs.length<=cs.length) (j:Nat):(abd cs off xs)[j]?=if off<=j/\j<off+xs.length then xs[j-off]? else cs[j]?:=by
 unfold abd;have o:(cs.take off).length=off:=by simp;omega
 by_cases z:j<off
 ·rw [Ap,Au (by omega),List.getElem?_take_of_lt z,if_neg (by omega)]
 ·rw [Ap,Av (by omega),o];by_cases H:j<off+xs.length
  ·rw [Au (by omega),if_pos (by omega)]
  ·rw [Av (by omega),List.getElem?_drop,if_neg (by omega)];congr 1;omega
theorem adn {cs xs:List Value}{off:Nat} (h:off+xs.length<=cs.length) {o n:Nat} (H:o+n<=off\/off+xs.length<=o):((abd cs off xs).drop o).take n=(cs.drop o).take n:=by
 apply List.ext_getElem?;intro j;by_cases z:j<n
 ·rw [List.getElem?_take_of_lt z,List.getElem?_take_of_lt z,List.getElem?_drop,List.getElem?_drop,afq h,if_neg (by omega)]
 ·rw [A4 (by simp;omega),A4 (by simp;omega)]
theorem ajf {cs xs:List Value}{off o n:Nat} (I:o+n<=cs.length) (h:off+xs.length<=n):((abd cs (o+off) xs).drop o).take n=abd ((cs.drop o).take n) off xs:=by
 have J:((cs.drop o).take n).length=n:=by simp;omega
 apply List.ext_getElem?;intro j;rw [afq (by omega)];by_cases H:j<n
 ·rw [List.getElem?_take_of_lt H,List.getElem?_drop,afq (by omega),List.getElem?_take_of_lt H,List.getElem?_drop];by_cases z:off<=j/\j<off+xs.length
  ·rw [if_pos (by omega),if_pos z];congr 1;omega
  ·rw [if_neg (by omega),if_neg z]
 ·rw [A4 (by simp;omega),if_neg (by omega),A4 (by omega)]
theorem ajd:∀ (path:List Nat) (TB:TypeId) (s:SV) (cs:List Value) (off:Nat) (T:TypeId) (x:SV) (xs:List Value) (s':SV),SRep P D w ow μ st s (pack P TB cs)->cs.length=P.cellsOf TB->abv P TB path=some (off,T)->
 SRep P D w ow μ st x (pack P T xs)->xs.length=P.cellsOf T->(∀ c,c∈xs->c.oneCell'=true)->ag8 P TB s path x=some s'->
 SRep P D w ow μ st s' (pack P TB (abd cs off xs))/\off+xs.length<=cs.length:=by
 intro path
 induction path with
 | nil=>
  intro TB s cs off T x xs s' hs hl H hx ab Z h
  simp [abv] at H
  simp [ag8] at h
  obtain ⟨rfl,rfl⟩:=H
  subst h
  refine ⟨?_,by omega⟩
  have:abd cs 0 xs=xs:=by simp [abd];omega
  rw [this];exact hx
 | cons i p ih=>
  intro TB s cs off T x xs s' hs hl H hx ab Z h
  unfold abv at H
  unfold ag8 at h
  cases hT:P.underlying TB with
  | none=>rw [hT] at H;simp at H
  | some d=>
   cases d with
   | struct ds=>
    rw [hT] at H h
    simp only at H h
    cases I:ds[i]? with
    | none=>rw [I] at H;simp at H
    | some f=>
     rw [I] at H
     simp only at H
     cases hq:abv P f.type p with
     | none=>rw [hq] at H;simp at H
     | some r=>
      obtain ⟨o,t⟩:=r
      rw [hq] at H
      simp at H
      obtain ⟨rfl,rfl⟩:=H
      cases he:aga P TB s with
      | none=>rw [he] at h;simp at h
      | some fs=>
       rw [he] at h
       simp only at h
       cases hy:fs[i]? with
       | none=>rw [hy] at h;simp at h
       | some y=>
        rw [hy,I] at h
        simp only at h
        cases hz:ag8 P f.type y p x with
        | none=>rw [hz] at h;simp at h
        | some z=>
         rw [hz] at h
         simp only [Al] at h
         subst h
         obtain ⟨hL,h1,h2,h3,h4⟩:=agv hs he hT
         obtain ⟨q1,q2⟩:=ih f.type y _ o t x xs z (h4 i y f hy I) (hL.len h1 I) hq hx ab Z hz
         rw [hL.len h1 I] at q2
         have af:=hL.inside i f I
         have M:f.offset+o+xs.length<=cs.length:=by omega
         have ha:aak P TB=true:=by simp [aak,hT]
         refine ⟨?_,M⟩
         have ae:pack P TB (abd cs (f.offset+o) xs)=.agg (abd cs (f.offset+o) xs).toArray:=by simp [pack,ha]
         rw [ae]
         refine .agg hT (by rw [abu M];exact h1) ?_ (by simpa using h2) (λj v g hj h=>?_)
         ·intro c J;unfold abd at J;simp only [Bk] at J;rcases J with (J | J) | J
          ·exact h3 c (List.mem_of_mem_take J)
          ·exact Z c J
          ·exact h3 c (List.mem_of_mem_drop J)
         ·by_cases aa:j=i
          ·subst aa;rw [I] at h;cases h;have O:j<fs.length:=(List.getElem?_eq_some_iff.1 hy).1;rw [List.getElem?_set_self O] at hj;cases hj;rw [ajf (by omega) q2];exact q1
          ·rw [Ar (by omega)] at hj;rw [adn M]
           ·exact h4 j v g hj h
           ·rcases Nat.lt_or_gt_of_ne aa with O | ad
            ·have:=hL.apart j i g f h I O;omega
            ·have:=hL.apart i j f g I h ad;omega
   | _=>rw [hT] at H;simp at H
end
end Go.Ab
namespace Go.Ab
open Go
theorem aa5 {P:Program}{T:TypeId} (h:P.cellsOf T≠0):∃ i,P.info? T=some i/\i.size=P.cellsOf T:=by
 cases o:P.info? T with
 | none=>simp [Program.cellsOf,o] at h
 | some i=>exact ⟨i,rfl,by simp [Program.cellsOf,o]⟩
theorem ait {P:Program}{T:TypeId}{d:TypeDesc} (h:P.underlying T=some d):∃ i,P.info? T=some i/\i.size=P.cellsOf T:=by
 cases o:P.info? T with
 | none=>simp [Program.underlying,o] at h
 | some i=>exact ⟨i,rfl,by simp [Program.cellsOf,o]⟩
theorem aa3 {P:Program}{T:TypeId}{i:TypeInfo} (h:P.info? T=some i) (o:i.size=P.cellsOf T) (w:World):(sizeOf T).run P w=.ok (P.cellsOf T) w:=by simp [sizeOf,typeInfo,h,o]
theorem aj1 {P:Program}{T:TypeId} (h:(P.underlying T).isSome=true) (w:World):(isAgg T).run P w=.ok (aak P T) w:=by obtain ⟨d,o⟩:=Option.isSome_iff_exists.1 h;cases d<;>simp [isAgg,run_underlying o,aak,o]
theorem apl {P:Program}{T:TypeId} (H:(P.underlying T).isSome=true) (cs:List Value) (off:Nat) (h:off+P.cellsOf T<=cs.length) (o:aak P T=true\/P.cellsOf T=1) (w:World):
 (part T cs.toArray off).run P w=.ok (pack P T ((cs.drop off).take (P.cellsOf T))) w:=by
 unfold part
 simp only [Sem.run_bind,aj1 H,Result.andThen_ok]
 cases I:aak P T with
 | true=>
  obtain ⟨d,J⟩:=Option.isSome_iff_exists.1 H
  obtain ⟨i,M,O⟩:=ait J
  simp only [Ba,Sem.run_bind,aa3 M O,Result.andThen_ok,pack,I]
  simp [List.extract_toArray,List.extract_eq_take_drop]
 | false=>
  have o:P.cellsOf T=1:=by rcases o with o | o<;>simp_all
  rw [o] at h ⊢
  have z:off<cs.length:=by omega
  have e:(cs.drop off).take 1=[cs[off]]:=by rw [List.drop_eq_getElem_cons z];rfl
  simp [z,pack,I,e]
section
variable {P:Program}{D:Dom}{ow:Own}{μ:Nat->Nat}{st:List BX}{w:World}
theorem ajn {T:TypeId}{s:SV}{I:List SV}{v:Value} (h:SRep P D w ow μ st s v) (o:aga P T s=some I):SRep P D w ow μ st (.agg T I) v:=by
 have h0:=o;unfold aga at o;cases O:abx P T with
 | false=>rw [O] at o;cases o
 | true=>
  rw [O] at o;simp only [Af] at o;split at o
  ·rename_i H Z;cases z:Nat.beq T H with
   | false=>rw [z] at o;cases o
   | true=>rw [z] at o;simp only [Af,Al] at o;subst o;have:=Aa z;subst this;exact h
  ·rename_i H pv;cases z:Nat.beq T H with
   | false=>rw [z] at o;cases o
   | true=>
    rw [z] at o;simp only [Af] at o;have:=Aa z;subst this;split at o
    ·rename_i ds J;cases h with
     | @data _ _ cs M hr=>
      have hp:SRep P D w ow μ st (.data T pv) (pack P T cs):=by simp only [pack,M,Ba];exact .data M hr
      obtain ⟨h1,h2,h3,h4,h5⟩:=agv hp h0 J;exact .agg J h2 h4 h3 h5
    ·cases o
  ·cases o
theorem aos {T:TypeId}{x y:SV}{a b:Value}{r:Bool} (H:SRep P D w ow μ st x a) (I:SRep P D w ow μ st y b) (h:aor P T x y=some r) (d:Nat):(Op.equalIn (d+1) T a b).run P w=.ok r w:=by
 unfold aor at h;split at h
 ·rename_i z;cases H;cases I;simp only [Al] at h;subst h;exact run_equalIn_bool w d T _ _ z
 ·rename_i M k O J Z z;cases H;cases I;cases o:decide (k=J) with
  | false=>rw [o] at h;cases h
  | true=>rw [o] at h;have:=of_decide_eq_true o;subst this;simp only [Af,Al] at h;subst h;exact run_equalIn_int w d T k M _ _ z
 ·rename_i z;cases H;cases I;simp only [Al] at h;subst h;rw [run_equalIn_string w d T _ _ z];simp [ByteArray.toList_mk]
 ·cases h
theorem am9 (d:Nat) {Z yc:List Value}:∀ (o:List Field) (xs ys:List SV) (r:Bool),acy P o xs ys=some r->(∀ f,f∈o->f.name≠ "_")->
 (∀ (i:Nat) (f:Field) (x:SV),o[i]?=some f->xs[i]?=some x->∃ a,(part f.type Z.toArray f.offset).run P w=.ok a w/\SRep P D w ow μ st x a)->
 (∀ (i:Nat) (f:Field) (y:SV),o[i]?=some f->ys[i]?=some y->∃ a,(part f.type yc.toArray f.offset).run P w=.ok a w/\SRep P D w ow μ st y a)->
 (Op.eqFields (d+1) Z.toArray yc.toArray o).run P w=.ok r w:=by
 intro o
 induction o with
 | nil=>
  intro xs ys r h _ _ _
  cases xs<;>cases ys<;>simp [acy] at h
  subst h
  simp [Op.eqFields]
 | cons f o ih=>
  intro xs ys r h J M O
  cases xs with
  | nil=>simp [acy] at h
  | cons x xs=>
   cases ys with
   | nil=>simp [acy] at h
   | cons y ys=>
    simp only [acy] at h
    split at h
    ·rename_i b c hb hc;simp only [Al] at h;subst h;obtain ⟨a1,p1,q1⟩:=M 0 f x rfl rfl;obtain ⟨a2,p2,q2⟩:=O 0 f y rfl rfl;have he:=aos q1 q2 hb d;have hi:=ih xs ys c hc (λg hg=>J g (by simp [hg])) (λi g z H I=>M (i+1) g z (by simpa using H) (by simpa using I)) (λi g z H I=>O (i+1) g z (by simpa using H) (by simpa using I));simp only [Op.eqFields,J f (by simp),ne_eq,not_false_eq_true,Ba,Sem.run_bind,p1,p2,he,Result.andThen_ok];cases b
     ·simp
     ·simpa using hi
    ·cases h
theorem aro (T:TypeId) (op:BinOp) (x y:SV) (a b:Value) (v:SV) (ha:SRep P D w ow μ st x a) (hb:SRep P D w ow μ st y b) (h:ad0 P op T x y=.val true v) (ox oy:Operand):
 ∃ u,(do eqGuard op T ox oy a b;binOp op T a b:Sem Value).run P w=.ok u w/\SRep P D w ow μ st v u:=by
 unfold ad0 at h
 split at h
 ·rename_i o xs ys hT M al;have af:=ajn ha M;have ag:=ajn hb al;have ae:abx P T=true:=by
   unfold aga at M;cases hl:abx P T with
   | true=>rfl
   | false=>rw [hl] at M;cases M
  have hL:=ab7 ae hT;cases hc:(o.toList.all (λf=>!(f.name== "_"))&&!(P.stoodInHeld T)&&!(P.eqGuardType P.depth T)) with
  | false=>rw [hc] at h;cases h
  | true=>
   rw [hc] at h;simp only [Af] at h;simp only [Ai,Bool.not_eq_true'] at hc;obtain ⟨⟨c1,c2⟩,c3⟩:=hc;cases af with
   | @agg _ fs _ cs ab ah ao aq aj=>
    rw [hT] at ab;cases ab;cases ag with
    | @agg _ an _ Z ad ai ap ar ak=>
     rw [hT] at ad;cases ad;have H:P.fieldsOf T=o:=by simp [Program.fieldsOf,hT]
     have O:∀ (zc:List Value) (zs:List SV),zc.length=P.cellsOf T->(∀ (i:Nat) (v:SV) (f:Field),zs[i]?=some v->o[i]?=some f->SRep P D w ow μ st v (pack P f.type ((zc.drop f.offset).take (P.cellsOf f.type))))->
      ∀ (i:Nat) (f:Field) (z:SV),o.toList[i]?=some f->(P.underlying f.type).isSome=true->zs[i]?=some z->∃ u,(part f.type zc.toArray f.offset).run P w=.ok u w/\SRep P D w ow μ st z u:=by
      intro zc zs hl hz i f z H hs am
      have aa:o[i]?=some f:=by simpa using H
      exact ⟨_,apl hs zc f.offset (by rw [hl];exact hL.inside i f aa) (by rcases hL.one i f aa with h | h;exact Or.inl h;exact Or.inr h) w,hz i z f am aa⟩
     have I:∀ (o:List Field) (xs ys:List SV) (r:Bool),acy P o xs ys=some r->∀ f,f∈o->(P.underlying f.type).isSome=true:=by
      intro o;induction o with
      | nil=>intro xs ys r _ f H;cases H
      | cons g r ih=>
       intro xs ys b hb f H;cases xs with
       | nil=>simp [acy] at hb
       | cons x xs=>
        cases ys with
        | nil=>simp [acy] at hb
        | cons y ys=>
         simp only [acy] at hb;split at hb
         ·rename_i b1 b2 J h2;rcases Bl.1 H with rfl | H
          ·unfold aor at J;split at J<;>first | (rename_i hT;rw [hT];rfl) | cases J
          ·exact ih xs ys b2 h2 f H
         ·cases hb
     have key:∀ r,acy P o.toList xs ys=some r->(Op.equalIn 10000 T (.agg cs.toArray) (.agg Z.toArray)).run P w=.ok r w:=by intro r hr;rw [run_equalIn_struct w 9999 T cs.toArray Z.toArray (by rw [H];exact hT) c2,H];refine am9 9998 o.toList xs ys r hr (λf H=>?_) (λi f z J h2=>O cs xs ah aj i f z J (I _ _ _ _ hr f (List.mem_of_getElem? J)) h2) (λi f z J h2=>O Z ys ai ak i f z J (I _ _ _ _ hr f (List.mem_of_getElem? J)) h2);have:=List.all_eq_true.1 c1 f H;simpa using this
     split at h
     ·rename_i r hr;simp only [Ac.val.injEq,true_and] at h;subst h;exact ⟨.bool r,by rw [Sem.run_bind,run_eqGuard_agg w .eql T ox oy _ _ c3,Result.andThen_ok,run_eql_struct,key r hr];rfl,.bool⟩
     ·rename_i r hr;simp only [Ac.val.injEq,true_and] at h;subst h;exact ⟨.bool (!r),by rw [Sem.run_bind,run_eqGuard_agg w .neq T ox oy _ _ c3,Result.andThen_ok,run_neq_struct,key r hr];rfl,.bool⟩
     ·cases h
 ·cases h
end
end Go.Ab
