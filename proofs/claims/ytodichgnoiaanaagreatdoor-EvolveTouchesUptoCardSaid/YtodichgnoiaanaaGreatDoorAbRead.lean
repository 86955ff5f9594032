/- Reading slots; zero values; plain data out of slots; parts of a box. -/
import Derived.Test.YtodichgnoiaanaaGreatDoorAbRel
import Derived.Laws.StructEq
set_option linter.unusedVariables false
set_option linter.unusedSimpArgs false
set_option linter.unnecessarySimpa false
namespace Go.Ab
open Go
section
variable {Γ:Ctx}{D:Dom}{ow:Own}{μ:Nat->Nat}{e:Env}{st:List BX}{a:Act}{w:World}
theorem awj (h:Slots Γ D ow μ e st a w):∀ (f z:Nat) (H:Bool) (t:Nat) (v:Bool),afs e f z H t v=true->a.tmps.getD z Go.undef=.bool H->a.tmps.getD t Go.undef=.bool v:=by
 intro f;induction f with
 | zero=>grind [afs]
 | succ f ih=>
  intro z H t v o hv;unfold afs at o;cases I:(Nat.beq z t&&(bif H then v else !v)) with
  | true=>simp only [Aj] at I;grind [Nat.eq_of_beq_eq_true]
  | false=>
   rw [I] at o;simp only [Ah] at o;have O:=h.slot z;cases M:e z with
   | gd Z w2 x=>
    rw [M] at o O;refine ih Z w2 t v o ?_;by_cases J:a.tmps.getD Z Go.undef=.bool w2
    ·exact J
    ·have:=O.2 J;rw [hv] at this;cases this
   | _=>rw [M] at o;simp at o
theorem apd (h:Slots Γ D ow μ e st a w) (o:List (Nat×Bool)) (z:∀ x,x∈o->a.tmps.getD x.1 Go.undef=.bool x.2) (t:Nat) (v:Bool) (H:aib e o t v=true):a.tmps.getD t Go.undef=.bool v:=by
 induction o with
 | nil=>grind [aib]
 | cons x r I=>grind [aib,afs,awj]
theorem a9o (h:Slots Γ D ow μ e st a w) (o:List (Nat×Bool)) (O:∀ x,x∈o->a.tmps.getD x.1 Go.undef=.bool x.2) (t:Nat):SRep Γ.P D w ow μ st (rd e o (e t)) (a.tmps.getD t Go.undef):=by
 have z:=h.slot t;cases H:e t with
 | gd I J x=>
  rw [H] at z;simp only [rd];cases M:aib e o I J with
  | true=>exact z.1 (apd h o O I J M)
  | false=>exact .undef
 | _=>rw [H] at z;exact z
theorem aq5 (v:Value):SRep Γ.P D w ow μ st (av7 v) v:=by
 unfold av7;split
 ·exact .bool
 ·exact .int
 ·rename_i s;exact .str (s:=s.data.toList)
 ·exact .nils
 ·exact .eif (λ_=>rfl) (λh=>by cases h)
 ·exact .raw
theorem abp (h:Slots Γ D ow μ e st a w) (o:List (Nat×Bool)) (z:∀ x,x∈o->a.tmps.getD x.1 Go.undef=.bool x.2) (x:Operand):SRep Γ.P D w ow μ st (opd e o x) (a.eval x):=by
 cases x with
 | tmp t=>exact a9o h o z t
 | const v=>exact aq5 v
 | global g=>exact .undef
 | func f=>exact .fn (caps:=[]) rfl (by simp) (λi s v H=>by simp at H)
theorem af5 (h:Slots Γ D ow μ e st a w):∀ (f t:Nat) (v c:Bool),gval e f t v=some c->(a.tmps.getD t Go.undef=.bool v ↔ c=true):=by
 intro f;induction f with
 | zero=>grind [gval]
 | succ f ih=>
  intro t v c o;unfold gval at o;have z:=h.slot t;cases H:e t with
  | bool b=>
   rw [H] at o z;simp only [Ak] at o;have J:a.tmps.getD t Go.undef=.bool b:=by generalize a.tmps.getD t Go.undef=u at z;cases z;rfl
   grind [bq]
  | gd M O x=>
   cases x with
   | bool b=>
    rw [H] at o z;simp only at o;cases hg:gval e f M O with
    | none=>grind
    | some Z=>
     rw [hg] at o;simp only [Ak] at o;have hi:=ih M O Z hg;by_cases hc:a.tmps.getD M Go.undef=.bool O
     ·have J:a.tmps.getD t Go.undef=.bool b:=by have:=z.1 hc;generalize a.tmps.getD t Go.undef=u at this;cases this;rfl
      grind [bq]
     ·have J:=z.2 hc;have I:Z=false:=by grind
      rw [J,<-o,I];constructor
      ·intro o;cases o
      grind
   | _=>rw [H] at o;simp at o
  | _=>rw [H] at o;simp at o
end
theorem apn (P:Program):∀ (l:List Field) (n m:Nat),ab8 P l n=some m->
 n<=m/\∀ (i:Nat) (f:Field),l[i]?=some f->n<=f.offset/\f.offset+P.cellsOf f.type<=m/\0<P.cellsOf f.type/\(aaj P f.type=true\/P.cellsOf f.type=1)/\
  ∀ (j:Nat) (g:Field),l[j]?=some g->i<j->f.offset+P.cellsOf f.type<=g.offset:=by
 intro l
 induction l with
 | nil=>intro n m h;simp [ab8] at h;grind
 | cons x r ih=>
  intro n m h
  unfold ab8 at h
  cases H:(Nat.beq x.offset n&&!(Nat.beq (P.cellsOf x.type) 0)&&(aaj P x.type||Nat.beq (P.cellsOf x.type) 1)) with
  | false=>grind
  | true=>
   rw [H] at h
   simp only [Af] at h
   simp only [Aj,Bool.not_eq_true',Bc] at H
   obtain ⟨⟨M,h2⟩,O⟩:=H
   have e1:x.offset=n:=Ae M
   have z:0<P.cellsOf x.type:=by rcases Nat.eq_zero_or_pos (P.cellsOf x.type) with J | J;all_goals simp_all
   obtain ⟨aa,hr⟩:=ih _ _ h
   refine ⟨by omega,λi f o=>?_⟩
   cases i with
   | zero=>
    simp at o;subst o
    refine ⟨by omega,by omega,z,O.imp id Ae,λj g Z I=>?_⟩
    cases j with
    | zero=>omega
    | succ j=>grind
   | succ i=>
    simp at o
    obtain ⟨q1,q2,q3,q4,q5⟩:=hr i f o
    refine ⟨by omega,q2,q3,q4,λj g Z I=>?_⟩
    cases j with
    | zero=>omega
    | succ j=>grind
theorem aoa (P:Program):∀ (l:List Field) (n m:Nat),ab8 P l n=some m->∀ j,n<=j->j<m->∃ (i:Nat) (f:Field),l[i]?=some f/\f.offset<=j/\j<f.offset+P.cellsOf f.type:=by
 intro l;induction l with
 | nil=>grind [ab8]
 | cons x r H=>
  intro n m h j O z;unfold ab8 at h;cases o:(Nat.beq x.offset n&&!(Nat.beq (P.cellsOf x.type) 0)&&(aaj P x.type||Nat.beq (P.cellsOf x.type) 1)) with
  | false=>grind
  | true=>
   rw [o] at h;simp only [Af] at h;simp only [Aj] at o;have M:x.offset=n:=Ae o.1.1;by_cases Z:j<n+P.cellsOf x.type
   ·exact ⟨0,x,rfl,by omega,by omega⟩
   ·obtain ⟨i,f,I,J⟩:=H _ _ h j (by omega) z;exact ⟨i+1,f,by simpa using I,J⟩
structure Laid (P:Program) (T:TypeId) (fs:Array Field):Prop where
 inside:∀ (i:Nat) (f:Field),fs[i]?=some f->f.offset+P.cellsOf f.type<=P.cellsOf T
 pos:∀ (i:Nat) (f:Field),fs[i]?=some f->0<P.cellsOf f.type
 one:∀ (i:Nat) (f:Field),fs[i]?=some f->aaj P f.type=true\/P.cellsOf f.type=1
 apart:∀ (i j:Nat) (f g:Field),fs[i]?=some f->fs[j]?=some g->i<j->f.offset+P.cellsOf f.type<=g.offset
 cover:∀ j,j<P.cellsOf T->∃ (i:Nat) (f:Field),fs[i]?=some f/\f.offset<=j/\j<f.offset+P.cellsOf f.type
theorem acf {P:Program}{T:TypeId}{o:Array Field} (h:ace P T=true) (M:aggF P T=some o):Laid P T o:=by
 unfold ace at h;rw [M] at h;simp only at h;cases I:ab8 P o.toList 0 with
 | none=>grind
 | some n=>
  rw [I] at h;have Z:n=P.cellsOf T:=Ae h;obtain ⟨_,J⟩:=apn P _ _ _ I;have tl:∀ (i:Nat),o.toList[i]?=o[i]?:=λi=>by simp
  exact ⟨λi f z=>by grind,λi f z=>(J i f (by grind)).2.2.1,λi f z=>(J i f (by grind)).2.2.2.1,
   λi j f g z O H=>(J i f (by grind)).2.2.2.2 j g (by grind) H,
   λj O=>by obtain ⟨i,f,q1,q2⟩:=aoa P _ _ _ I j (Nat.zero_le _) (by omega);grind⟩
theorem Laid.oneCell {P:Program}{T:TypeId}{o:Array Field} (h:Laid P T o) {cs:List Value} (M:cs.length=P.cellsOf T)
 (H:∀ (i:Nat) (f:Field),o[i]?=some f->∀ c,c∈(cs.drop f.offset).take (P.cellsOf f.type)->c.oneCell'=true):∀ c,c∈cs->c.oneCell'=true:=by
 intro c z
 obtain ⟨j,J,rfl⟩:=List.mem_iff_getElem.1 z
 obtain ⟨i,f,I,O,Z⟩:=h.cover j (by omega)
 refine H i f I _ (List.mem_iff_getElem?.2 ⟨j-f.offset,?_⟩)
 grind
theorem Laid.len {P:Program}{T:TypeId}{o:Array Field} (h:Laid P T o) {cs:List Value} (H:cs.length=P.cellsOf T) {i:Nat}{f:Field} (z:o[i]?=some f):
 ((cs.drop f.offset).take (P.cellsOf f.type)).length=P.cellsOf f.type:=by
 have:=h.inside i f z
 simp;omega
theorem alo {P:Program}{T:TypeId}{cs:List Value} (h:aaj P T=true\/cs.length=1) (o:∀ c,c∈cs->c.oneCell'=true):(pack P T cs).cells.toList=cs:=by
 unfold pack;cases z:aaj P T with
 | true=>simp [Value.cells]
 | false=>
  rcases h with h | h
  ·grind
  ·match cs,h with
   | [c],_=>have:=o c (by simp);cases c<;>simp_all [Value.oneCell',Value.cells]
theorem aeg {v:Value} (h:v.oneCell'=true):v.cells=#[v]:=by cases v<;>simp_all [Value.oneCell',Value.cells]
section
variable {P:Program}{D:Dom}{ow:Own}{μ:Nat->Nat}{st:List BX}{w:World}
theorem a0e:∀ (o:List Field) (ss:List SV),a0d P o ss=true->o.length=ss.length/\∀ (i:Nat) (f:Field) (s:SV),o[i]?=some f->ss[i]?=some s->isOf P f.type s=true:=by
 intro o;induction o with
 | nil=>intro ss h;cases ss with
  | nil=>grind
  | cons x r=>simp [a0d] at h
 | cons d r z=>intro ss h;cases ss with
  | nil=>simp [a0d] at h
  | cons x q=>
   simp only [a0d,Aj] at h
   grind
theorem a6o:∀ (ss:List SV) (i:Nat),(avg ss)[i]?=(ss[i]?).map toPV:=by
 intro ss;induction ss with
 | nil=>grind [avg]
 | cons x r h=>grind [avg]
theorem avh (ss:List SV):(avg ss).length=ss.length:=by
 induction ss with
 | nil=>simp [avg]
 | cons x r h=>simp [avg,h]
theorem aa2 {s:SV}{v:Value} (h:SRep P D w ow μ st s v):∀ T,isOf P T s=true->Rep P D w T (toPV s) v.cells.toList:=by
 induction h with
 | eif=>grind [isOf]
 | ifc=>grind [isOf]
 | lit z=>
  intro T h;unfold isOf at h;split at h
  ·rename_i o;have:=Ae h;subst this;exact z.rep o
  ·cases h
 | arrOld=>grind [isOf]
 | arrNil=>grind [isOf]
 | arr=>grind [isOf]
 | arefOld=>grind [isOf]
 | aref=>grind [isOf]
 | eref=>grind [isOf]
 | asl=>grind [isOf]
 | avwOld=>grind [isOf]
 | avw=>grind [isOf]
 | lits=>grind [isOf]
 | undef=>grind [isOf]
 | bool=>
  intro T h;unfold isOf at h;split at h
  ·rename_i o;exact .bool o
  ·cases h
 | int=>
  intro T h;unfold isOf at h;split at h
  ·rename_i o;simp at h;subst h;exact .int o
  ·cases h
 | str=>
  intro T h;unfold isOf at h;split at h
  ·rename_i o;exact .str o
  ·cases h
 | slice z=>
  intro T h;unfold isOf at h;split at h
  ·rename_i o;have:=Ae h;subst this;have:=z.rep o;cases z<;>exact this
  ·cases h
 | data ha hr=>grind [isOf,Nat.eq_of_beq_eq_true,Value.cells,toPV]
 | @agg T' fs vs cs o Z ho hv hp ih=>
  intro T h;simp only [isOf,Aj] at h;obtain ⟨⟨J,h2⟩,M⟩:=h;have:=Ae J;subst this;rw [o] at M;simp only at M;obtain ⟨q1,q2⟩:=a0e _ _ M;have O:=acf h2 o;simp only [toPV,Value.cells];refine .ofAggF o Z ho (by grind [avh]) (λi v f I H=>?_);rw [a6o] at I;cases z:vs[i]? with
  | none=>grind
  | some s=>rw [z] at I;simp at I;subst I;have:=ih i s f z H f.type (q2 i f s (by simpa using H) z);rwa [alo ((O.one i f H).imp id (λJ=>by rw [O.len Z H];exact J)) (λc hc=>ho c (List.mem_of_mem_drop (List.mem_of_mem_take hc)))] at this
 | map hm=>
  intro T h;unfold isOf at h;split at h
  ·rename_i o;simp only [Aj] at h;have e1:=Ae h.1;have e2:=Ae h.2;subst e1;subst e2;cases hm with
   | nil=>exact .mapnil o
   | mk kc vc a b c d e f=>exact .map kc vc o a b c d e f
  ·cases h
 | nils=>
  intro T h;unfold isOf at h;split at h
  ·rename_i o;exact .nil o λ_=>rfl
  ·cases h
 | acc z=>
  intro T h;unfold isOf at h;split at h
  ·rename_i o;have:=Ae h;subst this;have:=z.rep o;cases z<;>exact this
  ·cases h
 | ref=>grind [isOf]
 | mref=>grind [isOf]
 | iref=>grind [isOf]
 | mitr=>grind [isOf]
 | sln=>grind [isOf]
 | bref=>grind [isOf]
 | nx=>grind [isOf]
 | pto=>grind [isOf]
 | fn=>grind [isOf]
 | tup=>grind [isOf]
 | raw=>intro T h;simp only [isOf,Aj] at h;rw [aeg h.2];exact .raw h.1 h.2
theorem a1i:∀ (n:Nat) (T:TypeId) (cs:List Value),zeroCells? P n T cs=true->SRep P D w ow μ st (aa1 P n T) (pack P T cs)/\(∀ c,c∈cs->c.oneCell'=true):=by
 intro n;induction n with
 | zero=>intro T cs h;simp [zeroCells?] at h
 | succ n ih=>
  intro T cs h;cases z:P.underlying T with
  | none=>simp [zeroCells?,z] at h
  | some d=>
   cases d with
   | struct fs=>
    simp only [zeroCells?,z,Aj] at h;obtain ⟨⟨hL,o⟩,ad⟩:=h;have hL:=acf hL (abd z);have o:cs.length=P.cellsOf T:=Ae o;have hf:∀ (i:Nat) (f:Field),fs[i]?=some f->zeroCells? P n f.type ((cs.drop f.offset).take (P.cellsOf f.type))=true:=by grind
    have ha:aaj P T=true:=by simp [aaj,z]
    have O:=hL.oneCell o (λi f H=>(ih _ _ (hf i f H)).2);refine ⟨?_,O⟩;simp only [aa1,z,pack,ha,A9];refine .agg (abd z) o O (by simp) (λi v f Z H=>?_);grind
   | array k E=>
    simp only [zeroCells?,z,Aj,Bc] at h;obtain ⟨⟨⟨⟨h1,h2⟩,I⟩,h4⟩,h5⟩:=h;have h1:=Ae h1;have h2:=Ae h2;have H:∀ i,i<k->zeroCells? P n E ((cs.drop (i*P.cellsOf E)).take (P.cellsOf E))=true:=λi H=>Bj.1 h5 i (List.mem_range.2 H);have ae:∀ i,i<k->i*P.cellsOf E+P.cellsOf E<=cs.length:=λi H=>by rw [h1,h2];have:(i+1)*P.cellsOf E<=k*P.cellsOf E:=Au _ (by omega);grind
    have O:∀ c,c∈cs->c.oneCell'=true:=by
     intro c hc;obtain ⟨j,hj,rfl⟩:=List.mem_iff_getElem.1 hc;have aa:0<P.cellsOf E:=by grind
     have hd:j / P.cellsOf E<k:=by rw [Nat.div_lt_iff_lt_mul aa];omega
     refine (ih E _ (H _ hd)).2 _ (List.mem_iff_getElem?.2 ⟨j%P.cellsOf E,?_⟩);grind [List.getElem?_take_of_lt,Nat.mod_lt,Nat.div_add_mod,Nat.mul_comm,List.getElem?_eq_getElem]
    have ha:aaj P T=true:=by simp [aaj,z]
    refine ⟨?_,O⟩;simp only [aa1,z,pack,ha,A9];split
    ·rename_i fs ab;obtain ⟨q1,q2⟩:=ajy ab;refine .agg (show aggF P T=some fs by grind [aggF]) h1 O (by simp) (λi v f Z hf=>?_);grind
    refine .data ha (.arr z h1 O (by simp) (λi v Z=>?_));obtain ⟨J,Z⟩:=A5.1 Z;simp at J;simp at Z;subst Z;have hz:=(ih E _ (H i J)).1;have hr:=aa2 hz E h4;have hl:((cs.drop (i*P.cellsOf E)).take (P.cellsOf E)).length=P.cellsOf E:=by grind
    have M:=(ih E _ (H i J)).2;generalize (cs.drop (i*P.cellsOf E)).take (P.cellsOf E)=zs at*;have hp:(pack P E zs).cells.toList=zs:=by
     cases hE:aaj P E with
     | true=>simp [pack,hE,Value.cells]
     | false=>
      rw [hE] at I;rcases I with I | I
      ·cases I
      ·have I:=Ae I;rw [I] at hl;match zs,hl,M with
       | [u],_,M=>have hu:=M u (by simp);simp only [pack,hE,A8,Bb,List.headD];rw [aeg hu]
    rwa [hp] at hr
   | _=>
    simp only [zeroCells?,z] at h;try split at h
    all_goals first
     | (rename_i hq;cases hq;done)
     | (simp at h;done)
     | skip
    all_goals (try (rename_i hq;cases hq))
    all_goals simp only [aa1,z,pack,aaj]
    all_goals first
     | (simp at h;subst h;exact ⟨.bool,by simp [Value.oneCell']⟩)
     | (simp at h;obtain ⟨rfl,rfl⟩:=h;exact ⟨.int,by simp [Value.oneCell']⟩)
     | (exact ⟨.nils,by simp [Value.oneCell']⟩)
     | (exact ⟨.map .nil,by simp [Value.oneCell']⟩)
     | (exact ⟨.raw,by simp [Value.oneCell']⟩)
     | (
      rename_i s
      have hs:s=⟨#[]⟩:=by
       cases s with
       | mk d=>grind
      subst hs
      exact ⟨.str,by simp [Value.oneCell']⟩)
     | (trace_state;fail)
theorem Rep.aggLen {T:TypeId}{v:PV}{cs:List Value} (h:Rep P D w T v cs) (H:aaj P T=true):cs.length=P.cellsOf T:=by
 cases h with
 | agg _ z=>exact z
 | arr _ z=>exact z
 | raw I=>grind [rawT,aaj]
 | bool o=>grind [aaj]
 | int o=>grind [aaj]
 | str o=>grind [aaj]
 | nil o=>grind [aaj]
 | slice o=>grind [aaj]
 | mapnil o=>grind [aaj]
 | map _ _ o=>grind [aaj]
theorem aep {s:SV}{v:Value}{T:TypeId} (h:SRep P D w ow μ st s v) (o:afd P T s=true):
 v.cells.toList.length=P.cellsOf T/\(∀ c,c∈v.cells.toList->c.oneCell'=true)/\pack P T v.cells.toList=v:=by
 have z:∀ {u:Value},u.oneCell'=true->(!aaj P T&&Nat.beq (P.cellsOf T) 1)=true->u.cells.toList.length=P.cellsOf T/\(∀ c,c∈u.cells.toList->c.oneCell'=true)/\pack P T u.cells.toList=u:=by intro u hu hb;simp only [Aj,Bool.not_eq_true'] at hb;grind [Nat.eq_of_beq_eq_true,aeg,pack]
 cases h with
 | undef=>simp [afd] at o
 | nx=>simp [afd] at o
 | tup=>simp [afd] at o
 | avwOld=>simp [afd] at o
 | avw=>simp [afd] at o
 | lits=>simp [afd] at o
 | data J M=>
  simp only [afd,Aj] at o
  have:=Ae o.1;subst this
  exact ⟨by simpa [Value.cells] using M.aggLen J,by simpa [Value.cells] using M.oneCell,by simp [Value.cells,pack,J]⟩
 | agg hT hl I hv hp=>
  simp only [afd,Aj] at o
  grind [Nat.eq_of_beq_eq_true,Value.cells,pack]
 | raw=>simp only [afd,Aj] at o;grind
 | slice H=>cases H<;>exact z rfl o
 | map H=>cases H<;>exact z rfl o
 | acc H=>cases H<;>exact z rfl o
 | @eif b v O Z=>
  cases b with
  | true=>rw [O rfl];exact z rfl o
  | false=>obtain ⟨t,u,rfl⟩:=Z rfl;exact z rfl o
 | arrOld _ _ I=>exact z I o
 | arefOld _ _ I=>exact z I o
 | _=>exact z rfl o
theorem aw4 (T:TypeId) (v:PV):∀ (h:List Field) (n i:Nat),(ah1 P T v h n)[i]?=(h[i]?).map λf=>ofPV P f.type (v.fld (n+i)):=by
 intro h;induction h with
 | nil=>grind [ah1]
 | cons d r o=>grind [ah1]
theorem apu (T:TypeId) (v:PV):∀ (h:List Field) (n:Nat),(ah1 P T v h n).length=h.length:=by
 intro h;induction h with
 | nil=>grind [ah1]
 | cons d r o=>grind [ah1]
theorem arj {o:List PV}{i:Nat}{v:PV} (h:o[i]?=some v):PV.fld (.agg o) i=v:=by simp [PV.fld,PV.parts,List.getD,h]
theorem ahr {s:SV}{TB:TypeId}{cs:List Value}{Z:List SV}{z:Array Field} (hs:SRep P D w ow μ st s (pack P TB cs)) (h:aha P TB s=some Z) (J:aggF P TB=some z):
 Laid P TB z/\cs.length=P.cellsOf TB/\Z.length=z.size/\(∀ c,c∈cs->c.oneCell'=true)/\
  ∀ (i:Nat) (x:SV) (f:Field),Z[i]?=some x->z[i]?=some f->SRep P D w ow μ st x (pack P f.type ((cs.drop f.offset).take (P.cellsOf f.type))):=by
 have ha:aaj P TB=true:=amy J
 unfold aha at h
 cases hl:ace P TB with
 | false=>grind
 | true=>
  rw [hl] at h
  simp only [Af] at h
  have hL:=acf hl J
  have af:pack P TB cs=.agg cs.toArray:=by simp [pack,ha]
  rw [af] at hs
  generalize hv:Value.agg cs.toArray=v at hs
  cases hs with
  | @agg T ai I o aj ak ho al hp=>
   simp only at h
   cases M:Nat.beq TB T with
   | false=>grind
   | true=>
    rw [M] at h
    simp only [Af,Ak] at h
    grind [Nat.eq_of_beq_eq_true]
  | @data T pv o ah hr=>
   simp only at h
   cases M:Nat.beq TB T with
   | false=>grind
   | true=>
    rw [M,J] at h
    simp only [Af,Ak] at h
    have:=Ae M;subst this;subst h
    have e:cs=o:=by simpa using hv
    subst e
    obtain ⟨I,rfl,ab,ae,am,ag⟩:=hr.aggF J
    refine ⟨hL,ab,by rw [apu];simp,ae,λi x f O hf=>?_⟩
    rw [aw4] at O
    have aa:z.toList[i]?=some f:=by simpa using hf
    rw [aa] at O
    simp at O
    subst O
    have ad:i<I.length:=by grind
    have H:I[i]?=some I[i]:=Am ad
    rw [arj H]
    exact (ag i I[i] f H hf).ofPV
  | _=>simp at h
theorem aj9:∀ (path:List Nat) (TB:TypeId) (s:SV) (cs:List Value) (off:Nat) (T:TypeId) (x:SV),SRep P D w ow μ st s (pack P TB cs)->cs.length=P.cellsOf TB->ab2 P TB path=some (off,T)->ahv P TB s path=some x->
 SRep P D w ow μ st x (pack P T ((cs.drop off).take (P.cellsOf T)))/\off+P.cellsOf T<=cs.length:=by
 intro path
 induction path with
 | nil=>
  intro TB s cs off T x hs hl z h
  simp [ab2] at z
  simp [ahv] at h
  grind
 | cons i p ih=>
  intro TB s cs off T x hs hl z h
  unfold ab2 at z
  unfold ahv at h
  cases M:aggF P TB with
  | none=>grind
  | some ds=>
   rw [M] at z h
   simp only at z h
   cases H:ds[i]? with
   | none=>grind
   | some f=>
    rw [H] at z
    simp only at z
    cases Z:ab2 P f.type p with
    | none=>grind
    | some r=>
     obtain ⟨o,t⟩:=r
     rw [Z] at z
     simp at z
     obtain ⟨rfl,rfl⟩:=z
     cases O:aha P TB s with
     | none=>grind
     | some fs=>
      rw [O] at h
      simp only at h
      cases hx:fs[i]? with
      | none=>grind
      | some y=>
       rw [hx,H] at h
       simp only at h
       obtain ⟨I,J,h2,h3,h4⟩:=ahr hs O M
       obtain ⟨q1,q2⟩:=ih f.type y _ o t x (h4 i y f hx H) (I.len J H) Z h
       rw [I.len J H] at q2
       have aa:=I.inside i f H
       refine ⟨?_,by omega⟩
       rw [List.drop_take,List.take_take,Bn,Nat.min_eq_left (by omega)] at q1
       exact q1
def aa7 (cs:List Value) (off:Nat) (xs:List Value):List Value:=cs.take off++xs++cs.drop (off+xs.length)
theorem abq {cs xs:List Value}{off:Nat} (h:off+xs.length<=cs.length):(aa7 cs off xs).length=cs.length:=by simp [aa7];omega
theorem ao7 {cs xs:List Value}{off:Nat} (h:off+xs.length<=cs.length):((aa7 cs off xs).drop off).take xs.length=xs:=by unfold aa7;grind
theorem aey {cs xs:List Value}{off:Nat} (h:off+xs.length<=cs.length) (j:Nat):(aa7 cs off xs)[j]?=if off<=j/\j<off+xs.length then xs[j-off]? else cs[j]?:=by
 unfold aa7;have o:(cs.take off).length=off:=by simp;omega
 grind
theorem adq {cs xs:List Value}{off:Nat} (h:off+xs.length<=cs.length) {o n:Nat} (H:o+n<=off\/off+xs.length<=o):((aa7 cs off xs).drop o).take n=(cs.drop o).take n:=by
 apply List.ext_getElem?;intro j;by_cases z:j<n
 ·rw [List.getElem?_take_of_lt z,List.getElem?_take_of_lt z,List.getElem?_drop,List.getElem?_drop,aey h,if_neg (by omega)]
 grind
theorem aky {cs xs:List Value}{off o n:Nat} (H:o+n<=cs.length) (h:off+xs.length<=n):((aa7 cs (o+off) xs).drop o).take n=aa7 ((cs.drop o).take n) off xs:=by
 have I:((cs.drop o).take n).length=n:=by simp;omega
 apply List.ext_getElem?;intro j;rw [aey (by omega)];by_cases z:j<n
 ·rw [List.getElem?_take_of_lt z,List.getElem?_drop,aey (by omega),List.getElem?_take_of_lt z,List.getElem?_drop];grind
 grind
theorem akx:∀ (path:List Nat) (TB:TypeId) (s:SV) (cs:List Value) (off:Nat) (T:TypeId) (x:SV) (xs:List Value) (s':SV),SRep P D w ow μ st s (pack P TB cs)->cs.length=P.cellsOf TB->ab2 P TB path=some (off,T)->
 SRep P D w ow μ st x (pack P T xs)->xs.length=P.cellsOf T->(∀ c,c∈xs->c.oneCell'=true)->ah6 P TB s path x=some s'->
 SRep P D w ow μ st s' (pack P TB (aa7 cs off xs))/\off+xs.length<=cs.length:=by
 intro path
 induction path with
 | nil=>
  intro TB s cs off T x xs s' hs hl H hx ad O h
  simp [ab2] at H
  simp [ah6] at h
  obtain ⟨rfl,rfl⟩:=H
  grind [aa7]
 | cons i p ih=>
  intro TB s cs off T x xs s' hs hl H hx ad O h
  unfold ab2 at H
  unfold ah6 at h
  cases hT:aggF P TB with
  | none=>grind
  | some ds=>
   rw [hT] at H h
   simp only at H h
   cases J:ds[i]? with
   | none=>grind
   | some f=>
    rw [J] at H
    simp only at H
    cases hq:ab2 P f.type p with
    | none=>grind
    | some r=>
     obtain ⟨o,t⟩:=r
     rw [hq] at H
     simp at H
     obtain ⟨rfl,rfl⟩:=H
     cases he:aha P TB s with
     | none=>grind
     | some fs=>
      rw [he] at h
      simp only at h
      cases hy:fs[i]? with
      | none=>grind
      | some y=>
       rw [hy,J] at h
       simp only at h
       cases hz:ah6 P f.type y p x with
       | none=>grind
       | some z=>
        rw [hz] at h
        simp only [Ak] at h
        subst h
        obtain ⟨Z,h1,h2,h3,h4⟩:=ahr hs he hT
        obtain ⟨q1,q2⟩:=ih f.type y _ o t x xs z (h4 i y f hy J) (Z.len h1 J) hq hx ad O hz
        rw [Z.len h1 J] at q2
        have ag:=Z.inside i f J
        have ab:f.offset+o+xs.length<=cs.length:=by omega
        have ha:aaj P TB=true:=amy hT
        refine ⟨?_,ab⟩
        have af:pack P TB (aa7 cs (f.offset+o) xs)=.agg (aa7 cs (f.offset+o) xs).toArray:=by simp [pack,ha]
        rw [af]
        refine .agg hT (by grind [abq]) ?_ (by simpa using h2) (λj v g hj h=>?_)
        ·intro c I;unfold aa7 at I;simp only [Bm] at I;rcases I with (I | I) | I
         ·exact h3 c (List.mem_of_mem_take I)
         ·exact O c I
         ·exact h3 c (List.mem_of_mem_drop I)
        ·by_cases aa:j=i
         ·subst aa;rw [J] at h;cases h;have M:j<fs.length:=(A5.1 hy).1;rw [List.getElem?_set_self M] at hj;cases hj;rw [aky (by omega) q2];exact q1
         ·rw [Ao (by omega)] at hj;rw [adq ab]
          ·exact h4 j v g hj h
          ·rcases Nat.lt_or_gt_of_ne aa with M | ae
           ·have:=Z.apart j i g f h J M;omega
           ·have:=Z.apart i j f g J h ae;omega
end
end Go.Ab
namespace Go.Ab
open Go
theorem aav {P:Program}{T:TypeId} (h:P.cellsOf T≠0):∃ i,P.info? T=some i/\i.size=P.cellsOf T:=by
 cases o:P.info? T with
 | none=>grind [Program.cellsOf]
 | some i=>exact ⟨i,rfl,by simp [Program.cellsOf,o]⟩
theorem akb {P:Program}{T:TypeId}{d:TypeDesc} (h:P.underlying T=some d):∃ i,P.info? T=some i/\i.size=P.cellsOf T:=by
 cases o:P.info? T with
 | none=>grind [Program.underlying]
 | some i=>exact ⟨i,rfl,by simp [Program.cellsOf,o]⟩
theorem aau {P:Program}{T:TypeId}{i:TypeInfo} (h:P.info? T=some i) (o:i.size=P.cellsOf T) (w:World):(sizeOf T).run P w=.ok (P.cellsOf T) w:=by simp [sizeOf,typeInfo,h,o]
theorem alq {P:Program}{T:TypeId} (h:(P.underlying T).isSome=true) (w:World):(isAgg T).run P w=.ok (aaj P T) w:=by obtain ⟨d,o⟩:=Option.isSome_iff_exists.1 h;cases d<;>simp [isAgg,run_underlying o,aaj,o]
theorem ash {P:Program}{T:TypeId} (H:(P.underlying T).isSome=true) (cs:List Value) (off:Nat) (h:off+P.cellsOf T<=cs.length) (z:aaj P T=true\/P.cellsOf T=1) (w:World):
 (part T cs.toArray off).run P w=.ok (pack P T ((cs.drop off).take (P.cellsOf T))) w:=by
 unfold part
 simp only [Sem.run_bind,alq H,Result.andThen_ok]
 cases I:aaj P T with
 | true=>
  obtain ⟨d,J⟩:=Option.isSome_iff_exists.1 H
  obtain ⟨i,M,O⟩:=akb J
  simp only [A9,Sem.run_bind,aau M O,Result.andThen_ok,pack,I]
  simp_all
 | false=>
  have z:P.cellsOf T=1:=by grind
  rw [z] at h ⊢
  have o:off<cs.length:=by omega
  have e:(cs.drop off).take 1=[cs[off]]:=by grind [List.drop_eq_getElem_cons]
  simp [o,pack,I,e]
section
variable {P:Program}{D:Dom}{ow:Own}{μ:Nat->Nat}{st:List BX}{w:World}
theorem alb {T:TypeId}{s:SV}{I:List SV}{v:Value} (h:SRep P D w ow μ st s v) (o:aha P T s=some I):SRep P D w ow μ st (.agg T I) v:=by
 have Z:=o;unfold aha at o;cases hl:ace P T with
 | false=>grind
 | true=>
  rw [hl] at o;simp only [Af] at o;split at o
  ·rename_i z O;cases H:Nat.beq T z with
   | false=>grind
   | true=>simp_all
  ·rename_i z pv;cases H:Nat.beq T z with
   | false=>grind
   | true=>
    rw [H] at o;simp only [Af] at o;have:=Ae H;subst this;split at o
    ·rename_i ds J;cases h with
     | @data _ _ cs M hr=>
      have hp:SRep P D w ow μ st (.data T pv) (pack P T cs):=by simp only [pack,M,A9];exact .data M hr
      obtain ⟨h1,h2,h3,h4,h5⟩:=ahr hp Z J;exact .agg J h2 h4 h3 h5
    ·cases o
  ·cases o
theorem ari {T:TypeId}{x y:SV}{a b:Value}{r:Bool} (z:SRep P D w ow μ st x a) (H:SRep P D w ow μ st y b) (h:arh P T x y=some r) (d:Nat):(Op.equalIn (d+1) T a b).run P w=.ok r w:=by
 unfold arh at h;split at h
 ·rename_i I;cases z;cases H;grind [Option.some.injEq,run_equalIn_bool]
 ·rename_i Z k M J O I;cases z;cases H;cases o:decide (k=J) with
  | false=>grind
  | true=>rw [o] at h;have:=of_decide_eq_true o;subst this;simp only [Af,Ak] at h;grind [run_equalIn_int]
 ·rename_i I;cases z;cases H;grind [Option.some.injEq,run_equalIn_string,ByteArray.toList_mk]
 ·cases h
theorem apw (d:Nat) {Z yc:List Value}:∀ (o:List Field) (xs ys:List SV) (r:Bool),ac9 P o xs ys=some r->(∀ f,f∈o->f.name≠ "_")->
 (∀ (i:Nat) (f:Field) (x:SV),o[i]?=some f->xs[i]?=some x->∃ a,(part f.type Z.toArray f.offset).run P w=.ok a w/\SRep P D w ow μ st x a)->
 (∀ (i:Nat) (f:Field) (y:SV),o[i]?=some f->ys[i]?=some y->∃ a,(part f.type yc.toArray f.offset).run P w=.ok a w/\SRep P D w ow μ st y a)->
 (Op.eqFields (d+1) Z.toArray yc.toArray o).run P w=.ok r w:=by
 intro o
 induction o with
 | nil=>
  intro xs ys r h _ _ _
  cases xs<;>cases ys<;>simp [ac9] at h
  subst h
  simp [Op.eqFields]
 | cons f o ih=>
  intro xs ys r h J M O
  cases xs with
  | nil=>simp [ac9] at h
  | cons x xs=>
   cases ys with
   | nil=>simp [ac9] at h
   | cons y ys=>
    simp only [ac9] at h
    split at h
    ·rename_i b c hb hc;simp only [Ak] at h;subst h;obtain ⟨a1,p1,q1⟩:=M 0 f x rfl rfl;obtain ⟨a2,p2,q2⟩:=O 0 f y rfl rfl;have he:=ari q1 q2 hb d;have hi:=ih xs ys c hc (λg hg=>J g (by simp [hg])) (λi g z H I=>M (i+1) g z (by simpa using H) (by simpa using I)) (λi g z H I=>O (i+1) g z (by simpa using H) (by simpa using I));simp only [Op.eqFields,J f (by simp),ne_eq,not_false_eq_true,A9,Sem.run_bind,p1,p2,he,Result.andThen_ok];cases b
     ·simp
     grind
    ·cases h
theorem avc (T:TypeId) (op:BinOp) (x y:SV) (a b:Value) (v:SV) (ha:SRep P D w ow μ st x a) (hb:SRep P D w ow μ st y b) (h:aej P op T x y=.val true v) (ox oy:Operand):
 ∃ u,(do eqGuard op T ox oy a b;binOp op T a b:Sem Value).run P w=.ok u w/\SRep P D w ow μ st v u:=by
 unfold aej at h
 split at h
 ·rename_i o xs ys hT ae al;have af:=alb ha ae;have ag:=alb hb al;have ad:ace P T=true:=by
   unfold aha at ae;grind
  have hL:=acf ad (abd hT);cases hc:(o.toList.all (λf=>!(f.name== "_"))&&!(P.stoodInHeld T)&&!(P.eqGuardType P.depth T)) with
  | false=>grind
  | true=>
   rw [hc] at h;simp only [Af] at h;simp only [Aj,Bool.not_eq_true'] at hc;obtain ⟨⟨c1,c2⟩,c3⟩:=hc;cases af with
   | @agg _ fs _ cs aa ah ao aq aj=>
    rw [abd hT] at aa;cases aa;cases ag with
    | @agg _ an _ J ab ai ap ar ak=>
     rw [abd hT] at ab;cases ab;have O:P.fieldsOf T=o:=by simp [Program.fieldsOf,hT]
     have I:∀ (zc:List Value) (zs:List SV),zc.length=P.cellsOf T->(∀ (i:Nat) (v:SV) (f:Field),zs[i]?=some v->o[i]?=some f->SRep P D w ow μ st v (pack P f.type ((zc.drop f.offset).take (P.cellsOf f.type))))->
      ∀ (i:Nat) (f:Field) (z:SV),o.toList[i]?=some f->(P.underlying f.type).isSome=true->zs[i]?=some z->∃ u,(part f.type zc.toArray f.offset).run P w=.ok u w/\SRep P D w ow μ st z u:=by
      intro zc zs hl hz i f z O hs am
      have Z:o[i]?=some f:=by simpa using O
      exact ⟨_,ash hs zc f.offset (by rw [hl];exact hL.inside i f Z) (by rcases hL.one i f Z with h | h;all_goals grind) w,hz i z f am Z⟩
     have H:∀ (o:List Field) (xs ys:List SV) (r:Bool),ac9 P o xs ys=some r->∀ f,f∈o->(P.underlying f.type).isSome=true:=by
      intro o;induction o with
      | nil=>grind
      | cons g r ih=>
       intro xs ys b hb f O;cases xs with
       | nil=>grind [ac9]
       | cons x xs=>
        cases ys with
        | nil=>grind [ac9]
        | cons y ys=>
         simp only [ac9] at hb;split at hb
         ·rename_i b1 b2 M h2;rcases List.mem_cons.1 O with rfl | O
          ·unfold arh at M;grind
          grind
         ·cases hb
     have key:∀ r,ac9 P o.toList xs ys=some r->(Op.equalIn 10000 T (.agg cs.toArray) (.agg J.toArray)).run P w=.ok r w:=by intro r hr;rw [run_equalIn_struct w 9999 T cs.toArray J.toArray (by grind) c2,O];refine apw 9998 o.toList xs ys r hr (λf O=>?_) (λi f z M h2=>I cs xs ah aj i f z M (H _ _ _ _ hr f (List.mem_of_getElem? M)) h2) (λi f z M h2=>I J ys ai ak i f z M (H _ _ _ _ hr f (List.mem_of_getElem? M)) h2);grind
     split at h
     ·rename_i r hr;simp only [Ac.val.injEq,true_and] at h;subst h;exact ⟨.bool r,by grind [Sem.run_bind,run_eqGuard_agg,Result.andThen_ok,run_eql_struct],.bool⟩
     ·rename_i r hr;simp only [Ac.val.injEq,true_and] at h;subst h;exact ⟨.bool (!r),by grind [Sem.run_bind,run_eqGuard_agg,Result.andThen_ok,run_neq_struct],.bool⟩
     ·cases h
 ·cases h
end
end Go.Ab
