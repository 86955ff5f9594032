/- Reading slots; zero values; plain data out of slots; parts of a box. -/
import Derived.Test.YtjogoleiodbfdaaGreatDoorAbRel
import Derived.Laws.StructEq
set_option linter.unusedVariables false
set_option linter.unusedSimpArgs false
set_option linter.unnecessarySimpa false
namespace Go.Ab
open Go
section
variable {Γ:Ctx}{D:Dom}{ow:Own}{μ:Nat->Nat}{e:Env}{st:List BX}{a:Act}{w:World}
theorem at3 (h:Slots Γ D ow μ e st a w):∀ (f H:Nat) (I:Bool) (t:Nat) (v:Bool),aiy e f H I t v=true->a.tmps.getD H Go.undef=.bool I->a.tmps.getD t Go.undef=.bool v:=by
 intro f;induction f with
 | zero=>grind [aiy]
 | succ f ih=>
  intro H I t v o hv;unfold aiy at o;cases J:(Nat.beq H t&&(bif I then v else !v)) with
  | true=>simp only [Aj] at J;grind [Nat.eq_of_beq_eq_true]
  | false=>
   rw [J] at o;simp only [Ah] at o;have Z:=h.slot H;cases O:e H with
   | gd t2 w2 x=>
    rw [O] at o Z;refine ih t2 w2 t v o ?_;by_cases M:a.tmps.getD t2 Go.undef=.bool w2
    ·exact M
    ·have:=Z.2 M;rw [hv] at this;cases this
   | _=>rw [O] at o;simp at o
theorem an1 (h:Slots Γ D ow μ e st a w) (o:List (Nat×Bool)) (H:∀ x,x∈o->a.tmps.getD x.1 Go.undef=.bool x.2) (t:Nat) (v:Bool) (I:ahu e o t v=true):a.tmps.getD t Go.undef=.bool v:=by
 induction o with
 | nil=>grind [ahu]
 | cons x r J=>grind [ahu,aiy,at3]
theorem a5j (h:Slots Γ D ow μ e st a w) (o:List (Nat×Bool)) (Z:∀ x,x∈o->a.tmps.getD x.1 Go.undef=.bool x.2) (t:Nat):SRep Γ.P D w ow μ st (rd e o (e t)) (a.tmps.getD t Go.undef):=by
 have H:=h.slot t;cases I:e t with
 | gd J M x=>
  rw [I] at H;simp only [rd];cases O:ahu e o J M with
  | true=>exact H.1 (an1 h o Z J M O)
  | false=>exact .undef
 | _=>rw [I] at H;exact H
theorem apk (v:Value):SRep Γ.P D w ow μ st (atq v) v:=by
 unfold atq;split
 ·exact .bool
 ·exact .int
 ·rename_i s;exact .str (s:=s.data.toList)
 ·exact .nils
 ·exact .eif (λ_=>rfl) (λh=>by cases h)
 ·exact .raw
theorem abn (h:Slots Γ D ow μ e st a w) (o:List (Nat×Bool)) (H:∀ x,x∈o->a.tmps.getD x.1 Go.undef=.bool x.2) (x:Operand):SRep Γ.P D w ow μ st (opd e o x) (a.eval x):=by
 cases x with
 | tmp t=>exact a5j h o H t
 | const v=>exact apk v
 | global g=>exact .undef
 | func f=>exact .fn (caps:=[]) rfl (by simp) (λi s v I=>by simp at I)
theorem afn (h:Slots Γ D ow μ e st a w):∀ (f t:Nat) (v c:Bool),gval e f t v=some c->(a.tmps.getD t Go.undef=.bool v ↔ c=true):=by
 intro f;induction f with
 | zero=>grind [gval]
 | succ f ih=>
  intro t v c o;unfold gval at o;have H:=h.slot t;cases I:e t with
  | bool b=>
   rw [I] at o H;simp only [Al] at o;have M:a.tmps.getD t Go.undef=.bool b:=by generalize a.tmps.getD t Go.undef=u at H;cases H;rfl
   grind [bq]
  | gd O Z x=>
   cases x with
   | bool b=>
    rw [I] at o H;simp only at o;cases hg:gval e f O Z with
    | none=>grind
    | some c1=>
     rw [hg] at o;simp only [Al] at o;have hi:=ih O Z c1 hg;by_cases hc:a.tmps.getD O Go.undef=.bool Z
     ·have M:a.tmps.getD t Go.undef=.bool b:=by have:=H.1 hc;generalize a.tmps.getD t Go.undef=u at this;cases this;rfl
      grind [bq]
     ·have M:=H.2 hc;have J:c1=false:=by grind
      rw [M,<-o,J];constructor
      ·intro o;cases o
      grind
   | _=>rw [I] at o;simp at o
  | _=>rw [I] at o;simp at o
end
theorem an8 (P:Program):∀ (l:List Field) (n m:Nat),ab7 P l n=some m->
 n<=m/\∀ (i:Nat) (f:Field),l[i]?=some f->n<=f.offset/\f.offset+P.cellsOf f.type<=m/\0<P.cellsOf f.type/\(aal P f.type=true\/P.cellsOf f.type=1)/\
  ∀ (j:Nat) (g:Field),l[j]?=some g->i<j->f.offset+P.cellsOf f.type<=g.offset:=by
 intro l
 induction l with
 | nil=>intro n m h;simp [ab7] at h;grind
 | cons x r ih=>
  intro n m h
  unfold ab7 at h
  cases I:(Nat.beq x.offset n&&!(Nat.beq (P.cellsOf x.type) 0)&&(aal P x.type||Nat.beq (P.cellsOf x.type) 1)) with
  | false=>grind
  | true=>
   rw [I] at h
   simp only [Af] at h
   simp only [Aj,Bool.not_eq_true',Bd] at I
   obtain ⟨⟨O,h2⟩,Z⟩:=I
   have e1:x.offset=n:=Ae O
   have H:0<P.cellsOf x.type:=by rcases Nat.eq_zero_or_pos (P.cellsOf x.type) with M | M;all_goals simp_all
   obtain ⟨aa,hr⟩:=ih _ _ h
   refine ⟨by omega,λi f o=>?_⟩
   cases i with
   | zero=>
    simp at o;subst o
    refine ⟨by omega,by omega,H,Z.imp id Ae,λj g hj J=>?_⟩
    cases j with
    | zero=>omega
    | succ j=>grind
   | succ i=>
    simp at o
    obtain ⟨q1,q2,q3,q4,q5⟩:=hr i f o
    refine ⟨by omega,q2,q3,q4,λj g hj J=>?_⟩
    cases j with
    | zero=>omega
    | succ j=>grind
theorem amw (P:Program):∀ (l:List Field) (n m:Nat),ab7 P l n=some m->∀ j,n<=j->j<m->∃ (i:Nat) (f:Field),l[i]?=some f/\f.offset<=j/\j<f.offset+P.cellsOf f.type:=by
 intro l;induction l with
 | nil=>grind [ab7]
 | cons x r I=>
  intro n m h j Z H;unfold ab7 at h;cases o:(Nat.beq x.offset n&&!(Nat.beq (P.cellsOf x.type) 0)&&(aal P x.type||Nat.beq (P.cellsOf x.type) 1)) with
  | false=>grind
  | true=>
   rw [o] at h;simp only [Af] at h;simp only [Aj] at o;have O:x.offset=n:=Ae o.1.1;by_cases hj:j<n+P.cellsOf x.type
   ·exact ⟨0,x,rfl,by omega,by omega⟩
   ·obtain ⟨i,f,J,M⟩:=I _ _ h j (by omega) H;exact ⟨i+1,f,by simpa using J,M⟩
structure Laid (P:Program) (T:TypeId) (fs:Array Field):Prop where
 inside:∀ (i:Nat) (f:Field),fs[i]?=some f->f.offset+P.cellsOf f.type<=P.cellsOf T
 pos:∀ (i:Nat) (f:Field),fs[i]?=some f->0<P.cellsOf f.type
 one:∀ (i:Nat) (f:Field),fs[i]?=some f->aal P f.type=true\/P.cellsOf f.type=1
 apart:∀ (i j:Nat) (f g:Field),fs[i]?=some f->fs[j]?=some g->i<j->f.offset+P.cellsOf f.type<=g.offset
 cover:∀ j,j<P.cellsOf T->∃ (i:Nat) (f:Field),fs[i]?=some f/\f.offset<=j/\j<f.offset+P.cellsOf f.type
theorem acg {P:Program}{T:TypeId}{o:Array Field} (h:acf P T=true) (O:P.underlying T=some (.struct o)):Laid P T o:=by
 unfold acf at h;rw [O] at h;simp only at h;cases J:ab7 P o.toList 0 with
 | none=>grind
 | some n=>
  rw [J] at h;have en:n=P.cellsOf T:=Ae h;obtain ⟨_,M⟩:=an8 P _ _ _ J;have tl:∀ (i:Nat),o.toList[i]?=o[i]?:=λi=>by simp
  exact ⟨λi f H=>by grind,λi f H=>(M i f (by grind)).2.2.1,λi f H=>(M i f (by grind)).2.2.2.1,
   λi j f g H Z I=>(M i f (by grind)).2.2.2.2 j g (by grind) I,
   λj Z=>by obtain ⟨i,f,q1,q2⟩:=amw P _ _ _ J j (Nat.zero_le _) (by omega);grind⟩
theorem Laid.oneCell {P:Program}{T:TypeId}{o:Array Field} (h:Laid P T o) {cs:List Value} (O:cs.length=P.cellsOf T)
 (I:∀ (i:Nat) (f:Field),o[i]?=some f->∀ c,c∈(cs.drop f.offset).take (P.cellsOf f.type)->c.oneCell'=true):∀ c,c∈cs->c.oneCell'=true:=by
 intro c H
 obtain ⟨j,M,rfl⟩:=List.mem_iff_getElem.1 H
 obtain ⟨i,f,J,Z,q3⟩:=h.cover j (by omega)
 refine I i f J _ (List.mem_iff_getElem?.2 ⟨j-f.offset,?_⟩)
 grind
theorem Laid.len {P:Program}{T:TypeId}{o:Array Field} (h:Laid P T o) {cs:List Value} (I:cs.length=P.cellsOf T) {i:Nat}{f:Field} (H:o[i]?=some f):
 ((cs.drop f.offset).take (P.cellsOf f.type)).length=P.cellsOf f.type:=by
 have:=h.inside i f H
 simp;omega
theorem aow {P:Program}{T:TypeId}{cs:List Value} (h:aal P T=true\/cs.length=1) (o:∀ c,c∈cs->c.oneCell'=true):(pack P T cs).cells.toList=cs:=by
 unfold pack;cases H:aal P T with
 | true=>simp [Value.cells]
 | false=>
  rcases h with h | h
  ·grind
  ·match cs,h with
   | [c],_=>have:=o c (by simp);cases c<;>simp_all [Value.oneCell',Value.cells]
theorem ad9 {v:Value} (h:v.oneCell'=true):v.cells=#[v]:=by cases v<;>simp_all [Value.oneCell',Value.cells]
section
variable {P:Program}{D:Dom}{ow:Own}{μ:Nat->Nat}{st:List BX}{w:World}
theorem axx:∀ (H:List Field) (o:List SV),axw P H o=true->H.length=o.length/\∀ (i:Nat) (f:Field) (s:SV),H[i]?=some f->o[i]?=some s->isOf P f.type s=true:=by
 intro H;induction H with
 | nil=>intro o h;cases o with
  | nil=>grind
  | cons x r=>simp [axw] at h
 | cons d r I=>intro o h;cases o with
  | nil=>simp [axw] at h
  | cons x q=>
   simp only [axw,Aj] at h
   grind
theorem a2o:∀ (h:List SV) (i:Nat),(as3 h)[i]?=(h[i]?).map toPV:=by
 intro h;induction h with
 | nil=>grind [as3]
 | cons x r o=>grind [as3]
theorem as4 (h:List SV):(as3 h).length=h.length:=by
 induction h with
 | nil=>simp [as3]
 | cons x r o=>simp [as3,o]
theorem aba {s:SV}{v:Value} (h:SRep P D w ow μ st s v):∀ T,isOf P T s=true->Rep P D w T (toPV s) v.cells.toList:=by
 induction h with
 | eif=>intro T h;simp [isOf] at h
 | ifc=>intro T h;simp [isOf] at h
 | lit H=>
  intro T h;unfold isOf at h;split at h
  ·rename_i o;have:=Ae h;subst this;exact H.rep o
  ·cases h
 | arrOld=>intro T h;simp [isOf] at h
 | arrNil=>intro T h;simp [isOf] at h
 | arr=>intro T h;simp [isOf] at h
 | arefOld=>intro T h;simp [isOf] at h
 | aref=>intro T h;simp [isOf] at h
 | eref=>intro T h;simp [isOf] at h
 | asl=>intro T h;simp [isOf] at h
 | undef=>intro T h;simp [isOf] at h
 | bool=>
  intro T h;unfold isOf at h;split at h
  ·rename_i o;exact .bool o
  ·cases h
 | int=>
  intro T h;unfold isOf at h;split at h
  ·rename_i o;simp at h;subst h;exact .int o
  ·cases h
 | str=>
  intro T h;unfold isOf at h;split at h
  ·rename_i o;exact .str o
  ·cases h
 | slice H=>
  intro T h;unfold isOf at h;split at h
  ·rename_i o;have:=Ae h;subst this;have:=H.rep o;cases H<;>exact this
  ·cases h
 | data ha hr=>intro T h;unfold isOf at h;have:=Ae h;subst this;simpa [Value.cells,toPV] using hr
 | @agg T' fs vs cs o hl ho hv hp ih=>
  intro T h;simp only [isOf,Aj] at h;obtain ⟨⟨M,h2⟩,O⟩:=h;have:=Ae M;subst this;rw [o] at O;simp only at O;obtain ⟨q1,q2⟩:=axx _ _ O;have Z:=acg h2 o;simp only [toPV,Value.cells];refine .agg o hl ho (by rw [as4];exact hv) (λi v f I J=>?_);rw [a2o] at I;cases H:vs[i]? with
  | none=>rw [H] at I;simp at I
  | some s=>rw [H] at I;simp at I;subst I;have:=ih i s f H J f.type (q2 i f s (by simpa using J) H);rwa [aow ((Z.one i f J).imp id (λM=>by rw [Z.len hl J];exact M)) (λc hc=>ho c (List.mem_of_mem_drop (List.mem_of_mem_take hc)))] at this
 | map hm=>
  intro T h;unfold isOf at h;split at h
  ·rename_i o;simp only [Aj] at h;have e1:=Ae h.1;have e2:=Ae h.2;subst e1;subst e2;cases hm with
   | nil=>exact .mapnil o
   | mk kc vc a b c d e f=>exact .map kc vc o a b c d e f
  ·cases h
 | nils=>
  intro T h;unfold isOf at h;split at h
  ·rename_i o;exact .nil o λ_=>rfl
  ·cases h
 | acc H=>
  intro T h;unfold isOf at h;split at h
  ·rename_i o;have:=Ae h;subst this;have:=H.rep o;cases H<;>exact this
  ·cases h
 | ref=>intro T h;simp [isOf] at h
 | mref=>intro T h;simp [isOf] at h
 | iref=>intro T h;simp [isOf] at h
 | mitr=>intro T h;simp [isOf] at h
 | sln=>intro T h;simp [isOf] at h
 | bref=>intro T h;simp [isOf] at h
 | nx=>intro T h;simp [isOf] at h
 | pto=>intro T h;simp [isOf] at h
 | fn=>intro T h;simp [isOf] at h
 | tup=>intro T h;simp [isOf] at h
 | raw=>intro T h;simp only [isOf,Aj] at h;rw [ad9 h.2];exact .raw h.1 h.2
theorem ayz:∀ (n:Nat) (T:TypeId) (cs:List Value),zeroCells? P n T cs=true->SRep P D w ow μ st (abd P n T) (pack P T cs)/\(∀ c,c∈cs->c.oneCell'=true):=by
 intro n;induction n with
 | zero=>intro T cs h;simp [zeroCells?] at h
 | succ n ih=>
  intro T cs h;cases H:P.underlying T with
  | none=>simp [zeroCells?,H] at h
  | some d=>
   cases d with
   | struct fs=>
    simp only [zeroCells?,H,Aj] at h;obtain ⟨⟨hL,o⟩,ab⟩:=h;have hL:=acg hL H;have o:cs.length=P.cellsOf T:=Ae o;have hf:∀ (i:Nat) (f:Field),fs[i]?=some f->zeroCells? P n f.type ((cs.drop f.offset).take (P.cellsOf f.type))=true:=by grind
    have ha:aal P T=true:=by simp [aal,H]
    have Z:=hL.oneCell o (λi f I=>(ih _ _ (hf i f I)).2);refine ⟨?_,Z⟩;simp only [abd,H,pack,ha,A9];refine .agg H o Z (by simp) (λi v f hv I=>?_);grind
   | array k E=>
    simp only [zeroCells?,H,Aj,Bd] at h;obtain ⟨⟨⟨⟨h1,h2⟩,J⟩,h4⟩,h5⟩:=h;have h1:=Ae h1;have h2:=Ae h2;have I:∀ i,i<k->zeroCells? P n E ((cs.drop (i*P.cellsOf E)).take (P.cellsOf E))=true:=λi I=>Bs.1 h5 i (List.mem_range.2 I);have ad:∀ i,i<k->i*P.cellsOf E+P.cellsOf E<=cs.length:=λi I=>by rw [h1,h2];have:(i+1)*P.cellsOf E<=k*P.cellsOf E:=Aw _ (by omega);grind
    have Z:∀ c,c∈cs->c.oneCell'=true:=by
     intro c hc;obtain ⟨j,hj,rfl⟩:=List.mem_iff_getElem.1 hc;have aa:0<P.cellsOf E:=by grind
     have hd:j / P.cellsOf E<k:=by rw [Nat.div_lt_iff_lt_mul aa];omega
     refine (ih E _ (I _ hd)).2 _ (List.mem_iff_getElem?.2 ⟨j%P.cellsOf E,?_⟩);grind [List.getElem?_take_of_lt,Nat.mod_lt,Nat.div_add_mod,Nat.mul_comm,List.getElem?_eq_getElem]
    have ha:aal P T=true:=by simp [aal,H]
    refine ⟨?_,Z⟩;simp only [abd,H,pack,ha,A9];refine .data ha (.arr H h1 Z (by simp) (λi v hv=>?_));obtain ⟨M,hv⟩:=Bg.1 hv;simp at M;simp at hv;subst hv;have hz:=(ih E _ (I i M)).1;have hr:=aba hz E h4;have hl:((cs.drop (i*P.cellsOf E)).take (P.cellsOf E)).length=P.cellsOf E:=by grind
    have O:=(ih E _ (I i M)).2;generalize (cs.drop (i*P.cellsOf E)).take (P.cellsOf E)=zs at*;have hp:(pack P E zs).cells.toList=zs:=by
     cases hE:aal P E with
     | true=>simp [pack,hE,Value.cells]
     | false=>
      rw [hE] at J;rcases J with J | J
      ·cases J
      ·have J:=Ae J;rw [J] at hl;match zs,hl,O with
       | [u],_,O=>have hu:=O u (by simp);simp only [pack,hE,A6,A8,List.headD];rw [ad9 hu]
    rwa [hp] at hr
   | _=>
    simp only [zeroCells?,H] at h;try split at h
    all_goals first
     | (rename_i hq;cases hq;done)
     | (simp at h;done)
     | skip
    all_goals (try (rename_i hq;cases hq))
    all_goals simp only [abd,H,pack,aal]
    all_goals first
     | (simp at h;subst h;exact ⟨.bool,by simp [Value.oneCell']⟩)
     | (simp at h;obtain ⟨rfl,rfl⟩:=h;exact ⟨.int,by simp [Value.oneCell']⟩)
     | (exact ⟨.nils,by simp [Value.oneCell']⟩)
     | (exact ⟨.map .nil,by simp [Value.oneCell']⟩)
     | (exact ⟨.raw,by simp [Value.oneCell']⟩)
     | (
      rename_i s
      have hs:s=⟨#[]⟩:=by
       cases s with
       | mk d=>grind
      subst hs
      exact ⟨.str,by simp [Value.oneCell']⟩)
     | (trace_state;fail)
theorem Rep.aggLen {T:TypeId}{v:PV}{cs:List Value} (h:Rep P D w T v cs) (I:aal P T=true):cs.length=P.cellsOf T:=by
 cases h with
 | agg _ H=>exact H
 | arr _ H=>exact H
 | raw J=>grind [rawT,aal]
 | bool o=>grind [aal]
 | int o=>grind [aal]
 | str o=>grind [aal]
 | nil o=>grind [aal]
 | slice o=>grind [aal]
 | mapnil o=>grind [aal]
 | map _ _ o=>grind [aal]
theorem afm {s:SV}{v:Value}{T:TypeId} (h:SRep P D w ow μ st s v) (H:ag9 P T s=true):
 v.cells.toList.length=P.cellsOf T/\(∀ c,c∈v.cells.toList->c.oneCell'=true)/\pack P T v.cells.toList=v:=by
 have o:∀ {u:Value},u.oneCell'=true->(!aal P T&&Nat.beq (P.cellsOf T) 1)=true->u.cells.toList.length=P.cellsOf T/\(∀ c,c∈u.cells.toList->c.oneCell'=true)/\pack P T u.cells.toList=u:=by intro u hu hb;simp only [Aj,Bool.not_eq_true'] at hb;grind [Nat.eq_of_beq_eq_true,ad9,pack]
 cases h with
 | undef=>simp [ag9] at H
 | nx=>simp [ag9] at H
 | tup=>simp [ag9] at H
 | data M O=>
  simp only [ag9,Aj] at H
  have:=Ae H.1;subst this
  exact ⟨by simpa [Value.cells] using O.aggLen M,by simpa [Value.cells] using O.oneCell,by simp [Value.cells,pack,M]⟩
 | agg hT hl J hv hp=>
  simp only [ag9,Aj] at H
  grind [Nat.eq_of_beq_eq_true,Value.cells,pack]
 | raw=>simp only [ag9,Aj] at H;grind
 | slice I=>cases I<;>exact o rfl H
 | map I=>cases I<;>exact o rfl H
 | acc I=>cases I<;>exact o rfl H
 | @eif b v Z h2=>
  cases b with
  | true=>rw [Z rfl];exact o rfl H
  | false=>obtain ⟨t,u,rfl⟩:=h2 rfl;exact o rfl H
 | arrOld _ _ J=>exact o J H
 | arefOld _ _ J=>exact o J H
 | _=>exact o rfl H
theorem aul (T:TypeId) (v:PV):∀ (h:List Field) (n i:Nat),(ahk P T v h n)[i]?=(h[i]?).map λf=>ofPV P f.type (v.fld (n+i)):=by
 intro h;induction h with
 | nil=>grind [ahk]
 | cons d r o=>grind [ahk]
theorem aoc (T:TypeId) (v:PV):∀ (h:List Field) (n:Nat),(ahk P T v h n).length=h.length:=by
 intro h;induction h with
 | nil=>grind [ahk]
 | cons d r o=>grind [ahk]
theorem apx {o:List PV}{i:Nat}{v:PV} (h:o[i]?=some v):PV.fld (.agg o) i=v:=by simp [PV.fld,PV.parts,List.getD,h]
theorem ag5 {s:SV}{TB:TypeId}{cs:List Value}{fs:List SV}{I:Array Field} (hs:SRep P D w ow μ st s (pack P TB cs)) (o:agp P TB s=some fs) (Z:P.underlying TB=some (.struct I)):
 Laid P TB I/\cs.length=P.cellsOf TB/\fs.length=I.size/\(∀ c,c∈cs->c.oneCell'=true)/\
  ∀ (i:Nat) (x:SV) (f:Field),fs[i]?=some x->I[i]?=some f->SRep P D w ow μ st x (pack P f.type ((cs.drop f.offset).take (P.cellsOf f.type))):=by
 have ha:aal P TB=true:=by simp [aal,Z]
 unfold agp at o
 cases hl:acf P TB with
 | false=>grind
 | true=>
  rw [hl] at o
  simp only [Af] at o
  have hL:=acg hl Z
  have af:pack P TB cs=.agg cs.toArray:=by simp [pack,ha]
  rw [af] at hs
  generalize hv:Value.agg cs.toArray=v at hs
  cases hs with
  | @agg T ai O H ak al ho am hp=>
   simp only at o
   cases hb:Nat.beq TB T with
   | false=>grind
   | true=>
    rw [hb] at o
    simp only [Af,Al] at o
    grind [Nat.eq_of_beq_eq_true]
  | @data T pv H ag hr=>
   simp only at o
   cases hb:Nat.beq TB T with
   | false=>grind
   | true=>
    rw [hb,Z] at o
    simp only [Af,Al] at o
    have:=Ae hb;subst this;subst o
    have e:cs=H:=by simpa using hv
    subst e
    cases hr with
    | @agg _ aj O ah h ab ae an J=>
     rw [Z] at h;cases h
     refine ⟨hL,ab,by rw [aoc];simp,ae,λi x f hi hf=>?_⟩
     rw [aul] at hi
     have aa:I.toList[i]?=some f:=by simpa using hf
     rw [aa] at hi
     simp at hi
     subst hi
     have ad:i<O.length:=by grind
     have M:O[i]?=some O[i]:=As ad
     rw [apx M]
     exact (J i O[i] f M hf).ofPV
    | arr h=>grind
    | bool h=>grind
    | int h=>grind
    | str h=>grind
    | nil h=>grind
    | slice h=>grind
    | mapnil h=>grind
    | map _ _ h=>grind
    | raw J=>grind [rawT]
  | _=>simp at o
theorem ajh:∀ (path:List Nat) (TB:TypeId) (s:SV) (cs:List Value) (off:Nat) (T:TypeId) (x:SV),SRep P D w ow μ st s (pack P TB cs)->cs.length=P.cellsOf TB->ab3 P TB path=some (off,T)->ahb P TB s path=some x->
 SRep P D w ow μ st x (pack P T ((cs.drop off).take (P.cellsOf T)))/\off+P.cellsOf T<=cs.length:=by
 intro path
 induction path with
 | nil=>
  intro TB s cs off T x hs hl h H
  simp [ab3] at h
  simp [ahb] at H
  grind
 | cons i p ih=>
  intro TB s cs off T x hs hl h H
  unfold ab3 at h
  unfold ahb at H
  cases M:P.underlying TB with
  | none=>grind
  | some d=>
   cases d with
   | struct ds=>
    rw [M] at h H
    simp only at h H
    cases I:ds[i]? with
    | none=>grind
    | some f=>
     rw [I] at h
     simp only at h
     cases hq:ab3 P f.type p with
     | none=>grind
     | some r=>
      obtain ⟨o,t⟩:=r
      rw [hq] at h
      simp at h
      obtain ⟨rfl,rfl⟩:=h
      cases Z:agp P TB s with
      | none=>grind
      | some fs=>
       rw [Z] at H
       simp only at H
       cases hx:fs[i]? with
       | none=>grind
       | some y=>
        rw [hx,I] at H
        simp only at H
        obtain ⟨J,O,h2,h3,h4⟩:=ag5 hs Z M
        obtain ⟨q1,q2⟩:=ih f.type y _ o t x (h4 i y f hx I) (J.len O I) hq H
        rw [J.len O I] at q2
        have aa:=J.inside i f I
        refine ⟨?_,by omega⟩
        rw [List.drop_take,List.take_take,Bp,Nat.min_eq_left (by omega)] at q1
        exact q1
   | _=>rw [M] at h;simp at h
def abi (cs:List Value) (off:Nat) (xs:List Value):List Value:=cs.take off++xs++cs.drop (off+xs.length)
theorem ab1 {cs xs:List Value}{off:Nat} (h:off+xs.length<=cs.length):(abi cs off xs).length=cs.length:=by simp [abi];omega
theorem ans {cs xs:List Value}{off:Nat} (h:off+xs.length<=cs.length):((abi cs off xs).drop off).take xs.length=xs:=by unfold abi;grind
theorem af5 {cs xs:List Value}{off:Nat} (h:off+xs.length<=cs.length) (j:Nat):(abi cs off xs)[j]?=if off<=j/\j<off+xs.length then xs[j-off]? else cs[j]?:=by
 unfold abi;have o:(cs.take off).length=off:=by simp;omega
 grind
theorem ad1 {cs xs:List Value}{off:Nat} (h:off+xs.length<=cs.length) {o n:Nat} (I:o+n<=off\/off+xs.length<=o):((abi cs off xs).drop o).take n=(cs.drop o).take n:=by
 apply List.ext_getElem?;intro j;by_cases H:j<n
 ·rw [List.getElem?_take_of_lt H,List.getElem?_take_of_lt H,List.getElem?_drop,List.getElem?_drop,af5 h,if_neg (by omega)]
 grind
theorem aj4 {cs xs:List Value}{off o n:Nat} (I:o+n<=cs.length) (h:off+xs.length<=n):((abi cs (o+off) xs).drop o).take n=abi ((cs.drop o).take n) off xs:=by
 have J:((cs.drop o).take n).length=n:=by simp;omega
 apply List.ext_getElem?;intro j;rw [af5 (by omega)];by_cases H:j<n
 ·rw [List.getElem?_take_of_lt H,List.getElem?_drop,af5 (by omega),List.getElem?_take_of_lt H,List.getElem?_drop];grind
 grind
theorem aj2:∀ (path:List Nat) (TB:TypeId) (s:SV) (cs:List Value) (off:Nat) (T:TypeId) (x:SV) (xs:List Value) (s':SV),SRep P D w ow μ st s (pack P TB cs)->cs.length=P.cellsOf TB->ab3 P TB path=some (off,T)->
 SRep P D w ow μ st x (pack P T xs)->xs.length=P.cellsOf T->(∀ c,c∈xs->c.oneCell'=true)->aho P TB s path x=some s'->
 SRep P D w ow μ st s' (pack P TB (abi cs off xs))/\off+xs.length<=cs.length:=by
 intro path
 induction path with
 | nil=>
  intro TB s cs off T x xs s' hs hl H hx Z aa h
  simp [ab3] at H
  simp [aho] at h
  obtain ⟨rfl,rfl⟩:=H
  grind [abi]
 | cons i p ih=>
  intro TB s cs off T x xs s' hs hl H hx Z aa h
  unfold ab3 at H
  unfold aho at h
  cases M:P.underlying TB with
  | none=>grind
  | some d=>
   cases d with
   | struct ds=>
    rw [M] at H h
    simp only at H h
    cases I:ds[i]? with
    | none=>grind
    | some f=>
     rw [I] at H
     simp only at H
     cases hq:ab3 P f.type p with
     | none=>grind
     | some r=>
      obtain ⟨o,t⟩:=r
      rw [hq] at H
      simp at H
      obtain ⟨rfl,rfl⟩:=H
      cases he:agp P TB s with
      | none=>grind
      | some fs=>
       rw [he] at h
       simp only at h
       cases hy:fs[i]? with
       | none=>grind
       | some y=>
        rw [hy,I] at h
        simp only at h
        cases hz:aho P f.type y p x with
        | none=>grind
        | some z=>
         rw [hz] at h
         simp only [Al] at h
         subst h
         obtain ⟨J,h1,h2,h3,h4⟩:=ag5 hs he M
         obtain ⟨q1,q2⟩:=ih f.type y _ o t x xs z (h4 i y f hy I) (J.len h1 I) hq hx Z aa hz
         rw [J.len h1 I] at q2
         have ag:=J.inside i f I
         have O:f.offset+o+xs.length<=cs.length:=by omega
         have ha:aal P TB=true:=by simp [aal,M]
         refine ⟨?_,O⟩
         have af:pack P TB (abi cs (f.offset+o) xs)=.agg (abi cs (f.offset+o) xs).toArray:=by simp [pack,ha]
         rw [af]
         refine .agg M (by grind [ab1]) ?_ (by simpa using h2) (λj v g hj h=>?_)
         ·intro c hc;unfold abi at hc;simp only [Bo] at hc;grind
         ·by_cases ad:j=i
          ·grind [List.getElem?_eq_some_iff,List.getElem?_set_self,aj4]
          ·rw [Aq (by omega)] at hj;rw [ad1 O]
           ·grind
           ·rcases Nat.lt_or_gt_of_ne ad with ae | ab
            ·have:=J.apart j i g f h I ae;omega
            ·have:=J.apart i j f g I h ab;omega
   | _=>rw [M] at H;simp at H
end
end Go.Ab
namespace Go.Ab
open Go
theorem aa7 {P:Program}{T:TypeId} (h:P.cellsOf T≠0):∃ i,P.info? T=some i/\i.size=P.cellsOf T:=by
 cases o:P.info? T with
 | none=>grind [Program.cellsOf]
 | some i=>exact ⟨i,rfl,by simp [Program.cellsOf,o]⟩
theorem aji {P:Program}{T:TypeId}{d:TypeDesc} (h:P.underlying T=some d):∃ i,P.info? T=some i/\i.size=P.cellsOf T:=by
 cases o:P.info? T with
 | none=>grind [Program.underlying]
 | some i=>exact ⟨i,rfl,by simp [Program.cellsOf,o]⟩
theorem aa5 {P:Program}{T:TypeId}{i:TypeInfo} (h:P.info? T=some i) (o:i.size=P.cellsOf T) (w:World):(sizeOf T).run P w=.ok (P.cellsOf T) w:=by simp [sizeOf,typeInfo,h,o]
theorem akv {P:Program}{T:TypeId} (h:(P.underlying T).isSome=true) (w:World):(isAgg T).run P w=.ok (aal P T) w:=by obtain ⟨d,o⟩:=Option.isSome_iff_exists.1 h;cases d<;>simp [isAgg,run_underlying o,aal,o]
theorem aqo {P:Program}{T:TypeId} (I:(P.underlying T).isSome=true) (cs:List Value) (off:Nat) (h:off+P.cellsOf T<=cs.length) (H:aal P T=true\/P.cellsOf T=1) (w:World):
 (part T cs.toArray off).run P w=.ok (pack P T ((cs.drop off).take (P.cellsOf T))) w:=by
 unfold part
 simp only [Sem.run_bind,akv I,Result.andThen_ok]
 cases J:aal P T with
 | true=>
  obtain ⟨d,M⟩:=Option.isSome_iff_exists.1 I
  obtain ⟨i,O,Z⟩:=aji M
  simp only [A9,Sem.run_bind,aa5 O Z,Result.andThen_ok,pack,J]
  simp_all
 | false=>
  have H:P.cellsOf T=1:=by grind
  rw [H] at h ⊢
  have o:off<cs.length:=by omega
  have e:(cs.drop off).take 1=[cs[off]]:=by grind [List.drop_eq_getElem_cons]
  simp [o,pack,J,e]
section
variable {P:Program}{D:Dom}{ow:Own}{μ:Nat->Nat}{st:List BX}{w:World}
theorem akf {T:TypeId}{s:SV}{J:List SV}{v:Value} (h:SRep P D w ow μ st s v) (o:agp P T s=some J):SRep P D w ow μ st (.agg T J) v:=by
 have h0:=o;unfold agp at o;cases hl:acf P T with
 | false=>grind
 | true=>
  rw [hl] at o;simp only [Af] at o;split at o
  ·rename_i H Z;cases I:Nat.beq T H with
   | false=>grind
   | true=>simp_all
  ·rename_i H pv;cases I:Nat.beq T H with
   | false=>grind
   | true=>
    rw [I] at o;simp only [Af] at o;have:=Ae I;subst this;split at o
    ·rename_i ds M;cases h with
     | @data _ _ cs O hr=>
      have hp:SRep P D w ow μ st (.data T pv) (pack P T cs):=by simp only [pack,O,A9];exact .data O hr
      obtain ⟨h1,h2,h3,h4,h5⟩:=ag5 hp h0 M;exact .agg M h2 h4 h3 h5
    ·cases o
  ·cases o
theorem apv {T:TypeId}{x y:SV}{a b:Value}{r:Bool} (H:SRep P D w ow μ st x a) (I:SRep P D w ow μ st y b) (h:apu P T x y=some r) (d:Nat):(Op.equalIn (d+1) T a b).run P w=.ok r w:=by
 unfold apu at h;split at h
 ·rename_i J;cases H;cases I;grind [Option.some.injEq,run_equalIn_bool]
 ·rename_i k0 k O M Z J;cases H;cases I;cases o:decide (k=M) with
  | false=>grind
  | true=>rw [o] at h;have:=of_decide_eq_true o;subst this;simp only [Af,Al] at h;grind [run_equalIn_int]
 ·rename_i J;cases H;cases I;grind [Option.some.injEq,run_equalIn_string,ByteArray.toList_mk]
 ·cases h
theorem aoe (d:Nat) {Z yc:List Value}:∀ (o:List Field) (xs ys:List SV) (r:Bool),ac6 P o xs ys=some r->(∀ f,f∈o->f.name≠ "_")->
 (∀ (i:Nat) (f:Field) (x:SV),o[i]?=some f->xs[i]?=some x->∃ a,(part f.type Z.toArray f.offset).run P w=.ok a w/\SRep P D w ow μ st x a)->
 (∀ (i:Nat) (f:Field) (y:SV),o[i]?=some f->ys[i]?=some y->∃ a,(part f.type yc.toArray f.offset).run P w=.ok a w/\SRep P D w ow μ st y a)->
 (Op.eqFields (d+1) Z.toArray yc.toArray o).run P w=.ok r w:=by
 intro o
 induction o with
 | nil=>
  intro xs ys r h _ _ _
  cases xs<;>cases ys<;>simp [ac6] at h
  subst h
  simp [Op.eqFields]
 | cons f o ih=>
  intro xs ys r h J M O
  cases xs with
  | nil=>simp [ac6] at h
  | cons x xs=>
   cases ys with
   | nil=>simp [ac6] at h
   | cons y ys=>
    simp only [ac6] at h
    split at h
    ·rename_i b c hb hc;simp only [Al] at h;subst h;obtain ⟨a1,p1,q1⟩:=M 0 f x rfl rfl;obtain ⟨a2,p2,q2⟩:=O 0 f y rfl rfl;have he:=apv q1 q2 hb d;have hi:=ih xs ys c hc (λg hg=>J g (by simp [hg])) (λi g z H I=>M (i+1) g z (by simpa using H) (by simpa using I)) (λi g z H I=>O (i+1) g z (by simpa using H) (by simpa using I));simp only [Op.eqFields,J f (by simp),ne_eq,not_false_eq_true,A9,Sem.run_bind,p1,p2,he,Result.andThen_ok];cases b
     ·simp
     grind
    ·cases h
theorem asz (T:TypeId) (op:BinOp) (x y:SV) (a b:Value) (v:SV) (ha:SRep P D w ow μ st x a) (hb:SRep P D w ow μ st y b) (h:aeb P op T x y=.val true v) (ox oy:Operand):
 ∃ u,(do eqGuard op T ox oy a b;binOp op T a b:Sem Value).run P w=.ok u w/\SRep P D w ow μ st v u:=by
 unfold aeb at h
 split at h
 ·rename_i o xs ys hT ae al;have af:=akf ha ae;have ag:=akf hb al;have ad:acf P T=true:=by
   unfold agp at ae;grind
  have hL:=acg ad hT;cases hc:(o.toList.all (λf=>!(f.name== "_"))&&!(P.stoodInHeld T)&&!(P.eqGuardType P.depth T)) with
  | false=>grind
  | true=>
   rw [hc] at h;simp only [Af] at h;simp only [Aj,Bool.not_eq_true'] at hc;obtain ⟨⟨c1,c2⟩,c3⟩:=hc;cases af with
   | @agg _ fs _ cs aa ah ao aq aj=>
    rw [hT] at aa;cases aa;cases ag with
    | @agg _ an _ J ab ai ap ar ak=>
     rw [hT] at ab;cases ab;have O:P.fieldsOf T=o:=by simp [Program.fieldsOf,hT]
     have I:∀ (zc:List Value) (zs:List SV),zc.length=P.cellsOf T->(∀ (i:Nat) (v:SV) (f:Field),zs[i]?=some v->o[i]?=some f->SRep P D w ow μ st v (pack P f.type ((zc.drop f.offset).take (P.cellsOf f.type))))->
      ∀ (i:Nat) (f:Field) (z:SV),o.toList[i]?=some f->(P.underlying f.type).isSome=true->zs[i]?=some z->∃ u,(part f.type zc.toArray f.offset).run P w=.ok u w/\SRep P D w ow μ st z u:=by
      intro zc zs hl hz i f z O hs am
      have Z:o[i]?=some f:=by simpa using O
      exact ⟨_,aqo hs zc f.offset (by rw [hl];exact hL.inside i f Z) (by rcases hL.one i f Z with h | h;all_goals grind) w,hz i z f am Z⟩
     have H:∀ (o:List Field) (xs ys:List SV) (r:Bool),ac6 P o xs ys=some r->∀ f,f∈o->(P.underlying f.type).isSome=true:=by
      intro o;induction o with
      | nil=>grind
      | cons g r ih=>
       intro xs ys b hb f O;cases xs with
       | nil=>grind [ac6]
       | cons x xs=>
        cases ys with
        | nil=>grind [ac6]
        | cons y ys=>
         simp only [ac6] at hb;split at hb
         ·rename_i b1 b2 M h2;rcases Bn.1 O with rfl | O
          ·unfold apu at M;grind
          grind
         ·cases hb
     have key:∀ r,ac6 P o.toList xs ys=some r->(Op.equalIn 10000 T (.agg cs.toArray) (.agg J.toArray)).run P w=.ok r w:=by intro r hr;rw [run_equalIn_struct w 9999 T cs.toArray J.toArray (by grind) c2,O];refine aoe 9998 o.toList xs ys r hr (λf O=>?_) (λi f z M h2=>I cs xs ah aj i f z M (H _ _ _ _ hr f (List.mem_of_getElem? M)) h2) (λi f z M h2=>I J ys ai ak i f z M (H _ _ _ _ hr f (List.mem_of_getElem? M)) h2);grind
     split at h
     ·rename_i r hr;simp only [Ac.val.injEq,true_and] at h;subst h;exact ⟨.bool r,by grind [Sem.run_bind,run_eqGuard_agg,Result.andThen_ok,run_eql_struct],.bool⟩
     ·rename_i r hr;simp only [Ac.val.injEq,true_and] at h;subst h;exact ⟨.bool (!r),by grind [Sem.run_bind,run_eqGuard_agg,Result.andThen_ok,run_neq_struct],.bool⟩
     ·cases h
 ·cases h
end
end Go.Ab
