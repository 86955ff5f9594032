/- Reading slots; zero values; plain data out of slots; parts of a box. -/
import Derived.Test.YtcpkdafleaddlaaGreatDoorAbRel
import Derived.Laws.StructEq
set_option linter.unusedVariables false
set_option linter.unusedSimpArgs false
set_option linter.unnecessarySimpa false
namespace Go.Ab
open Go
section
variable {Γ:Ctx}{D:Dom}{ow:Own}{μ:Nat->Nat}{e:Env}{st:List BX}{a:Act}{w:World}
theorem awt (h:Slots Γ D ow μ e st a w):∀ (f m:Nat) (o:Bool) (t:Nat) (v:Bool),af9 e f m o t v=true->a.tmps.getD m Go.undef=.bool o->a.tmps.getD t Go.undef=.bool v:=by
 intro f;induction f with
 | zero=>grind [af9]
 | succ f X=>
  intro m o t v d W;unfold af9 at d;cases z:(Nat.beq m t&&(bif o then v else !v)) with
  | true=>simp only [Ai] at z;grind [Nat.eq_of_beq_eq_true]
  | false=>
   rw [z] at d;simp only [Ae] at d;have O:=h.slot m;cases M:e m with
   | gd U V x=>
    rw [M] at d O;refine X U V t v d ?_;by_cases H:a.tmps.getD U Go.undef=.bool V
    ·exact H
    ·have:=O.2 H;rw [W] at this;cases this
   | _=>rw [M] at d;simp at d
theorem apg (h:Slots Γ D ow μ e st a w) (gs:List (Nat×Bool)) (d:∀ x,x∈gs->a.tmps.getD x.1 Go.undef=.bool x.2) (t:Nat) (v:Bool) (m:aiq e gs t v=true):a.tmps.getD t Go.undef=.bool v:=by
 induction gs with
 | nil=>grind [aiq]
 | cons x r o=>grind [aiq,af9,awt]
theorem a91 (h:Slots Γ D ow μ e st a w) (gs:List (Nat×Bool)) (M:∀ x,x∈gs->a.tmps.getD x.1 Go.undef=.bool x.2) (t:Nat):SRep Γ.P D w ow μ st (rd e gs (e t)) (a.tmps.getD t Go.undef):=by
 have d:=h.slot t;cases m:e t with
 | gd o z x=>
  rw [m] at d;simp only [rd];cases H:aiq e gs o z with
  | true=>exact d.1 (apg h gs M o z H)
  | false=>exact .undef
 | _=>rw [m] at d;exact d
theorem arc (v:Value):SRep Γ.P D w ow μ st (awc v) v:=by
 unfold awc;split
 ·exact .bool
 ·exact .int
 ·rename_i s;exact .str (s:=s.data.toList)
 ·exact .nils
 ·exact .eif (λ_=>rfl) (λh=>by cases h)
 ·exact .raw
theorem abw (h:Slots Γ D ow μ e st a w) (gs:List (Nat×Bool)) (d:∀ x,x∈gs->a.tmps.getD x.1 Go.undef=.bool x.2) (x:Operand):SRep Γ.P D w ow μ st (opd e gs x) (a.eval x):=by
 cases x with
 | tmp t=>exact a91 h gs d t
 | const v=>exact arc v
 | global g=>exact .undef
 | func f=>exact .fn (caps:=[]) rfl (by simp) (λi s v m=>by simp at m)
theorem alc (h:Slots Γ D ow μ e st a w):∀ (f t:Nat) (v c:Bool),gval e f t v=some c->(a.tmps.getD t Go.undef=.bool v ↔ c=true):=by
 intro f;induction f with
 | zero=>grind [gval]
 | succ f X=>
  intro t v c d;unfold gval at d;have m:=h.slot t;cases o:e t with
  | bool b=>
   rw [o] at d m;simp only [Ak] at d;have H:a.tmps.getD t Go.undef=.bool b:=by generalize a.tmps.getD t Go.undef=u at m;cases m;rfl
   grind [bq]
  | gd M O x=>
   cases x with
   | bool b=>
    rw [o] at d m;simp only at d;cases W:gval e f M O with
    | none=>grind
    | some U=>
     rw [W] at d;simp only [Ak] at d;have Y:=X M O U W;by_cases V:a.tmps.getD M Go.undef=.bool O
     ·have H:a.tmps.getD t Go.undef=.bool b:=by have:=m.1 V;generalize a.tmps.getD t Go.undef=u at this;cases this;rfl
      grind [bq]
     ·have H:=m.2 V;have z:U=false:=by grind
      rw [H,<-d,z];constructor
      ·intro d;cases d
      grind
   | _=>rw [o] at d;simp at d
  | _=>rw [o] at d;simp at d
end
theorem apn (P:Program):∀ (l:List Field) (n m:Nat),adv P l n=some m->
 n<=m/\∀ (i:Nat) (f:Field),l[i]?=some f->n<=f.offset/\f.offset+P.cellsOf f.type<=m/\0<P.cellsOf f.type/\(aak P f.type=true\/P.cellsOf f.type=1)/\
  ∀ (j:Nat) (g:Field),l[j]?=some g->i<j->f.offset+P.cellsOf f.type<=g.offset:=by
 intro l
 induction l with
 | nil=>intro n m h;simp [adv] at h;grind
 | cons x r Y=>
  intro n m h
  unfold adv at h
  cases z:(Nat.beq x.offset n&&!(Nat.beq (P.cellsOf x.type) 0)&&(aak P x.type||Nat.beq (P.cellsOf x.type) 1)) with
  | false=>grind
  | true=>
   rw [z] at h
   simp only [Ad] at h
   simp only [Ai,Bool.not_eq_true',Bd] at z
   obtain ⟨⟨O,h2⟩,U⟩:=z
   have e1:x.offset=n:=Af O
   have o:0<P.cellsOf x.type:=by rcases Nat.eq_zero_or_pos (P.cellsOf x.type) with M | M;all_goals simp_all
   obtain ⟨W,X⟩:=Y _ _ h
   refine ⟨by omega,λi f d=>?_⟩
   cases i with
   | zero=>
    simp at d;subst d
    refine ⟨by omega,by omega,o,U.imp id Af,λj g V H=>?_⟩
    cases j with
    | zero=>omega
    | succ j=>grind
   | succ i=>
    simp at d
    obtain ⟨q1,Z,q3,q4,q5⟩:=X i f d
    refine ⟨by omega,Z,q3,q4,λj g V H=>?_⟩
    cases j with
    | zero=>omega
    | succ j=>grind
theorem an7 (P:Program):∀ (l:List Field) (n m:Nat),adv P l n=some m->∀ j,n<=j->j<m->∃ (i:Nat) (f:Field),l[i]?=some f/\f.offset<=j/\j<f.offset+P.cellsOf f.type:=by
 intro l;induction l with
 | nil=>grind [adv]
 | cons x r z=>
  intro n m h j U o;unfold adv at h;cases d:(Nat.beq x.offset n&&!(Nat.beq (P.cellsOf x.type) 0)&&(aak P x.type||Nat.beq (P.cellsOf x.type) 1)) with
  | false=>grind
  | true=>
   rw [d] at h;simp only [Ad] at h;simp only [Ai] at d;have O:x.offset=n:=Af d.1.1;by_cases V:j<n+P.cellsOf x.type
   ·exact ⟨0,x,rfl,by omega,by omega⟩
   ·obtain ⟨i,f,H,M⟩:=z _ _ h j (by omega) o;exact ⟨i+1,f,by simpa using H,M⟩
structure Laid (P:Program) (T:TypeId) (fs:Array Field):Prop where
 inside:∀ (i:Nat) (f:Field),fs[i]?=some f->f.offset+P.cellsOf f.type<=P.cellsOf T
 pos:∀ (i:Nat) (f:Field),fs[i]?=some f->0<P.cellsOf f.type
 one:∀ (i:Nat) (f:Field),fs[i]?=some f->aak P f.type=true\/P.cellsOf f.type=1
 apart:∀ (i j:Nat) (f g:Field),fs[i]?=some f->fs[j]?=some g->i<j->f.offset+P.cellsOf f.type<=g.offset
 cover:∀ j,j<P.cellsOf T->∃ (i:Nat) (f:Field),fs[i]?=some f/\f.offset<=j/\j<f.offset+P.cellsOf f.type
theorem acf {P:Program}{T:TypeId}{fs:Array Field} (h:ac6 P T=true) (H:P.underlying T=some (.struct fs)):Laid P T fs:=by
 unfold ac6 at h;rw [H] at h;simp only at h;cases o:adv P fs.toList 0 with
 | none=>grind
 | some n=>
  rw [o] at h;have O:n=P.cellsOf T:=Af h;obtain ⟨_,z⟩:=apn P _ _ _ o;have W:∀ (i:Nat),fs.toList[i]?=fs[i]?:=λi=>by simp
  exact ⟨λi f d=>by grind,λi f d=>(z i f (by grind)).2.2.1,λi f d=>(z i f (by grind)).2.2.2.1,
   λi j f g d M m=>(z i f (by grind)).2.2.2.2 j g (by grind) m,
   λj M=>by obtain ⟨i,f,U,V⟩:=an7 P _ _ _ o j (Nat.zero_le _) (by omega);grind⟩
theorem Laid.oneCell {P:Program}{T:TypeId}{fs:Array Field} (h:Laid P T fs) {cs:List Value} (H:cs.length=P.cellsOf T)
 (m:∀ (i:Nat) (f:Field),fs[i]?=some f->∀ c,c∈(cs.drop f.offset).take (P.cellsOf f.type)->c.oneCell'=true):∀ c,c∈cs->c.oneCell'=true:=by
 intro c d
 obtain ⟨j,z,rfl⟩:=List.mem_iff_getElem.1 d
 obtain ⟨i,f,o,M,O⟩:=h.cover j (by omega)
 refine m i f o _ (List.mem_iff_getElem?.2 ⟨j-f.offset,?_⟩)
 grind
theorem Laid.len {P:Program}{T:TypeId}{fs:Array Field} (h:Laid P T fs) {cs:List Value} (m:cs.length=P.cellsOf T) {i:Nat}{f:Field} (d:fs[i]?=some f):
 ((cs.drop f.offset).take (P.cellsOf f.type)).length=P.cellsOf f.type:=by
 have:=h.inside i f d
 simp;omega
theorem aqn {P:Program}{T:TypeId}{cs:List Value} (h:aak P T=true\/cs.length=1) (d:∀ c,c∈cs->c.oneCell'=true):(pack P T cs).cells.toList=cs:=by
 unfold pack;cases m:aak P T with
 | true=>simp [Value.cells]
 | false=>
  rcases h with h | h
  ·grind
  ·match cs,h with
   | [c],_=>have:=d c (by simp);cases c<;>simp_all [Value.oneCell',Value.cells]
theorem aem {v:Value} (h:v.oneCell'=true):v.cells=#[v]:=by cases v<;>simp_all [Value.oneCell',Value.cells]
section
variable {P:Program}{D:Dom}{ow:Own}{μ:Nat->Nat}{st:List BX}{w:World}
theorem a01:∀ (m:List Field) (ss:List SV),a00 P m ss=true->m.length=ss.length/\∀ (i:Nat) (f:Field) (s:SV),m[i]?=some f->ss[i]?=some s->isOf P f.type s=true:=by
 intro m;induction m with
 | nil=>intro ss h;cases ss with
  | nil=>grind
  | cons x r=>simp [a00] at h
 | cons d r o=>intro ss h;cases ss with
  | nil=>simp [a00] at h
  | cons x q=>
   simp only [a00,Ai] at h
   grind
theorem a7i:∀ (ss:List SV) (i:Nat),(avp ss)[i]?=(ss[i]?).map toPV:=by
 intro ss;induction ss with
 | nil=>grind [avp]
 | cons x r d=>grind [avp]
theorem avq (ss:List SV):(avp ss).length=ss.length:=by
 induction ss with
 | nil=>simp [avp]
 | cons x r d=>simp [avp,d]
theorem abk {s:SV}{v:Value} (h:SRep P D w ow μ st s v):∀ T,isOf P T s=true->Rep P D w T (toPV s) v.cells.toList:=by
 induction h with
 | eif=>grind [isOf]
 | ifc=>grind [isOf]
 | lit o=>
  intro T h;unfold isOf at h;split at h
  ·rename_i m;have:=Af h;subst this;exact o.rep m
  ·cases h
 | arrOld=>grind [isOf]
 | arrNil=>grind [isOf]
 | arr=>grind [isOf]
 | arefOld=>grind [isOf]
 | aref=>grind [isOf]
 | eref=>grind [isOf]
 | asl=>grind [isOf]
 | undef=>grind [isOf]
 | bool=>
  intro T h;unfold isOf at h;split at h
  ·rename_i m;exact .bool m
  ·cases h
 | int=>
  intro T h;unfold isOf at h;split at h
  ·rename_i m;simp at h;subst h;exact .int m
  ·cases h
 | str=>
  intro T h;unfold isOf at h;split at h
  ·rename_i m;exact .str m
  ·cases h
 | slice o=>
  intro T h;unfold isOf at h;split at h
  ·rename_i m;have:=Af h;subst this;have:=o.rep m;cases o<;>exact this
  ·cases h
 | data ha hr=>grind [isOf,Nat.eq_of_beq_eq_true,Value.cells,toPV]
 | @agg T' fs vs cs m V W hv hp ih=>
  intro T h;simp only [isOf,Ai] at h;obtain ⟨⟨M,Z⟩,O⟩:=h;have:=Af M;subst this;rw [m] at O;simp only at O;obtain ⟨q1,q2⟩:=a01 _ _ O;have U:=acf Z m;simp only [toPV,Value.cells];refine .agg m V W (by grind [avq]) (λi v f H z=>?_);rw [a7i] at H;cases o:vs[i]? with
  | none=>grind
  | some s=>rw [o] at H;simp at H;subst H;have:=ih i s f o z f.type (q2 i f s (by simpa using z) o);rwa [aqn ((U.one i f z).imp id (λM=>by rw [U.len V z];exact M)) (λc hc=>W c (List.mem_of_mem_drop (List.mem_of_mem_take hc)))] at this
 | map hm=>
  intro T h;unfold isOf at h;split at h
  ·rename_i m;simp only [Ai] at h;have X:=Af h.1;have Y:=Af h.2;subst X;subst Y;cases hm with
   | nil=>exact .mapnil m
   | mk kc vc a b c d e f=>exact .map kc vc m a b c d e f
  ·cases h
 | nils=>
  intro T h;unfold isOf at h;split at h
  ·rename_i m;exact .nil m λ_=>rfl
  ·cases h
 | acc o=>
  intro T h;unfold isOf at h;split at h
  ·rename_i m;have:=Af h;subst this;have:=o.rep m;cases o<;>exact this
  ·cases h
 | ref=>grind [isOf]
 | mref=>grind [isOf]
 | iref=>grind [isOf]
 | bref=>grind [isOf]
 | nx=>grind [isOf]
 | pto=>grind [isOf]
 | fn=>grind [isOf]
 | tup=>grind [isOf]
 | raw=>intro T h;simp only [isOf,Ai] at h;rw [aem h.2];exact .raw h.1 h.2
theorem a2k:∀ (n:Nat) (T:TypeId) (cs:List Value),zeroCells? P n T cs=true->SRep P D w ow μ st (abp P n T) (pack P T cs)/\(∀ c,c∈cs->c.oneCell'=true):=by
 intro n;induction n with
 | zero=>intro T cs h;simp [zeroCells?] at h
 | succ n Z=>
  intro T cs h;cases o:P.underlying T with
  | none=>simp [zeroCells?,o] at h
  | some d=>
   cases d with
   | struct fs=>
    simp only [zeroCells?,o,Ai] at h;obtain ⟨⟨hL,m⟩,aa⟩:=h;have hL:=acf hL o;have m:cs.length=P.cellsOf T:=Af m;have hf:∀ (i:Nat) (f:Field),fs[i]?=some f->zeroCells? P n f.type ((cs.drop f.offset).take (P.cellsOf f.type))=true:=by grind
    have Y:aak P T=true:=by simp [aak,o]
    have U:=hL.oneCell m (λi f z=>(Z _ _ (hf i f z)).2);refine ⟨?_,U⟩;simp only [abp,o,pack,Y,A6];refine .agg o m U (by simp) (λi v f W z=>?_);grind
   | array k E=>
    simp only [zeroCells?,o,Ai,Bd] at h;obtain ⟨⟨⟨⟨X,h2⟩,H⟩,h4⟩,h5⟩:=h;have X:=Af X;have h2:=Af h2;have z:∀ i,i<k->zeroCells? P n E ((cs.drop (i*P.cellsOf E)).take (P.cellsOf E))=true:=λi z=>Bi.1 h5 i (List.mem_range.2 z);have ab:∀ i,i<k->i*P.cellsOf E+P.cellsOf E<=cs.length:=λi z=>by rw [X,h2];have:(i+1)*P.cellsOf E<=k*P.cellsOf E:=Au _ (by omega);grind
    have U:∀ c,c∈cs->c.oneCell'=true:=by
     intro c hc;obtain ⟨j,hj,rfl⟩:=List.mem_iff_getElem.1 hc;have V:0<P.cellsOf E:=by grind
     have hd:j / P.cellsOf E<k:=by rw [Nat.div_lt_iff_lt_mul V];omega
     refine (Z E _ (z _ hd)).2 _ (List.mem_iff_getElem?.2 ⟨j%P.cellsOf E,?_⟩);grind [List.getElem?_take_of_lt,Nat.mod_lt,Nat.div_add_mod,Nat.mul_comm,List.getElem?_eq_getElem]
    have Y:aak P T=true:=by simp [aak,o]
    refine ⟨?_,U⟩;simp only [abp,o,pack,Y,A6];refine .data Y (.arr o X U (by simp) (λi v W=>?_));obtain ⟨M,W⟩:=A4.1 W;simp at M;simp at W;subst W;have hz:=(Z E _ (z i M)).1;have hr:=abk hz E h4;have hl:((cs.drop (i*P.cellsOf E)).take (P.cellsOf E)).length=P.cellsOf E:=by grind
    have O:=(Z E _ (z i M)).2;generalize (cs.drop (i*P.cellsOf E)).take (P.cellsOf E)=zs at*;have hp:(pack P E zs).cells.toList=zs:=by
     cases hE:aak P E with
     | true=>simp [pack,hE,Value.cells]
     | false=>
      rw [hE] at H;rcases H with H | H
      ·cases H
      ·have H:=Af H;rw [H] at hl;match zs,hl,O with
       | [u],_,O=>have hu:=O u (by simp);simp only [pack,hE,A2,A7,List.headD];rw [aem hu]
    rwa [hp] at hr
   | _=>
    simp only [zeroCells?,o] at h;try split at h
    all_goals first
     | (rename_i hq;cases hq;done)
     | (simp at h;done)
     | skip
    all_goals (try (rename_i hq;cases hq))
    all_goals simp only [abp,o,pack,aak]
    all_goals first
     | (simp at h;subst h;exact ⟨.bool,by simp [Value.oneCell']⟩)
     | (simp at h;obtain ⟨rfl,rfl⟩:=h;exact ⟨.int,by simp [Value.oneCell']⟩)
     | (exact ⟨.nils,by simp [Value.oneCell']⟩)
     | (exact ⟨.map .nil,by simp [Value.oneCell']⟩)
     | (exact ⟨.raw,by simp [Value.oneCell']⟩)
     | (
      rename_i s
      have hs:s=⟨#[]⟩:=by
       cases s with
       | mk d=>grind
      subst hs
      exact ⟨.str,by simp [Value.oneCell']⟩)
     | (trace_state;fail)
theorem Rep.aggLen {T:TypeId}{v:PV}{cs:List Value} (h:Rep P D w T v cs) (o:aak P T=true):cs.length=P.cellsOf T:=by
 cases h with
 | agg _ m=>exact m
 | arr _ m=>exact m
 | raw z=>grind [rawT,aak]
 | bool d=>grind [aak]
 | int d=>grind [aak]
 | str d=>grind [aak]
 | nil d=>grind [aak]
 | slice d=>grind [aak]
 | mapnil d=>grind [aak]
 | map _ _ d=>grind [aak]
theorem af7 {s:SV}{v:Value}{T:TypeId} (h:SRep P D w ow μ st s v) (m:ah0 P T s=true):
 v.cells.toList.length=P.cellsOf T/\(∀ c,c∈v.cells.toList->c.oneCell'=true)/\pack P T v.cells.toList=v:=by
 have d:∀ {u:Value},u.oneCell'=true->(!aak P T&&Nat.beq (P.cellsOf T) 1)=true->u.cells.toList.length=P.cellsOf T/\(∀ c,c∈u.cells.toList->c.oneCell'=true)/\pack P T u.cells.toList=u:=by intro u Z V;simp only [Ai,Bool.not_eq_true'] at V;grind [Nat.eq_of_beq_eq_true,aem,pack]
 cases h with
 | undef=>simp [ah0] at m
 | nx=>simp [ah0] at m
 | tup=>simp [ah0] at m
 | data H M=>
  simp only [ah0,Ai] at m
  have:=Af m.1;subst this
  exact ⟨by simpa [Value.cells] using M.aggLen H,by simpa [Value.cells] using M.oneCell,by simp [Value.cells,pack,H]⟩
 | agg W X z hv Y=>
  simp only [ah0,Ai] at m
  grind [Nat.eq_of_beq_eq_true,Value.cells,pack]
 | raw=>simp only [ah0,Ai] at m;grind
 | slice o=>cases o<;>exact d rfl m
 | map o=>cases o<;>exact d rfl m
 | acc o=>cases o<;>exact d rfl m
 | @eif b v O U=>
  cases b with
  | true=>rw [O rfl];exact d rfl m
  | false=>obtain ⟨t,u,rfl⟩:=U rfl;exact d rfl m
 | arrOld _ _ z=>exact d z m
 | arefOld _ _ z=>exact d z m
 | _=>exact d rfl m
theorem axg (T:TypeId) (v:PV):∀ (m:List Field) (n i:Nat),(aia P T v m n)[i]?=(m[i]?).map λf=>ofPV P f.type (v.fld (n+i)):=by
 intro m;induction m with
 | nil=>grind [aia]
 | cons d r o=>grind [aia]
theorem aps (T:TypeId) (v:PV):∀ (m:List Field) (n:Nat),(aia P T v m n).length=m.length:=by
 intro m;induction m with
 | nil=>grind [aia]
 | cons d r o=>grind [aia]
theorem arq {d:List PV}{i:Nat}{v:PV} (h:d[i]?=some v):PV.fld (.agg d) i=v:=by simp [PV.fld,PV.parts,List.getD,h]
theorem ahx {s:SV}{TB:TypeId}{cs:List Value}{fs:List SV}{z:Array Field} (hs:SRep P D w ow μ st s (pack P TB cs)) (m:ahg P TB s=some fs) (U:P.underlying TB=some (.struct z)):
 Laid P TB z/\cs.length=P.cellsOf TB/\fs.length=z.size/\(∀ c,c∈cs->c.oneCell'=true)/\
  ∀ (i:Nat) (x:SV) (f:Field),fs[i]?=some x->z[i]?=some f->SRep P D w ow μ st x (pack P f.type ((cs.drop f.offset).take (P.cellsOf f.type))):=by
 have ha:aak P TB=true:=by simp [aak,U]
 unfold ahg at m
 cases hl:ac6 P TB with
 | false=>grind
 | true=>
  rw [hl] at m
  simp only [Ad] at m
  have hL:=acf hl U
  have ab:pack P TB cs=.agg cs.toArray:=by simp [pack,ha]
  rw [ab] at hs
  generalize hv:Value.agg cs.toArray=v at hs
  cases hs with
  | @agg T af O o ah ai ho aj hp=>
   simp only at m
   cases V:Nat.beq TB T with
   | false=>grind
   | true=>
    rw [V] at m
    simp only [Ad,Ak] at m
    grind [Nat.eq_of_beq_eq_true]
  | @data T pv o ad hr=>
   simp only at m
   cases V:Nat.beq TB T with
   | false=>grind
   | true=>
    rw [V,U] at m
    simp only [Ad,Ak] at m
    have:=Af V;subst this;subst m
    have e:cs=o:=by simpa using hv
    subst e
    cases hr with
    | @agg _ ag O ae d Y aa ak H=>
     rw [U] at d;cases d
     refine ⟨hL,Y,by rw [aps];simp,aa,λi x f W hf=>?_⟩
     rw [axg] at W
     have X:z.toList[i]?=some f:=by simpa using hf
     rw [X] at W
     simp at W
     subst W
     have Z:i<O.length:=by grind
     have M:O[i]?=some O[i]:=An Z
     rw [arq M]
     exact (H i O[i] f M hf).ofPV
    | arr d=>grind
    | bool d=>grind
    | int d=>grind
    | str d=>grind
    | nil d=>grind
    | slice d=>grind
    | mapnil d=>grind
    | map _ _ d=>grind
    | raw H=>grind [rawT]
  | _=>simp at m
theorem akd:∀ (path:List Nat) (TB:TypeId) (s:SV) (cs:List Value) (off:Nat) (T:TypeId) (x:SV),SRep P D w ow μ st s (pack P TB cs)->cs.length=P.cellsOf TB->ab6 P TB path=some (off,T)->ah2 P TB s path=some x->
 SRep P D w ow μ st x (pack P T ((cs.drop off).take (P.cellsOf T)))/\off+P.cellsOf T<=cs.length:=by
 intro path
 induction path with
 | nil=>
  intro TB s cs off T x X hl m z
  simp [ab6] at m
  simp [ah2] at z
  grind
 | cons i p ih=>
  intro TB s cs off T x X hl m z
  unfold ab6 at m
  unfold ah2 at z
  cases O:P.underlying TB with
  | none=>grind
  | some d=>
   cases d with
   | struct ds=>
    rw [O] at m z
    simp only at m z
    cases H:ds[i]? with
    | none=>grind
    | some f=>
     rw [H] at m
     simp only at m
     cases W:ab6 P f.type p with
     | none=>grind
     | some r=>
      obtain ⟨o,t⟩:=r
      rw [W] at m
      simp at m
      obtain ⟨rfl,rfl⟩:=m
      cases V:ahg P TB s with
      | none=>grind
      | some fs=>
       rw [V] at z
       simp only at z
       cases Y:fs[i]? with
       | none=>grind
       | some y=>
        rw [Y,H] at z
        simp only at z
        obtain ⟨M,U,h2,h3,h4⟩:=ahx X V O
        obtain ⟨Z,q2⟩:=ih f.type y _ o t x (h4 i y f Y H) (M.len U H) W z
        rw [M.len U H] at q2
        have aa:=M.inside i f H
        refine ⟨?_,by omega⟩
        rw [List.drop_take,List.take_take,A8,Nat.min_eq_left (by omega)] at Z
        exact Z
   | _=>rw [O] at m;simp at m
def abj (cs:List Value) (off:Nat) (xs:List Value):List Value:=cs.take off++xs++cs.drop (off+xs.length)
theorem ab5 {cs xs:List Value}{off:Nat} (h:off+xs.length<=cs.length):(abj cs off xs).length=cs.length:=by simp [abj];omega
theorem ao1 {cs xs:List Value}{off:Nat} (h:off+xs.length<=cs.length):((abj cs off xs).drop off).take xs.length=xs:=by unfold abj;grind
theorem agm {cs xs:List Value}{off:Nat} (h:off+xs.length<=cs.length) (j:Nat):(abj cs off xs)[j]?=if off<=j/\j<off+xs.length then xs[j-off]? else cs[j]?:=by
 unfold abj;have d:(cs.take off).length=off:=by simp;omega
 grind
theorem aef {cs xs:List Value}{off:Nat} (h:off+xs.length<=cs.length) {o n:Nat} (m:o+n<=off\/off+xs.length<=o):((abj cs off xs).drop o).take n=(cs.drop o).take n:=by
 apply List.ext_getElem?;intro j;by_cases d:j<n
 ·rw [List.getElem?_take_of_lt d,List.getElem?_take_of_lt d,List.getElem?_drop,List.getElem?_drop,agm h,if_neg (by omega)]
 grind
theorem ak3 {cs xs:List Value}{off o n:Nat} (m:o+n<=cs.length) (h:off+xs.length<=n):((abj cs (o+off) xs).drop o).take n=abj ((cs.drop o).take n) off xs:=by
 have z:((cs.drop o).take n).length=n:=by simp;omega
 apply List.ext_getElem?;intro j;rw [agm (by omega)];by_cases d:j<n
 ·rw [List.getElem?_take_of_lt d,List.getElem?_drop,agm (by omega),List.getElem?_take_of_lt d,List.getElem?_drop];grind
 grind
theorem ak2:∀ (path:List Nat) (TB:TypeId) (s:SV) (cs:List Value) (off:Nat) (T:TypeId) (x:SV) (xs:List Value) (Y:SV),SRep P D w ow μ st s (pack P TB cs)->cs.length=P.cellsOf TB->ab6 P TB path=some (off,T)->
 SRep P D w ow μ st x (pack P T xs)->xs.length=P.cellsOf T->(∀ c,c∈xs->c.oneCell'=true)->aie P TB s path x=some Y->
 SRep P D w ow μ st Y (pack P TB (abj cs off xs))/\off+xs.length<=cs.length:=by
 intro path
 induction path with
 | nil=>
  intro TB s cs off T x xs Y hs hl H hx W X m
  simp [ab6] at H
  simp [aie] at m
  obtain ⟨rfl,rfl⟩:=H
  grind [abj]
 | cons i p ih=>
  intro TB s cs off T x xs Y hs hl H hx W X m
  unfold ab6 at H
  unfold aie at m
  cases U:P.underlying TB with
  | none=>grind
  | some d=>
   cases d with
   | struct ds=>
    rw [U] at H m
    simp only at H m
    cases M:ds[i]? with
    | none=>grind
    | some f=>
     rw [M] at H
     simp only at H
     cases hq:ab6 P f.type p with
     | none=>grind
     | some r=>
      obtain ⟨o,t⟩:=r
      rw [hq] at H
      simp at H
      obtain ⟨rfl,rfl⟩:=H
      cases he:ahg P TB s with
      | none=>grind
      | some fs=>
       rw [he] at m
       simp only at m
       cases hy:fs[i]? with
       | none=>grind
       | some y=>
        rw [hy,M] at m
        simp only at m
        cases hz:aie P f.type y p x with
        | none=>grind
        | some z=>
         rw [hz] at m
         simp only [Ak] at m
         subst m
         obtain ⟨O,h1,h2,h3,h4⟩:=ahx hs he U
         obtain ⟨q1,q2⟩:=ih f.type y _ o t x xs z (h4 i y f hy M) (O.len h1 M) hq hx W X hz
         rw [O.len h1 M] at q2
         have ae:=O.inside i f M
         have V:f.offset+o+xs.length<=cs.length:=by omega
         have ha:aak P TB=true:=by simp [aak,U]
         refine ⟨?_,V⟩
         have ad:pack P TB (abj cs (f.offset+o) xs)=.agg (abj cs (f.offset+o) xs).toArray:=by simp [pack,ha]
         rw [ad]
         refine .agg U (by grind [ab5]) ?_ (by simpa using h2) (λj v g hj m=>?_)
         ·intro c hc;unfold abj at hc;simp only [Bm] at hc;grind
         ·by_cases aa:j=i
          ·grind [List.getElem?_eq_some_iff,List.getElem?_set_self,ak3]
          ·rw [Ap (by omega)] at hj;rw [aef V]
           ·grind
           ·rcases Nat.lt_or_gt_of_ne aa with ab | Z
            ·have:=O.apart j i g f m M ab;omega
            ·have:=O.apart i j f g M m Z;omega
   | _=>rw [U] at H;simp at H
end
end Go.Ab
namespace Go.Ab
open Go
theorem abe {P:Program}{T:TypeId} (h:P.cellsOf T≠0):∃ i,P.info? T=some i/\i.size=P.cellsOf T:=by
 cases d:P.info? T with
 | none=>grind [Program.cellsOf]
 | some i=>exact ⟨i,rfl,by simp [Program.cellsOf,d]⟩
theorem akf {P:Program}{T:TypeId}{d:TypeDesc} (h:P.underlying T=some d):∃ i,P.info? T=some i/\i.size=P.cellsOf T:=by
 cases m:P.info? T with
 | none=>grind [Program.underlying]
 | some i=>exact ⟨i,rfl,by simp [Program.cellsOf,m]⟩
theorem abc {P:Program}{T:TypeId}{i:TypeInfo} (h:P.info? T=some i) (d:i.size=P.cellsOf T) (w:World):(sizeOf T).run P w=.ok (P.cellsOf T) w:=by simp [sizeOf,typeInfo,h,d]
theorem aqq {P:Program}{T:TypeId} (h:(P.underlying T).isSome=true) (w:World):(isAgg T).run P w=.ok (aak P T) w:=by obtain ⟨d,m⟩:=Option.isSome_iff_exists.1 h;cases d<;>simp [isAgg,run_underlying m,aak,m]
theorem asw {P:Program}{T:TypeId} (z:(P.underlying T).isSome=true) (cs:List Value) (off:Nat) (h:off+P.cellsOf T<=cs.length) (o:aak P T=true\/P.cellsOf T=1) (w:World):
 (part T cs.toArray off).run P w=.ok (pack P T ((cs.drop off).take (P.cellsOf T))) w:=by
 unfold part
 simp only [Sem.run_bind,aqq z,Result.andThen_ok]
 cases H:aak P T with
 | true=>
  obtain ⟨d,M⟩:=Option.isSome_iff_exists.1 z
  obtain ⟨i,O,U⟩:=akf M
  simp only [A6,Sem.run_bind,abc O U,Result.andThen_ok,pack,H]
  simp_all
 | false=>
  have o:P.cellsOf T=1:=by grind
  rw [o] at h ⊢
  have m:off<cs.length:=by omega
  have e:(cs.drop off).take 1=[cs[off]]:=by grind [List.drop_eq_getElem_cons]
  simp [m,pack,H,e]
section
variable {P:Program}{D:Dom}{ow:Own}{μ:Nat->Nat}{st:List BX}{w:World}
theorem ala {T:TypeId}{s:SV}{fs:List SV}{v:Value} (h:SRep P D w ow μ st s v) (d:ahg P T s=some fs):SRep P D w ow μ st (.agg T fs) v:=by
 have O:=d;unfold ahg at d;cases Y:ac6 P T with
 | false=>grind
 | true=>
  rw [Y] at d;simp only [Ad] at d;split at d
  ·rename_i m M;cases o:Nat.beq T m with
   | false=>grind
   | true=>simp_all
  ·rename_i m pv;cases o:Nat.beq T m with
   | false=>grind
   | true=>
    rw [o] at d;simp only [Ad] at d;have:=Af o;subst this;split at d
    ·rename_i ds z;cases h with
     | @data _ _ cs H hr=>
      have Z:SRep P D w ow μ st (.data T pv) (pack P T cs):=by simp only [pack,H,A6];exact .data H hr
      obtain ⟨h1,U,V,W,X⟩:=ahx Z O z;exact .agg z U W V X
    ·cases d
  ·cases d
theorem arp {T:TypeId}{x y:SV}{a b:Value}{r:Bool} (o:SRep P D w ow μ st x a) (z:SRep P D w ow μ st y b) (h:aro P T x y=some r) (d:Nat):(Op.equalIn (d+1) T a b).run P w=.ok r w:=by
 unfold aro at h;split at h
 ·rename_i H;cases o;cases z;grind [Option.some.injEq,run_equalIn_bool]
 ·rename_i V k O M U H;cases o;cases z;cases m:decide (k=M) with
  | false=>grind
  | true=>rw [m] at h;have:=of_decide_eq_true m;subst this;simp only [Ad,Ak] at h;grind [run_equalIn_int]
 ·rename_i H;cases o;cases z;grind [Option.some.injEq,run_equalIn_string,ByteArray.toList_mk]
 ·cases h
theorem apu (d:Nat) {W X:List Value}:∀ (m:List Field) (xs o:List SV) (r:Bool),adj P m xs o=some r->(∀ f,f∈m->f.name≠ "_")->
 (∀ (i:Nat) (f:Field) (x:SV),m[i]?=some f->xs[i]?=some x->∃ a,(part f.type W.toArray f.offset).run P w=.ok a w/\SRep P D w ow μ st x a)->
 (∀ (i:Nat) (f:Field) (y:SV),m[i]?=some f->o[i]?=some y->∃ a,(part f.type X.toArray f.offset).run P w=.ok a w/\SRep P D w ow μ st y a)->
 (Op.eqFields (d+1) W.toArray X.toArray m).run P w=.ok r w:=by
 intro m
 induction m with
 | nil=>
  intro xs o r h _ _ _
  cases xs<;>cases o<;>simp [adj] at h
  subst h
  simp [Op.eqFields]
 | cons f m ih=>
  intro xs o r h O U V
  cases xs with
  | nil=>simp [adj] at h
  | cons x xs=>
   cases o with
   | nil=>simp [adj] at h
   | cons y o=>
    simp only [adj] at h
    split at h
    ·rename_i b c Y Z;simp only [Ak] at h;subst h;obtain ⟨a1,p1,q1⟩:=U 0 f x rfl rfl;obtain ⟨a2,p2,q2⟩:=V 0 f y rfl rfl;have he:=arp q1 q2 Y d;have hi:=ih xs o c Z (λg hg=>O g (by simp [hg])) (λi g z H M=>U (i+1) g z (by simpa using H) (by simpa using M)) (λi g z H M=>V (i+1) g z (by simpa using H) (by simpa using M));simp only [Op.eqFields,O f (by simp),ne_eq,not_false_eq_true,A6,Sem.run_bind,p1,p2,he,Result.andThen_ok];cases b
     ·simp
     grind
    ·cases h
theorem avn (T:TypeId) (op:BinOp) (x y:SV) (a b:Value) (v:SV) (ha:SRep P D w ow μ st x a) (Y:SRep P D w ow μ st y b) (h:aeq P op T x y=.val true v) (ox oy:Operand):
 ∃ u,(do eqGuard op T ox oy a b;binOp op T a b:Sem Value).run P w=.ok u w/\SRep P D w ow μ st v u:=by
 unfold aeq at h
 split at h
 ·rename_i d xs H hT aa ai;have ab:=ala ha aa;have ad:=ala Y ai;have Z:ac6 P T=true:=by
   unfold ahg at aa;grind
  have hL:=acf Z hT;cases hc:(d.toList.all (λf=>!(f.name== "_"))&&!(P.stoodInHeld T)&&!(P.eqGuardType P.depth T)) with
  | false=>grind
  | true=>
   rw [hc] at h;simp only [Ad] at h;simp only [Ai,Bool.not_eq_true'] at hc;obtain ⟨⟨c1,c2⟩,c3⟩:=hc;cases ab with
   | @agg _ fs _ cs W ae al an ag=>
    rw [hT] at W;cases W;cases ad with
    | @agg _ ak _ M X af am ao ah=>
     rw [hT] at X;cases X;have U:P.fieldsOf T=d:=by simp [Program.fieldsOf,hT]
     have o:∀ (zc:List Value) (zs:List SV),zc.length=P.cellsOf T->(∀ (i:Nat) (v:SV) (f:Field),zs[i]?=some v->d[i]?=some f->SRep P D w ow μ st v (pack P f.type ((zc.drop f.offset).take (P.cellsOf f.type))))->
      ∀ (i:Nat) (f:Field) (z:SV),d.toList[i]?=some f->(P.underlying f.type).isSome=true->zs[i]?=some z->∃ u,(part f.type zc.toArray f.offset).run P w=.ok u w/\SRep P D w ow μ st z u:=by
      intro zc zs hl hz i f z U hs aj
      have V:d[i]?=some f:=by simpa using U
      exact ⟨_,asw hs zc f.offset (by rw [hl];exact hL.inside i f V) (by rcases hL.one i f V with h | h;all_goals grind) w,hz i z f aj V⟩
     have m:∀ (d:List Field) (xs H:List SV) (r:Bool),adj P d xs H=some r->∀ f,f∈d->(P.underlying f.type).isSome=true:=by
      intro d;induction d with
      | nil=>grind
      | cons g r ih=>
       intro xs H b Y f U;cases xs with
       | nil=>grind [adj]
       | cons x xs=>
        cases H with
        | nil=>grind [adj]
        | cons y H=>
         simp only [adj] at Y;split at Y
         ·rename_i b1 b2 O h2;rcases Bl.1 U with rfl | U
          ·unfold aro at O;grind
          grind
         ·cases Y
     have key:∀ r,adj P d.toList xs H=some r->(Op.equalIn 10000 T (.agg cs.toArray) (.agg M.toArray)).run P w=.ok r w:=by intro r hr;rw [run_equalIn_struct w 9999 T cs.toArray M.toArray (by grind) c2,U];refine apu 9998 d.toList xs H r hr (λf U=>?_) (λi f z O h2=>o cs xs ae ag i f z O (m _ _ _ _ hr f (List.mem_of_getElem? O)) h2) (λi f z O h2=>o M H af ah i f z O (m _ _ _ _ hr f (List.mem_of_getElem? O)) h2);grind
     split at h
     ·rename_i r hr;simp only [Ac.val.injEq,true_and] at h;subst h;exact ⟨.bool r,by grind [Sem.run_bind,run_eqGuard_agg,Result.andThen_ok,run_eql_struct],.bool⟩
     ·rename_i r hr;simp only [Ac.val.injEq,true_and] at h;subst h;exact ⟨.bool (!r),by grind [Sem.run_bind,run_eqGuard_agg,Result.andThen_ok,run_neq_struct],.bool⟩
     ·cases h
 ·cases h
end
end Go.Ab
