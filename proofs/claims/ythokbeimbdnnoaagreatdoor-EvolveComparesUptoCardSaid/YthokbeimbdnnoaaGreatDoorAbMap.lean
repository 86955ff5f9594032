/- Maps. -/
import Derived.Test.YthokbeimbdnnoaaGreatDoorAbMem
set_option linter.unusedVariables false
set_option linter.unusedSimpArgs false
set_option linter.unnecessarySimpa false
namespace Go.Ab
open Go
section
variable {Γ:Ctx}{D:Dom}{ow:Own}{μ:Nat->Nat}{st:List BX}{w:World}
theorem aiv {P:Program}{s:SV}{v:Value}{T:TypeId} (h:SRep P D w ow μ st s v) (o:isOf P T s=true):pack P T v.cells.toList=v:=by
 have z:∀ {u:Value},u.oneCell'=true->aak P T=false->pack P T u.cells.toList=u:=by intro u O J;rw [ady O];simp [pack,J]
 cases h with
 | data J hr=>simp only [isOf] at o;have:=Aa o;subst this;simp [Value.cells,pack,J]
 | agg H Z ho hv hp=>simp only [isOf,Ai] at o;have:=Aa o.1.1;subst this;simp [Value.cells,pack,aak,H]
 | bool=>
  unfold isOf at o;split at o<;>first | cases o | skip
  rename_i H;exact z rfl (by simp [aak,H])
 | int=>
  unfold isOf at o;split at o<;>first | cases o | skip
  rename_i H;exact z rfl (by simp [aak,H])
 | str=>
  unfold isOf at o;split at o<;>first | cases o | skip
  rename_i H;exact z rfl (by simp [aak,H])
 | slice I=>
  unfold isOf at o;split at o<;>first | cases o | skip
  rename_i H;cases I<;>exact z rfl (by simp [aak,H])
 | map I=>
  unfold isOf at o;split at o<;>first | cases o | skip
  rename_i H;cases I<;>exact z rfl (by simp [aak,H])
 | lit I=>
  unfold isOf at o;split at o<;>first | cases o | skip
  rename_i H;exact z rfl (by simp [aak,H])
 | nils=>
  unfold isOf at o;split at o<;>first | cases o | skip
  rename_i H;exact z rfl (by simp [aak,H])
 | acc I=>
  unfold isOf at o;split at o<;>first | cases o | skip
  rename_i H;cases I<;>exact z rfl (by simp [aak,H])
 | raw=>simp only [isOf,Ai] at o;refine z o.2 ?_;have M:=o.1;unfold rawT at M;unfold aak;split at M<;>simp_all
 | undef=>simp [isOf] at o
 | ifc=>simp [isOf] at o
 | ref=>simp [isOf] at o
 | mref=>simp [isOf] at o
 | iref=>simp [isOf] at o
 | mitr=>simp [isOf] at o
 | sln=>simp [isOf] at o
 | bref=>simp [isOf] at o
 | nx=>simp [isOf] at o
 | arrOld=>simp [isOf] at o
 | arrNil=>simp [isOf] at o
 | arr=>simp [isOf] at o
 | arefOld=>simp [isOf] at o
 | aref=>simp [isOf] at o
 | eref=>simp [isOf] at o
 | asl=>simp [isOf] at o
 | eif=>simp [isOf] at o
 | pto=>simp [isOf] at o
 | fn=>simp [isOf] at o
 | tup=>simp [isOf] at o
theorem at8 (x y:Bq):((⟨x.toArray⟩:ByteArray)==⟨y.toArray⟩)=(x==y):=by show (x.toArray==y.toArray)=_;simp
inductive Key1 (d:TypeDesc):PV->Value->Prop
 | str (s:Bq):d=.string->Key1 d (.str s) (.string ⟨s.toArray⟩)
 | int (k:IntKind) (n:Int):d=.int k->Key1 d (.int n) (.int k n)
 | bool (b:Bool):d=.bool->Key1 d (.bool b) (.bool b)
inductive KeysL (P:Program):Nat->List Field->List PV->List Value->Prop
 | nil (n:Nat):KeysL P n [] [] []
 | cons {n:Nat}{f:Field}{d:TypeDesc}{fs:List Field}{x:PV}{xs:List PV}{a:Value}{cs:List Value}:f.offset=n->f.name≠ "_"->P.underlying f.type=some d->Key1 d x a->KeysL P (n+1) fs xs cs->KeysL P n (f::fs) (x::xs) (a::cs)
inductive KeyIs (P:Program) (K:TypeId) (d:TypeDesc):PV->Value->Prop
 | one {x:PV}{a:Value}:Key1 d x a->KeyIs P K d x a
 | agg (ds:Array Field) (xs:List PV) (cs:List Value):d=.struct ds->P.stoodInHeld K=false->KeysL P 0 ds.toList xs cs->KeyIs P K d (.agg xs) (.agg cs.toArray)
theorem ayr {P:Program}{K:TypeId} (z:arf P K=true) {x:PV}{cs:List Value} (h:Rep P D w K x cs):∃ d,P.underlying K=some d/\Key1 d x (pack P K cs):=by
 unfold arf at z;cases h with
 | bool o=>exact ⟨_,o,by simp only [pack,aak,o];exact .bool _ rfl⟩
 | int o=>exact ⟨_,o,by simp only [pack,aak,o];exact .int _ _ rfl⟩
 | str o=>exact ⟨_,o,by simp only [pack,aak,o];exact .str _ rfl⟩
 | nil o=>rw [o] at z;cases z
 | slice o=>rw [o] at z;cases z
 | agg o=>rw [o] at z;cases z
 | arr o=>rw [o] at z;cases z
 | mapnil o=>rw [o] at z;cases z
 | map _ _ o=>rw [o] at z;cases z
 | raw H=>unfold rawT at H;split at z<;>simp_all
theorem a7q {P:Program}{K:TypeId} (h:arf P K=true):aak P K=false:=by unfold arf at h;unfold aak;split at h<;>simp_all
theorem a1w {P:Program}{cs:List Value}:∀ (z:List Field) (n:Nat) (xs:List PV) (m:Nat),ab2 P z n=some m->cs.length=m->(∀ f,f∈z->arf P f.type=true/\f.name≠ "_")->xs.length=z.length->
 (∀ (i:Nat) (v:PV) (f:Field),xs[i]?=some v->z[i]?=some f->Rep P D w f.type v ((cs.drop f.offset).take (P.cellsOf f.type)))->n<=m/\KeysL P n z xs (cs.drop n):=by
 intro z
 induction z with
 | nil=>
  intro n xs m h O _ M _
  have:xs=[]:=Bc M
  subst this
  simp [ab2] at h
  subst h
  refine ⟨Nat.le_refl _,?_⟩
  rw [<-O,List.drop_length]
  exact .nil _
 | cons f z ih=>
  intro n xs m h O hs M hr
  match xs,M with
  | x::xs,M=>
   simp only [ab2] at h
   cases H:(Nat.beq f.offset n&&!(Nat.beq (P.cellsOf f.type) 0)&&(aak P f.type||Nat.beq (P.cellsOf f.type) 1)) with
   | false=>rw [H] at h;cases h
   | true=>
    rw [H] at h
    simp only [Af] at h
    simp only [Ai] at H
    have ho:=Aa H.1.1
    obtain ⟨Z,s2⟩:=hs f (by simp)
    have h1:P.cellsOf f.type=1:=by have h2:=H.2;rw [a7q Z,Bool.false_or] at h2;exact Aa h2
    rw [h1] at h
    obtain ⟨aa,hk⟩:=ih (n+1) xs m h O (λg hg=>hs g (by simp [hg])) (by simpa using M) (λi v g h3 h4=>hr (i+1) v g (by simpa using h3) (by simpa using h4))
    have J:=hr 0 x f rfl rfl
    obtain ⟨d,hd,o⟩:=ayr Z J
    have I:n<cs.length:=by omega
    rw [h1,ho,List.drop_eq_getElem_cons I] at o
    refine ⟨by omega,?_⟩
    rw [List.drop_eq_getElem_cons I]
    refine .cons ho s2 hd ?_ hk
    have:pack P f.type (List.take 1 (cs[n]::List.drop (n+1) cs))=cs[n]:=by unfold pack;rw [a7q Z];rfl
    rw [this] at o
    exact o
theorem aix {P:Program}{K:TypeId} (M:keyT P K=true) {x:PV}{cs:List Value} (h:Rep P D w K x cs):∃ d,P.underlying K=some d/\KeyIs P K d x (pack P K cs):=by
 by_cases H:arf P K=true
 ·obtain ⟨d,Z,h2⟩:=ayr H h;exact ⟨d,Z,.one h2⟩
 ·unfold keyT at M;unfold arf at H;split at M
  ·rename_i z;rw [z] at H;exact absurd rfl H
  ·rename_i z;rw [z] at H;exact absurd rfl H
  ·rename_i z;rw [z] at H;exact absurd rfl H
  ·rename_i O z;simp only [Ai,Bool.not_eq_true'] at M;obtain ⟨⟨J,k2⟩,k3⟩:=M;refine ⟨_,z,?_⟩;cases h with
   | agg o hl ho hv hp=>
    rename_i fs vs;rw [z] at o;cases o;unfold abx at J;rw [z] at J;dsimp only at J;cases I:ab2 P O.toList 0 with
    | none=>rw [I] at J;cases J
    | some n=>
     rw [I] at J;have hn:=Aa J;have:=(a1w (cs:=cs) O.toList 0 vs n I (by rw [hl,hn]) (λf hf=>by have:=List.all_eq_true.1 k2 f hf;simpa using this) (by simpa using hv) (λi v f Z h2=>hp i v f Z (by simpa using h2))).2
     rw [As] at this;have e:pack P K cs=.agg cs.toArray:=by simp [pack,aak,z]
     rw [e];exact .agg O vs cs rfl k3 this
   | bool o=>rw [z] at o;cases o
   | int o=>rw [z] at o;cases o
   | str o=>rw [z] at o;cases o
   | nil o=>rw [z] at o;cases o
   | slice o=>rw [z] at o;cases o
   | arr o=>rw [z] at o;cases o
   | mapnil o=>rw [z] at o;cases o
   | map _ _ o=>rw [z] at o;cases o
   | raw hr=>unfold rawT at hr;rw [z] at hr;cases hr
  ·cases M
theorem azt {d:TypeDesc}{x y:PV}{a b:Value} (H:Key1 d x a) (z:Key1 d y b):Instr.sameNow d a b=some (adv x y):=by
 cases H with
 | str s o=>subst o;cases z with
  | str t _=>simp [Instr.sameNow,adv,at8]
  | int _ _ h=>cases h
  | bool _ h=>cases h
 | int k n o=>subst o;cases z with
  | int I m h=>cases h;simp [Instr.sameNow,adv]
  | str _ h=>cases h
  | bool _ h=>cases h
 | bool p o=>subst o;cases z with
  | bool q _=>simp [Instr.sameNow,adv]
  | int _ _ h=>cases h
  | str _ h=>cases h
theorem a5r {P:Program}{T:TypeId}{d:TypeDesc} (z:P.underlying T=some d) {x y:PV}{a b:Value} (I:Key1 d x a) (H:Key1 d y b) (n:Nat) (w:World):(Op.equalIn (n+1) T a b).run P w=.ok (adv x y) w:=by
 cases I with
 | str s o=>subst o;cases H with
  | str t _=>rw [run_equalIn_string w n T _ _ z];simp [ByteArray.toList_mk,adv]
  | int _ _ h=>cases h
  | bool _ h=>cases h
 | int k M o=>subst o;cases H with
  | int J m h=>cases h;exact run_equalIn_int w n T k k _ _ z
  | str _ h=>cases h
  | bool _ h=>cases h
 | bool p o=>subst o;cases H with
  | bool q _=>exact run_equalIn_bool w n T _ _ z
  | int _ _ h=>cases h
  | str _ h=>cases h
theorem ayq {P:Program}{T:TypeId}{d:TypeDesc} (H:P.underlying T=some d) {x:PV}{a:Value} (M:Key1 d x a) {A:Array Value}{off:Nat} (h:A[off]?=some a) (w:World):(part T A off).run P w=.ok a w:=by
 have I:aak P T=false:=by
  unfold aak;rw [H];cases M with
  | str _ o=>subst o;rfl
  | int _ _ o=>subst o;rfl
  | bool _ o=>subst o;rfl
 unfold part;simp only [Sem.run_bind,aj1 (by rw [H];rfl),Result.andThen_ok,I];have z:=(Array.getElem?_eq_some_iff.1 h).1;have J:=(Array.getElem?_eq_some_iff.1 h).2;simp [z,J]
theorem kEqL {P:Program}{A B:Array Value}{w:World} (m:Nat):∀ {n:Nat}{J:List Field}{xs:List PV}{cs:List Value},KeysL P n J xs cs->∀ {ys:List PV}{es:List Value},KeysL P n J ys es->(∀ (i:Nat) (a:Value),cs[i]?=some a->A[n+i]?=some a)->(∀ (i:Nat) (a:Value),es[i]?=some a->B[n+i]?=some a)->
 (Op.eqFields (m+1) A B J).run P w=.ok (alx xs ys) w:=by
 intro n J xs cs h
 induction h with
 | nil n=>
  intro ys es o _ _
  cases o
  simp [Op.eqFields,alx]
 | @cons n f d fs x xs a cs ho hn M Z _ ih=>
  intro ys es o O hB
  cases o with
  | @cons _ _ d' _ y ys b es ab aa z I o=>
   rw [M] at z;cases z
   have p1:=ayq M Z (A:=A) (off:=f.offset) (by rw [ho];exact O 0 a rfl) w
   have p2:=ayq M I (A:=B) (off:=f.offset) (by rw [ho];exact hB 0 b rfl) w
   have he:=a5r M Z I m w
   have H:=ih o (λi a H=>by rw [show n+1+i=n+(i+1) by omega];exact O (i+1) a (by simpa using H)) (λi a H=>by rw [show n+1+i=n+(i+1) by omega];exact hB (i+1) a (by simpa using H))
   simp only [Op.eqFields,hn,ne_eq,not_false_eq_true,Ba,Sem.run_bind,p1,p2,he,Result.andThen_ok,alx]
   cases adv x y
   ·simp
   ·simpa using H
theorem a5s {P:Program}{K:TypeId}{o:Array Field} (H:P.underlying K=some (.struct o)) {x y:PV}{a b:Value} (hx:KeyIs P K (.struct o) x a) (hy:KeyIs P K (.struct o) y b) (w:World):(Op.equal K a b).run P w=.ok (ao2 x y) w:=by
 have J:∀ {x:PV}{a:Value},Key1 (.struct o) x a->False:=λh=>by cases h<;>rename_i h<;>cases h
 have I:P.fieldsOf K=o:=by simp [Program.fieldsOf,H]
 cases hx with
 | one h=>exact absurd h (λh=>J h)
 | agg M xs cs Z h2 h3=>
  cases Z;cases hy with
  | one h=>exact absurd h (λh=>J h)
  | agg O ys es h4 h5 h6=>cases h4;show (Op.equalIn 10000 K _ _).run P w=_;rw [run_equalIn_struct w 9999 K _ _ (by rw [I];exact H) h2,I];exact kEqL 9998 h3 h6 (λi a z=>by simpa using z) (λi a z=>by simpa using z)
def ane (P:Program) (K:TypeId) (o:Value) (l:List MapEntry) (i:Nat) (d:TypeDesc) (r:Option (Nat×Value)):Prop:=
 (∀ h,d≠.struct h)/\Instr.findNow d o l i=some r\/(∃ h,d=.struct h)/\∀ w,(Instr.findAsking K o l i).run P w=.ok r w
theorem avt {P:Program}{K:TypeId}{H:Value} (d:TypeDesc):ane P K H [] 0 d none:=by
 by_cases z:∃ o,d=.struct o
 ·exact Or.inr ⟨z,λw=>by simp [Instr.findAsking]⟩
 ·exact Or.inl ⟨λo h=>z ⟨o,h⟩,rfl⟩
theorem anq {P:Program}{K:TypeId}{d:TypeDesc} (hK:P.underlying K=some d) {k:PV}{kv:Value} (hk:KeyIs P K d k kv):∀ (l:List MapEntry) (es:List (PV×PV)) (i:Nat),l.length=es.length->
 (∀ (j:Nat) (e:MapEntry) (x:PV×PV),l[j]?=some e->es[j]?=some x->KeyIs P K d x.1 e.key)->
 (∃ (j:Nat) (x:PV×PV) (e:MapEntry),es[j]?=some x/\l[j]?=some e/\ao2 k x.1=true/\PV.mget es k=some x.2/\ane P K kv l i d (some (i+j,e.val))/\∀ v,PV.mput es k v=es.set j (x.1,v))\/
 (PV.mget es k=none/\ane P K kv l i d none/\∀ v,PV.mput es k v=es++[(k,v)]):=by
 intro l
 induction l with
 | nil=>
  intro es i hl _
  have:es=[]:=Bc (by simpa using hl.symm)
  subst this
  refine Or.inr ⟨rfl,?_,λv=>rfl⟩
  by_cases Z:∃ o,d=.struct o
  ·exact Or.inr ⟨Z,λw=>by simp [Instr.findAsking]⟩
  ·exact Or.inl ⟨λo h=>Z ⟨o,h⟩,rfl⟩
 | cons e r ih=>
  intro es i hl M
  cases es with
  | nil=>simp at hl
  | cons x q=>
   have hx:=M 0 e x rfl rfl
   have step:∀ (b:Bool),ao2 k x.1=b->((∀ o,d≠.struct o)/\Instr.sameNow d kv e.key=some b)\/((∃ o,d=.struct o)/\∀ w,(Op.equal K kv e.key).run P w=.ok b w):=by
    rintro b rfl;by_cases Z:∃ o,d=.struct o
    ·obtain ⟨o,rfl⟩:=Z;exact Or.inr ⟨⟨o,rfl⟩,λw=>a5s hK hk hx w⟩
    ·refine Or.inl ⟨λo h=>Z ⟨o,h⟩,?_⟩;have e1:∀ {p q:PV}{a b:Value},Key1 d p a->Key1 d q b->ao2 p q=adv p q:=λz H=>by cases z<;>rfl
     cases hk with
     | agg o _ _ h=>exact absurd ⟨o,h⟩ Z
     | one z=>
      generalize x.1=p at hx ⊢;generalize e.key=q at hx ⊢;cases hx with
      | agg o _ _ h=>exact absurd ⟨o,h⟩ Z
      | one H=>rw [e1 z H];exact azt z H
   cases J:ao2 k x.1 with
   | true=>
    refine Or.inl ⟨0,x,e,rfl,rfl,J,by simp [PV.mget,J],?_,λv=>by simp [PV.mput,J]⟩
    rcases step true J with ⟨z,H⟩ | ⟨z,H⟩
    ·exact Or.inl ⟨z,by simp [Instr.findNow,H]⟩
    ·exact Or.inr ⟨z,λw=>by simp [Instr.findAsking,H]⟩
   | false=>
    have:=ih q (i+1) (by simpa using hl) (λj e' x' z H=>M (j+1) e' x' (by simpa using z) (by simpa using H))
    have O:∀ {r':Option (Nat×Value)},ane P K kv r (i+1) d r'->ane P K kv (e::r) i d r':=by
     intro r' h;rcases step false J with ⟨z,H⟩ | ⟨z,H⟩
     ·rcases h with ⟨_,I⟩ | ⟨⟨o,I⟩,_⟩
      ·exact Or.inl ⟨z,by simp [Instr.findNow,H,I]⟩
      ·exact absurd I (z o)
     ·rcases h with ⟨I,_⟩ | ⟨_,I⟩
      ·obtain ⟨o,h4⟩:=z;exact absurd h4 (I o)
      ·exact Or.inr ⟨z,λw=>by simp [Instr.findAsking,H,I]⟩
    rcases this with ⟨j,x',e',z,H,I,h4,h5,h6⟩ | ⟨z,H,I⟩
    ·refine Or.inl ⟨j+1,x',e',by simpa using z,by simpa using H,I,?_,?_,λv=>?_⟩
     ·simpa [PV.mget,J] using h4
     ·have:=O h5;rwa [show i+1+j=i+(j+1) by omega] at this
     ·simp [PV.mput,J,h6]
    ·refine Or.inr ⟨by simpa [PV.mget,J] using z,O H,λv=>by simp [PV.mput,J,I]⟩
theorem ajc {P:Program}{K:TypeId}{d:TypeDesc}{k:PV}{z:Value} (o:P.underlying K=some d) (H:Key1 d k z) (e:Bool) (n:Nat) (w:World):(Instr.checkKey e (n+1) K z).run P w=.ok () w:=by
 cases H with
 | str s h=>subst h;simp [Instr.checkKey,run_underlying o]
 | int I m h=>subst h;simp [Instr.checkKey,run_underlying o]
 | bool b h=>subst h;simp [Instr.checkKey,run_underlying o]
theorem adl {P:Program}{K:TypeId}{d:TypeDesc}{k:PV}{Z:Value} (J:P.underlying K=some d) (H:KeyIs P K d k Z) (e:Bool) (n:Nat) (w:World):(Instr.checkKey e (n+2) K Z).run P w=.ok () w:=by
 cases H with
 | one h=>exact ajc J h e (n+1) w
 | agg ds xs cs hd h1 I=>
  subst hd;rw [Instr.checkKey];simp only [Sem.run_bind,run_underlying J,Result.andThen_ok];rw [<-Array.forIn_toList];have o:∀ (i:Nat) (a:Value),cs[i]?=some a->cs.toArray[0+i]?=some a:=λi a M=>by simpa using M
  clear J;generalize cs.toArray=A at o ⊢;generalize ds.toList=L at I ⊢;generalize 0=z at I o;induction I with
  | nil=>simp
  | @cons z f d fs x xs a cs ho hn O H _ ih=>have p1:=ayq O H (A:=A) (off:=f.offset) (by rw [ho];exact o 0 a rfl) w;have p2:=ajc O H e n w;simp only [List.forIn_cons,Sem.run_bind,hn,ne_eq,not_false_eq_true,Ba,Result.andThen_ok,p1,p2,Sem.run_pure];exact ih (λi a M=>by rw [show z+1+i=z+(i+1) by omega];exact o (i+1) a (by simpa using M))
theorem abw {T:TypeId} (h:ack Γ.P T=true):∃ (i:TypeInfo) (z:Value),Γ.P.info? T=some i/\i.zero=some z/\i.size=Γ.P.cellsOf T/\z.cells.size=Γ.P.cellsOf T/\z=pack Γ.P T z.cells.toList/\
 SRep Γ.P D w ow μ st (abk Γ.P 12 T) z/\(∀ c,c∈z.cells.toList->c.oneCell'=true):=by
 unfold ack at h
 cases H:Γ.P.info? T with
 | none=>rw [H] at h;simp at h
 | some i=>
  rw [H] at h
  simp only [Option.map_some] at h
  cases I:i.zero with
  | none=>rw [I] at h;simp at h
  | some z=>
   rw [I] at h
   simp only [Ai] at h
   obtain ⟨⟨O,Z⟩,o⟩:=h
   obtain ⟨J,M⟩:=aw1 (P:=Γ.P) (D:=D) (ow:=ow) (μ:=μ) (st:=st) (w:=w) 12 T _ O
   have e:z=pack Γ.P T z.cells.toList:=by
    unfold pack;cases z with
    | agg cs=>simp at o;simp [o,Value.cells]
    | tuple vs=>have:=M (.tuple vs) (by simp [Value.cells]);simp [Value.oneCell'] at this
    | _=>simp at o;simp [o,Value.cells]
   exact ⟨i,z,rfl,I,by simp [Program.cellsOf,H],Aa Z,e,by rw [<-e] at J;exact J,M⟩
theorem aej {P:Program}{K:TypeId}{d:TypeDesc}{z:Value}{es:List MapEntry}{r:Option (Nat×Value)} (o:P.underlying K=some d) (h:ane P K z es 0 d r) (w:World):(Instr.findKey K z es).run P w=.ok r w:=by
 rcases h with ⟨_,h⟩ | ⟨⟨H,rfl⟩,h⟩
 ·simp [Instr.findKey,run_underlying o,h]
 ·have h:=h w;cases es with
  | nil=>simp [Instr.findKey,run_underlying o,Instr.findNow];simpa [Instr.findAsking] using h
  | cons e es=>simp [Instr.findKey,run_underlying o,Instr.findNow,Instr.sameNow];exact h
theorem al1 (T K E:TypeId) (hT:Γ.P.underlying T=some (.map K E)) (ks:SV) (kv:Value) (o:Bool) (Z:keyT Γ.P K=true) (hk:SRep Γ.P D w ow μ st ks kv) (aa:isOf Γ.P K ks=true) (hz:ack Γ.P E=true) (ah:isOf Γ.P E (abk Γ.P 12 E)=true)
 (r clock:Nat) (ents:Array MapEntry) (es:List (PV×PV)) (kc vc:Nat->List Value) (hh:w.heap[r]?=some (.map ents clock)) (af:ents.size=es.length)
 (h1:∀ (i:Nat) (x:PV×PV),es[i]?=some x->Rep Γ.P D w K x.1 (kc i)) (h2:∀ (i:Nat) (x:PV×PV),es[i]?=some x->Rep Γ.P D w E x.2 (vc i))
 (h3:∀ (i:Nat) (e:MapEntry),ents[i]?=some e->e.key=pack Γ.P K (kc i)/\e.val=pack Γ.P E (vc i)):
 ∃ u,(Instr.lookup T (.map (some r)) kv o).run Γ.P w=.ok u w/\SRep Γ.P D w ow μ st (ajv Γ.P E es (toPV ks) o) u:=by
 have ae:=abh hk K aa
 have ad:=aiv hk aa
 obtain ⟨d,H,h⟩:=aix Z ae
 rw [ad] at h
 obtain ⟨i,z,hi,ab,ak,al,ag,ai,aj⟩:=abw (Γ:=Γ) (D:=D) (ow:=ow) (μ:=μ) (st:=st) (w:=w) hz
 have J:∀ (j:Nat) (e:MapEntry) (x:PV×PV),ents.toList[j]?=some e->es[j]?=some x->KeyIs Γ.P K d x.1 e.key:=by intro j e x he hx;obtain ⟨d',M,hy⟩:=aix Z (h1 j x hx);rw [H] at M;cases M;rw [(h3 j e (by simpa using he)).1];exact hy
 have fin:∀ (x:PV) (val:Value),SRep Γ.P D w ow μ st (ofPV Γ.P E x) val->∀ b,PV.mhas es (toPV ks)=b->(PV.mget es (toPV ks)).getD (toPV (abk Γ.P 12 E))=x->
  SRep Γ.P D w ow μ st (ajv Γ.P E es (toPV ks) o) (if o then .tuple #[val,.bool b] else val):=by
  intro x val hx b hb he
  unfold ajv
  rw [he,hb]
  cases o
  ·exact hx
  ·refine .tup (by simp) (λj s v O I=>?_);match j with
   | 0=>simp at O I;subst O;subst I;exact hx
   | 1=>simp at O I;subst O;subst I;exact .bool
   | (n+2)=>simp at O
 rcases anq H h ents.toList es 0 (by simpa using af) J with ⟨j,x,e,q1,q2,q3,q4,q5,_⟩ | ⟨q1,q2,_⟩
 ·have I:=(h3 j e (by simpa using q2)).2;refine ⟨if o then .tuple #[e.val,.bool true] else e.val,?_,fin x.2 e.val (by rw [I];exact (h2 j x q1).ofPV) true (by simp [PV.mhas,q4]) (by simp [q4])⟩;simp [Instr.lookup,run_underlying hT,getObj,Sem.run,hh,adl H h,aej H q5]
 ·refine ⟨if o then .tuple #[z,.bool false] else z,?_,fin (toPV (abk Γ.P 12 E)) z ?_ false (by simp [PV.mhas,q1]) (by simp [q1])⟩
  ·simp [Instr.lookup,run_underlying hT,getObj,Sem.run,hh,adl H h,aej H q2,zeroValue,typeInfo,hi,ab]
  ·have:=(abh ai E ah).ofPV (ow:=ow) (μ:=μ) (st:=st);rwa [<-ag] at this
theorem aqx (hw:WRel Γ D ow μ st w) (T:TypeId) (m k:SV) (mv kv:Value) (J:Bool) (v:SV) (hm:SRep Γ.P D w ow μ st m mv) (Z:SRep Γ.P D w ow μ st k kv) (h:aet Γ.P T st m k J=.val true v):
 ∃ u,(Instr.lookup T mv kv J).run Γ.P w=.ok u w/\SRep Γ.P D w ow μ st v u:=by
 unfold aet at h
 split at h
 ·rename_i K E hT;cases O:(keyT Γ.P K&&isOf Γ.P K k&&ack Γ.P E&&isOf Γ.P E (abk Γ.P 12 E)) with
  | false=>rw [O] at h;simp at h
  | true=>
   rw [O] at h;simp only [Af] at h;simp only [Ai] at O;obtain ⟨⟨⟨c1,M⟩,c3⟩,c4⟩:=O;split at h
   ·rename_i K' E' es;cases o:(Nat.beq K K'&&Nat.beq E E') with
    | false=>rw [o] at h;simp at h
    | true=>
     rw [o] at h;simp only [Ai] at o;have:=Aa o.1;subst this;have:=Aa o.2;subst this;simp only [Af,Ac.val.injEq,true_and] at h;subst h;cases hm with
     | map hm=>
      cases hm with
      | nil=>
       have ad:=abh Z K M;have ab:=aiv Z M;obtain ⟨d,hd,H⟩:=aix c1 ad;rw [ab] at H;obtain ⟨i,z,hi,aa,ai,aj,af,ag,ah⟩:=abw (Γ:=Γ) (D:=D) (ow:=ow) (μ:=μ) (st:=st) (w:=w) c3;have hz:=(abh ag E c4).ofPV (ow:=ow) (μ:=μ) (st:=st);rw [<-af] at hz;refine ⟨if J then .tuple #[z,.bool false] else z,?_,?_⟩
       ·simp [Instr.lookup,run_underlying hT,adl hd H,aej hd (avt d),zeroValue,typeInfo,hi,aa]
       ·unfold ajv;have e1:PV.mget [] (toPV k)=none:=rfl;have e2:PV.mhas [] (toPV k)=false:=rfl;rw [e1,e2];cases J
        ·exact hz
        ·refine .tup (by simp) (λj s v I hv=>?_);match j with
         | 0=>simp at I hv;subst I;subst hv;exact hz
         | 1=>simp at I hv;subst I;subst hv;exact .bool
         | (n+2)=>simp at I
      | mk kc vc hh hd ae h1 h2 h3=>exact al1 T K E hT k kv J c1 Z M c3 c4 _ _ _ es kc vc hh ae h1 h2 h3.1
   ·rename_i j;split at h
    ·rename_i K' E' es I;cases o:(Nat.beq K K'&&Nat.beq E E') with
     | false=>rw [o] at h;simp at h
     | true=>rw [o] at h;simp only [Ai] at o;have:=Aa o.1;subst this;have:=Aa o.2;subst this;simp only [Af,Ac.val.injEq,true_and] at h;subst h;cases hm;obtain ⟨ents,clock,kc,vc,r1,_,_,r4,r5,r6,r7⟩:=hw.map j K E es I;exact al1 T K E hT k kv J c1 Z M c3 c4 _ _ _ es kc vc r1 r4 r5 r6 r7.1
    ·simp at h
   ·simp at h
 ·simp at h
end
end Go.Ab
