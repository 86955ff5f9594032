/- Maps. -/
import Derived.Test.YtodichgnoiaanaaGreatDoorAbMem
set_option linter.unusedVariables false
set_option linter.unusedSimpArgs false
set_option linter.unnecessarySimpa false
namespace Go.Ab
open Go
section
variable {Γ:Ctx}{D:Dom}{ow:Own}{μ:Nat->Nat}{st:List BX}{w:World}
theorem af7 {P:Program}{s:SV}{v:Value}{T:TypeId} (h:SRep P D w ow μ st s v) (o:isOf P T s=true):pack P T v.cells.toList=v:=by
 have z:∀ {u:Value},u.oneCell'=true->aaj P T=false->pack P T u.cells.toList=u:=by grind [aeg,pack]
 cases h with
 | data J hr=>grind [isOf,Nat.eq_of_beq_eq_true,Value.cells,pack]
 | agg H M O hv Z=>simp only [isOf,Aj] at o;grind [Nat.eq_of_beq_eq_true,Value.cells,pack,amy]
 | bool=>
  unfold isOf at o;split at o<;>first | cases o | skip
  rename_i H;exact z rfl (by simp [aaj,H])
 | int=>
  unfold isOf at o;split at o<;>first | cases o | skip
  rename_i H;exact z rfl (by simp [aaj,H])
 | str=>
  unfold isOf at o;split at o<;>first | cases o | skip
  rename_i H;exact z rfl (by simp [aaj,H])
 | slice I=>
  unfold isOf at o;split at o<;>first | cases o | skip
  rename_i H;cases I<;>exact z rfl (by simp [aaj,H])
 | map I=>
  unfold isOf at o;split at o<;>first | cases o | skip
  rename_i H;cases I<;>exact z rfl (by simp [aaj,H])
 | lit I=>
  unfold isOf at o;split at o<;>first | cases o | skip
  rename_i H;exact z rfl (by simp [aaj,H])
 | nils=>
  unfold isOf at o;split at o<;>first | cases o | skip
  rename_i H;exact z rfl (by simp [aaj,H])
 | acc I=>
  unfold isOf at o;split at o<;>first | cases o | skip
  rename_i H;cases I<;>exact z rfl (by simp [aaj,H])
 | raw=>simp only [isOf,Aj] at o;grind [rawT,aaj]
 | undef=>simp [isOf] at o
 | ifc=>simp [isOf] at o
 | ref=>simp [isOf] at o
 | mref=>simp [isOf] at o
 | iref=>simp [isOf] at o
 | mitr=>simp [isOf] at o
 | sln=>simp [isOf] at o
 | bref=>simp [isOf] at o
 | nx=>simp [isOf] at o
 | arrOld=>simp [isOf] at o
 | arrNil=>simp [isOf] at o
 | arr=>simp [isOf] at o
 | arefOld=>simp [isOf] at o
 | aref=>simp [isOf] at o
 | eref=>simp [isOf] at o
 | asl=>simp [isOf] at o
 | avwOld=>simp [isOf] at o
 | avw=>simp [isOf] at o
 | lits=>simp [isOf] at o
 | eif=>simp [isOf] at o
 | pto=>simp [isOf] at o
 | fn=>simp [isOf] at o
 | tup=>simp [isOf] at o
theorem ax9 (x y:Bo):((⟨x.toArray⟩:ByteArray)==⟨y.toArray⟩)=(x==y):=by show (x.toArray==y.toArray)=_;simp
inductive Key1 (d:TypeDesc):PV->Value->Prop
 | str (s:Bo):d=.string->Key1 d (.str s) (.string ⟨s.toArray⟩)
 | int (k:IntKind) (n:Int):d=.int k->Key1 d (.int n) (.int k n)
 | bool (b:Bool):d=.bool->Key1 d (.bool b) (.bool b)
inductive KeysL (P:Program):Nat->List Field->List PV->List Value->Prop
 | nil (n:Nat):KeysL P n [] [] []
 | cons {n:Nat}{f:Field}{d:TypeDesc}{fs:List Field}{x:PV}{xs:List PV}{a:Value}{cs:List Value}:f.offset=n->f.name≠ "_"->P.underlying f.type=some d->Key1 d x a->KeysL P (n+1) fs xs cs->KeysL P n (f::fs) (x::xs) (a::cs)
inductive KeyIs (P:Program) (K:TypeId) (d:TypeDesc):PV->Value->Prop
 | one {x:PV}{a:Value}:Key1 d x a->KeyIs P K d x a
 | agg (ds:Array Field) (xs:List PV) (cs:List Value):d=.struct ds->P.stoodInHeld K=false->KeysL P 0 ds.toList xs cs->KeyIs P K d (.agg xs) (.agg cs.toArray)
theorem a4c {P:Program}{K:TypeId} (z:au3 P K=true) {x:PV}{cs:List Value} (h:Rep P D w K x cs):∃ d,P.underlying K=some d/\Key1 d x (pack P K cs):=by
 unfold au3 at z;cases h with
 | bool o=>exact ⟨_,o,by simp only [pack,aaj,o];exact .bool _ rfl⟩
 | int o=>exact ⟨_,o,by simp only [pack,aaj,o];exact .int _ _ rfl⟩
 | str o=>exact ⟨_,o,by simp only [pack,aaj,o];exact .str _ rfl⟩
 | nil o=>grind
 | slice o=>grind
 | agg o=>grind
 | arr o=>grind
 | mapnil o=>grind
 | map _ _ o=>grind
 | raw H=>grind [rawT]
theorem bd0 {P:Program}{K:TypeId} (h:au3 P K=true):aaj P K=false:=by grind [au3,aaj]
theorem a8u {P:Program}{cs:List Value}:∀ (o:List Field) (n:Nat) (xs:List PV) (m:Nat),ab8 P o n=some m->cs.length=m->(∀ f,f∈o->au3 P f.type=true/\f.name≠ "_")->xs.length=o.length->
 (∀ (i:Nat) (v:PV) (f:Field),xs[i]?=some v->o[i]?=some f->Rep P D w f.type v ((cs.drop f.offset).take (P.cellsOf f.type)))->n<=m/\KeysL P n o xs (cs.drop n):=by
 intro o
 induction o with
 | nil=>
  intro n xs m h O _ J _
  have:xs=[]:=Ba J
  subst this
  simp [ab8] at h
  subst h
  refine ⟨Nat.le_refl _,?_⟩
  rw [<-O,List.drop_length]
  exact .nil _
 | cons f o ih=>
  intro n xs m h O hs J hr
  match xs,J with
  | x::xs,J=>
   simp only [ab8] at h
   cases M:(Nat.beq f.offset n&&!(Nat.beq (P.cellsOf f.type) 0)&&(aaj P f.type||Nat.beq (P.cellsOf f.type) 1)) with
   | false=>grind
   | true=>
    rw [M] at h
    simp only [Af] at h
    simp only [Aj] at M
    have ho:=Ae M.1.1
    obtain ⟨s1,s2⟩:=hs f (by simp)
    have Z:P.cellsOf f.type=1:=by have h2:=M.2;rw [bd0 s1,Bool.false_or] at h2;simp_all
    rw [Z] at h
    obtain ⟨aa,hk⟩:=ih (n+1) xs m h O (λg hg=>hs g (by simp [hg])) (by simpa using J) (λi v g h3 h4=>hr (i+1) v g (by simpa using h3) (by simpa using h4))
    have I:=hr 0 x f rfl rfl
    obtain ⟨d,hd,z⟩:=a4c s1 I
    have H:n<cs.length:=by omega
    rw [Z,ho,List.drop_eq_getElem_cons H] at z
    refine ⟨by omega,?_⟩
    rw [List.drop_eq_getElem_cons H]
    refine .cons ho s2 hd ?_ hk
    grind [pack,List.take,List.drop,bd0]
theorem agz {P:Program}{K:TypeId} (z:keyT P K=true) {x:PV}{cs:List Value} (h:Rep P D w K x cs):∃ d,P.underlying K=some d/\KeyIs P K d x (pack P K cs):=by
 by_cases hs:au3 P K=true
 ·obtain ⟨d,O,Z⟩:=a4c hs h;exact ⟨d,O,.one Z⟩
 ·unfold keyT at z;unfold au3 at hs;split at z
  ·grind
  ·grind
  ·grind
  ·rename_i M J;simp only [Aj,Bool.not_eq_true'] at z;obtain ⟨⟨I,k2⟩,k3⟩:=z;refine ⟨_,J,?_⟩;cases h with
   | agg o hl ho hv hp=>
    rename_i fs vs;rw [J] at o;cases o;unfold ace at I;rw [abd J] at I;dsimp only at I;cases H:ab8 P M.toList 0 with
    | none=>grind
    | some n=>
     rw [H] at I;have hn:=Ae I;have:=(a8u (cs:=cs) M.toList 0 vs n H (by rw [hl,hn]) (λf hf=>by grind) (by simpa using hv) (λi v f O Z=>hp i v f O (by simpa using Z))).2
     rw [Ap] at this;have e:pack P K cs=.agg cs.toArray:=by simp [pack,aaj,J]
     rw [e];exact .agg M vs cs rfl k3 this
   | bool o=>grind
   | int o=>grind
   | str o=>grind
   | nil o=>grind
   | slice o=>grind
   | arr o=>grind
   | mapnil o=>grind
   | map _ _ o=>grind
   | raw hr=>grind [rawT]
  ·cases z
theorem a5u {d:TypeDesc}{x y:PV}{a b:Value} (H:Key1 d x a) (z:Key1 d y b):Instr.sameNow d a b=some (ad3 x y):=by
 cases H with
 | str s o=>subst o;cases z with
  | str t _=>simp [Instr.sameNow,ad3,ax9]
  | int _ _ h=>cases h
  | bool _ h=>cases h
 | int k n o=>subst o;cases z with
  | int I m h=>grind [Instr.sameNow,ad3]
  | str _ h=>cases h
  | bool _ h=>cases h
 | bool p o=>subst o;cases z with
  | bool q _=>simp [Instr.sameNow,ad3]
  | int _ _ h=>cases h
  | str _ h=>cases h
theorem bcc {P:Program}{T:TypeId}{d:TypeDesc} (H:P.underlying T=some d) {x y:PV}{a b:Value} (I:Key1 d x a) (z:Key1 d y b) (n:Nat) (w:World):(Op.equalIn (n+1) T a b).run P w=.ok (ad3 x y) w:=by
 cases I with
 | str s o=>subst o;cases z with
  | str t _=>grind [run_equalIn_string,ByteArray.toList_mk,ad3]
  | int _ _ h=>cases h
  | bool _ h=>cases h
 | int k M o=>subst o;cases z with
  | int J m h=>cases h;exact run_equalIn_int w n T k k _ _ H
  | str _ h=>cases h
  | bool _ h=>cases h
 | bool p o=>subst o;cases z with
  | bool q _=>exact run_equalIn_bool w n T _ _ H
  | int _ _ h=>cases h
  | str _ h=>cases h
theorem a4b {P:Program}{T:TypeId}{d:TypeDesc} (z:P.underlying T=some d) {x:PV}{a:Value} (I:Key1 d x a) {A:Array Value}{off:Nat} (h:A[off]?=some a) (w:World):(part T A off).run P w=.ok a w:=by
 have H:aaj P T=false:=by
  unfold aaj;rw [z];cases I with
  | str _ o=>subst o;rfl
  | int _ _ o=>subst o;rfl
  | bool _ o=>subst o;rfl
 unfold part;simp only [Sem.run_bind,alq (by rw [z];rfl),Result.andThen_ok,H];simp_all
theorem kEqL {P:Program}{A B:Array Value}{w:World} (m:Nat):∀ {n:Nat}{I:List Field}{xs:List PV}{cs:List Value},KeysL P n I xs cs->∀ {ys:List PV}{es:List Value},KeysL P n I ys es->(∀ (i:Nat) (a:Value),cs[i]?=some a->A[n+i]?=some a)->(∀ (i:Nat) (a:Value),es[i]?=some a->B[n+i]?=some a)->
 (Op.eqFields (m+1) A B I).run P w=.ok (an8 xs ys) w:=by
 intro n I xs cs h
 induction h with
 | nil n=>
  intro ys es o _ _
  cases o
  simp [Op.eqFields,an8]
 | @cons n f d fs x xs a cs Z hn J O _ ih=>
  intro ys es o hA hB
  cases o with
  | @cons _ _ d' _ y ys b es ab aa z H o=>
   rw [J] at z;cases z
   have p1:=a4b J O (A:=A) (off:=f.offset) (by rw [Z];exact hA 0 a rfl) w
   have p2:=a4b J H (A:=B) (off:=f.offset) (by rw [Z];exact hB 0 b rfl) w
   have he:=bcc J O H m w
   have M:=ih o (λi a M=>by rw [show n+1+i=n+(i+1) by omega];all_goals simp_all) (λi a M=>by rw [show n+1+i=n+(i+1) by omega];all_goals simp_all)
   simp only [Op.eqFields,hn,ne_eq,not_false_eq_true,A9,Sem.run_bind,p1,p2,he,Result.andThen_ok,an8]
   cases ad3 x y
   all_goals simp_all
theorem bcd {P:Program}{K:TypeId}{o:Array Field} (hK:P.underlying K=some (.struct o)) {x y:PV}{a b:Value} (hx:KeyIs P K (.struct o) x a) (hy:KeyIs P K (.struct o) y b) (w:World):(Op.equal K a b).run P w=.ok (agy x y) w:=by
 have no:∀ {x:PV}{a:Value},Key1 (.struct o) x a->False:=λh=>by cases h<;>rename_i h<;>cases h
 have hf:P.fieldsOf K=o:=by simp [Program.fieldsOf,hK]
 cases hx with
 | one h=>grind
 | agg H xs cs J M O=>
  cases J;cases hy with
  | one h=>grind
  | agg I ys es Z h5 h6=>cases Z;show (Op.equalIn 10000 K _ _).run P w=_;rw [run_equalIn_struct w 9999 K _ _ (by grind) M,hf];exact kEqL 9998 O h6 (λi a z=>by simpa using z) (λi a z=>by simpa using z)
def ap1 (P:Program) (K:TypeId) (o:Value) (l:List MapEntry) (i:Nat) (d:TypeDesc) (r:Option (Nat×Value)):Prop:=
 (∀ h,d≠.struct h)/\Instr.findNow d o l i=some r\/(∃ h,d=.struct h)/\∀ w,(Instr.findAsking K o l i).run P w=.ok r w
theorem az4 {P:Program}{K:TypeId}{H:Value} (d:TypeDesc):ap1 P K H [] 0 d none:=by
 by_cases z:∃ o,d=.struct o
 ·exact Or.inr ⟨z,λw=>by simp [Instr.findAsking]⟩
 ·exact Or.inl ⟨λo h=>z ⟨o,h⟩,rfl⟩
theorem alc {P:Program}{K:TypeId}{d:TypeDesc} (hK:P.underlying K=some d) {k:PV}{Z:Value} (hk:KeyIs P K d k Z):∀ (l:List MapEntry) (es:List (PV×PV)) (i:Nat),l.length=es.length->
 (∀ (j:Nat) (e:MapEntry) (x:PV×PV),l[j]?=some e->es[j]?=some x->KeyIs P K d x.1 e.key)->
 (∃ (j:Nat) (x:PV×PV) (e:MapEntry),es[j]?=some x/\l[j]?=some e/\agy k x.1=true/\PV.mget es k=some x.2/\ap1 P K Z l i d (some (i+j,e.val))/\(∀ v,PV.mput es k v=es.set j (x.1,v))/\PV.midx es k=j)\/
 (PV.mget es k=none/\ap1 P K Z l i d none/\(∀ v,PV.mput es k v=es++[(k,v)])/\PV.midx es k=es.length):=by
 intro l
 induction l with
 | nil=>
  intro es i hl _
  have:es=[]:=Ba (by grind)
  subst this
  refine Or.inr ⟨rfl,?_,λv=>rfl,rfl⟩
  by_cases hd:∃ o,d=.struct o
  ·exact Or.inr ⟨hd,λw=>by simp [Instr.findAsking]⟩
  ·exact Or.inl ⟨λo h=>hd ⟨o,h⟩,rfl⟩
 | cons e r ih=>
  intro es i hl M
  cases es with
  | nil=>simp at hl
  | cons x q=>
   have hx:=M 0 e x rfl rfl
   have step:∀ (b:Bool),agy k x.1=b->((∀ o,d≠.struct o)/\Instr.sameNow d Z e.key=some b)\/((∃ o,d=.struct o)/\∀ w,(Op.equal K Z e.key).run P w=.ok b w):=by
    rintro b rfl;by_cases hd:∃ o,d=.struct o
    ·obtain ⟨o,rfl⟩:=hd;exact Or.inr ⟨⟨o,rfl⟩,λw=>bcd hK hk hx w⟩
    ·refine Or.inl ⟨λo h=>hd ⟨o,h⟩,?_⟩;have e1:∀ {p q:PV}{a b:Value},Key1 d p a->Key1 d q b->agy p q=ad3 p q:=λz H=>by cases z<;>rfl
     cases hk with
     | agg o _ _ h=>grind
     | one z=>
      generalize x.1=p at hx ⊢;generalize e.key=q at hx ⊢;cases hx with
      | agg o _ _ h=>grind
      | one H=>grind [a5u]
   cases I:agy k x.1 with
   | true=>
    refine Or.inl ⟨0,x,e,rfl,rfl,I,by simp [PV.mget,I],?_,λv=>by simp [PV.mput,I],by simp [PV.midx,I]⟩
    rcases step true I with ⟨z,H⟩ | ⟨z,H⟩
    ·exact Or.inl ⟨z,by simp [Instr.findNow,H]⟩
    ·exact Or.inr ⟨z,λw=>by simp [Instr.findAsking,H]⟩
   | false=>
    have:=ih q (i+1) (by simpa using hl) (λj e' x' z H=>M (j+1) e' x' (by simpa using z) (by simpa using H))
    have O:∀ {r':Option (Nat×Value)},ap1 P K Z r (i+1) d r'->ap1 P K Z (e::r) i d r':=by
     intro r' h;rcases step false I with ⟨z,H⟩ | ⟨z,H⟩
     ·rcases h with ⟨_,J⟩ | ⟨⟨o,J⟩,_⟩
      ·exact Or.inl ⟨z,by grind [Instr.findNow]⟩
      grind
     ·rcases h with ⟨J,_⟩ | ⟨_,J⟩
      ·obtain ⟨o,h4⟩:=z;exact absurd h4 (J o)
      ·exact Or.inr ⟨z,λw=>by simp [Instr.findAsking,H,J]⟩
    rcases this with ⟨j,x',e',z,H,J,h4,h5,h6,h7⟩ | ⟨z,H,J,h7⟩
    ·refine Or.inl ⟨j+1,x',e',by simpa using z,by simpa using H,J,?_,?_,λv=>?_,by simp [PV.midx,I,h7]⟩
     ·simpa [PV.mget,I] using h4
     ·have:=O h5;rwa [show i+1+j=i+(j+1) by omega] at this
     ·simp [PV.mput,I,h6]
    ·refine Or.inr ⟨by simpa [PV.mget,I] using z,O H,λv=>by simp [PV.mput,I,J],by simp [PV.midx,I,h7]⟩
theorem akw {P:Program}{K:TypeId}{d:TypeDesc}{k:PV}{z:Value} (o:P.underlying K=some d) (H:Key1 d k z) (e:Bool) (n:Nat) (w:World):(Instr.checkKey e (n+1) K z).run P w=.ok () w:=by
 cases H with
 | str s h=>subst h;simp [Instr.checkKey,run_underlying o]
 | int I m h=>subst h;simp [Instr.checkKey,run_underlying o]
 | bool b h=>subst h;simp [Instr.checkKey,run_underlying o]
theorem acz {P:Program}{K:TypeId}{d:TypeDesc}{k:PV}{Z:Value} (J:P.underlying K=some d) (H:KeyIs P K d k Z) (e:Bool) (n:Nat) (w:World):(Instr.checkKey e (n+2) K Z).run P w=.ok () w:=by
 cases H with
 | one h=>exact akw J h e (n+1) w
 | agg ds xs cs hd h1 I=>
  subst hd;rw [Instr.checkKey];simp only [Sem.run_bind,run_underlying J,Result.andThen_ok];rw [<-Array.forIn_toList];have o:∀ (i:Nat) (a:Value),cs[i]?=some a->cs.toArray[0+i]?=some a:=λi a M=>by simpa using M
  clear J;generalize cs.toArray=A at o ⊢;generalize ds.toList=L at I ⊢;generalize 0=z at I o;induction I with
  | nil=>simp
  | @cons z f d fs x xs a cs ho hn O H _ ih=>have p1:=a4b O H (A:=A) (off:=f.offset) (by rw [ho];exact o 0 a rfl) w;have p2:=akw O H e n w;simp only [List.forIn_cons,Sem.run_bind,hn,ne_eq,not_false_eq_true,A9,Result.andThen_ok,p1,p2,Sem.run_pure];exact ih (λi a M=>by rw [show z+1+i=z+(i+1) by omega];exact o (i+1) a (by simpa using M))
theorem abl {T:TypeId} (h:ab3 Γ.P T=true):∃ (i:TypeInfo) (z:Value),Γ.P.info? T=some i/\i.zero=some z/\i.size=Γ.P.cellsOf T/\z.cells.size=Γ.P.cellsOf T/\z=pack Γ.P T z.cells.toList/\
 SRep Γ.P D w ow μ st (aa1 Γ.P 12 T) z/\(∀ c,c∈z.cells.toList->c.oneCell'=true):=by
 unfold ab3 at h
 cases H:Γ.P.info? T with
 | none=>rw [H] at h;simp at h
 | some i=>
  rw [H] at h
  simp only [Option.map_some] at h
  cases I:i.zero with
  | none=>rw [I] at h;simp at h
  | some z=>
   rw [I] at h
   simp only [Aj] at h
   obtain ⟨⟨O,Z⟩,o⟩:=h
   obtain ⟨J,M⟩:=a1i (P:=Γ.P) (D:=D) (ow:=ow) (μ:=μ) (st:=st) (w:=w) 12 T _ O
   have e:z=pack Γ.P T z.cells.toList:=by
    unfold pack;cases z with
    | agg cs=>simp at o;simp [o,Value.cells]
    | tuple vs=>have:=M (.tuple vs) (by simp [Value.cells]);simp [Value.oneCell'] at this
    | _=>simp at o;simp [o,Value.cells]
   exact ⟨i,z,rfl,I,by simp [Program.cellsOf,H],Ae Z,e,by rw [<-e] at J;exact J,M⟩
theorem adh {P:Program}{K:TypeId}{d:TypeDesc}{z:Value}{es:List MapEntry}{r:Option (Nat×Value)} (o:P.underlying K=some d) (h:ap1 P K z es 0 d r) (w:World):(Instr.findKey K z es).run P w=.ok r w:=by
 rcases h with ⟨_,h⟩ | ⟨⟨H,rfl⟩,h⟩
 ·simp [Instr.findKey,run_underlying o,h]
 ·have h:=h w;cases es with
  | nil=>simp [Instr.findKey,run_underlying o,Instr.findNow];simpa [Instr.findAsking] using h
  | cons e es=>simp [Instr.findKey,run_underlying o,Instr.findNow,Instr.sameNow];exact h
theorem aob (T K E:TypeId) (hT:Γ.P.underlying T=some (.map K E)) (ks:SV) (kv:Value) (o:Bool) (Z:keyT Γ.P K=true) (hk:SRep Γ.P D w ow μ st ks kv) (aa:isOf Γ.P K ks=true) (hz:ab3 Γ.P E=true) (ah:isOf Γ.P E (aa1 Γ.P 12 E)=true)
 (r clock:Nat) (ents:Array MapEntry) (es:List (PV×PV)) (kc vc:Nat->List Value) (hh:w.heap[r]?=some (.map ents clock)) (af:ents.size=es.length)
 (h1:∀ (i:Nat) (x:PV×PV),es[i]?=some x->Rep Γ.P D w K x.1 (kc i)) (h2:∀ (i:Nat) (x:PV×PV),es[i]?=some x->Rep Γ.P D w E x.2 (vc i))
 (h3:∀ (i:Nat) (e:MapEntry),ents[i]?=some e->e.key=pack Γ.P K (kc i)/\e.val=pack Γ.P E (vc i)):
 ∃ u,(Instr.lookup T (.map (some r)) kv o).run Γ.P w=.ok u w/\SRep Γ.P D w ow μ st (ajm Γ.P E es (toPV ks) o) u:=by
 have ae:=aa2 hk K aa
 have ad:=af7 hk aa
 obtain ⟨d,H,h⟩:=agz Z ae
 rw [ad] at h
 obtain ⟨i,z,hi,ab,ak,al,ag,ai,aj⟩:=abl (Γ:=Γ) (D:=D) (ow:=ow) (μ:=μ) (st:=st) (w:=w) hz
 have J:∀ (j:Nat) (e:MapEntry) (x:PV×PV),ents.toList[j]?=some e->es[j]?=some x->KeyIs Γ.P K d x.1 e.key:=by intro j e x he hx;obtain ⟨d',M,hy⟩:=agz Z (h1 j x hx);rw [H] at M;cases M;rw [(h3 j e (by simpa using he)).1];exact hy
 have fin:∀ (x:PV) (val:Value),SRep Γ.P D w ow μ st (ofPV Γ.P E x) val->∀ b,PV.mhas es (toPV ks)=b->(PV.mget es (toPV ks)).getD (toPV (aa1 Γ.P 12 E))=x->
  SRep Γ.P D w ow μ st (ajm Γ.P E es (toPV ks) o) (if o then .tuple #[val,.bool b] else val):=by
  intro x val hx b hb he
  unfold ajm
  rw [he,hb]
  cases o
  ·exact hx
  ·refine .tup (by simp) (λj s v O I=>?_);match j with
   | 0=>simp at O I;subst O;subst I;exact hx
   | 1=>simp at O I;subst O;subst I;exact .bool
   | (n+2)=>simp at O
 rcases alc H h ents.toList es 0 (by simpa using af) J with ⟨j,x,e,q1,q2,q3,q4,q5,_⟩ | ⟨q1,q2,_⟩
 ·have I:=(h3 j e (by simpa using q2)).2;refine ⟨if o then .tuple #[e.val,.bool true] else e.val,?_,fin x.2 e.val (by rw [I];exact (h2 j x q1).ofPV) true (by simp [PV.mhas,q4]) (by simp [q4])⟩;simp [Instr.lookup,run_underlying hT,getObj,Sem.run,hh,acz H h,adh H q5]
 ·refine ⟨if o then .tuple #[z,.bool false] else z,?_,fin (toPV (aa1 Γ.P 12 E)) z ?_ false (by simp [PV.mhas,q1]) (by simp [q1])⟩
  ·simp [Instr.lookup,run_underlying hT,getObj,Sem.run,hh,acz H h,adh H q2,zeroValue,typeInfo,hi,ab]
  ·have:=(aa2 ai E ah).ofPV (ow:=ow) (μ:=μ) (st:=st);rwa [<-ag] at this
theorem aud (hw:WRel Γ D ow μ st w) (T:TypeId) (m k:SV) (mv kv:Value) (J:Bool) (v:SV) (hm:SRep Γ.P D w ow μ st m mv) (Z:SRep Γ.P D w ow μ st k kv) (h:ac1 Γ.P T st m k J=.val true v):
 ∃ u,(Instr.lookup T mv kv J).run Γ.P w=.ok u w/\SRep Γ.P D w ow μ st v u:=by
 unfold ac1 at h
 split at h
 ·rename_i K E hT;cases O:(keyT Γ.P K&&isOf Γ.P K k&&ab3 Γ.P E&&isOf Γ.P E (aa1 Γ.P 12 E)) with
  | false=>rw [O] at h;simp at h
  | true=>
   rw [O] at h;simp only [Af] at h;simp only [Aj] at O;obtain ⟨⟨⟨c1,M⟩,c3⟩,c4⟩:=O;split at h
   ·rename_i K' E' es;cases o:(Nat.beq K K'&&Nat.beq E E') with
    | false=>rw [o] at h;simp at h
    | true=>
     rw [o] at h;simp only [Aj] at o;have:=Ae o.1;subst this;have:=Ae o.2;subst this;simp only [Af,Ac.val.injEq,true_and] at h;subst h;cases hm with
     | map hm=>
      cases hm with
      | nil=>
       have ad:=aa2 Z K M;have ab:=af7 Z M;obtain ⟨d,hd,H⟩:=agz c1 ad;rw [ab] at H;obtain ⟨i,z,hi,aa,ai,aj,af,ag,ah⟩:=abl (Γ:=Γ) (D:=D) (ow:=ow) (μ:=μ) (st:=st) (w:=w) c3;have hz:=(aa2 ag E c4).ofPV (ow:=ow) (μ:=μ) (st:=st);rw [<-af] at hz;refine ⟨if J then .tuple #[z,.bool false] else z,?_,?_⟩
       ·simp [Instr.lookup,run_underlying hT,acz hd H,adh hd (az4 d),zeroValue,typeInfo,hi,aa]
       ·unfold ajm;have e1:PV.mget [] (toPV k)=none:=rfl;have e2:PV.mhas [] (toPV k)=false:=rfl;rw [e1,e2];cases J
        ·exact hz
        ·refine .tup (by simp) (λj s v I hv=>?_);match j with
         | 0=>simp at I hv;subst I;subst hv;exact hz
         | 1=>simp at I hv;subst I;subst hv;exact .bool
         | (n+2)=>simp at I
      | mk kc vc hh hd ae h1 h2 h3=>exact aob T K E hT k kv J c1 Z M c3 c4 _ _ _ es kc vc hh ae h1 h2 h3.1
   ·rename_i j;split at h
    ·rename_i K' E' es I;cases o:(Nat.beq K K'&&Nat.beq E E') with
     | false=>rw [o] at h;simp at h
     | true=>rw [o] at h;simp only [Aj] at o;have:=Ae o.1;subst this;have:=Ae o.2;subst this;simp only [Af,Ac.val.injEq,true_and] at h;subst h;cases hm;obtain ⟨ents,clock,kc,vc,r1,_,_,r4,r5,r6,r7,r8⟩:=hw.map j K E es I;exact aob T K E hT k kv J c1 Z M c3 c4 _ _ _ es kc vc r1 r4 r5 r6 r7.1
    ·simp at h
   ·simp at h
 ·simp at h
end
end Go.Ab
namespace Go.Ab
open Go
section
variable {Γ:Ctx}{D:Dom}{ow:Own}{μ:Nat->Nat}{st:List BX}{w:World}
def ac3 (D:Dom) (ow:Own) (μ:Nat->Nat) (st:List BX) (fz:List Nat):Dom:=λb o=>D b o\/∃ k h,k∈fz/\st[k]?=some h/\((∃ K E es,h=.map K E es)\/∃ E g xs,h=.arr E g xs)/\ow b=some k/\μ k=b
theorem adr {fz:List Nat}{b o:Nat} (h:ac3 D ow μ st fz b o):D b o\/∃ k,k∈fz/\ow b=some k/\∀ g,st[k]?≠some (.acc g):=by rcases h with h | ⟨k,z,H,I,J,M,O⟩;all_goals grind
theorem aia (fz:List Nat):Moves D w ow μ st (ac3 D ow μ st fz) w ow μ st:=by refine ⟨λ_ _ d=>Or.inl d,Keeps.refl _ _,λk T s e=>⟨rfl,s,e⟩,λk K E es e=>⟨rfl,es,e⟩,λk b e _=>⟨rfl,b,e,rfl⟩,λk E g xs e=>⟨g,xs,e,Nat.le_refl _,λ_=>⟨rfl,ArrKeep.refl _ _ _ _ _⟩⟩,λk g e=>⟨g,e,Nat.le_refl _,λ_ b h=>⟨rfl,h,λo d=>?_⟩⟩⟩;grind [adr,absurd]
theorem a3b {k g:Nat}{E:TypeId}{xs:List PV}{v:Value}{fz:List Nat} (hw:WRel Γ D ow μ st w) (h:SRep Γ.P D w ow μ st (.arr k g E) v) (J:aee st k g E=some xs) (Z:k∈fz):SRep Γ.P (ac3 D ow μ st fz) w ow μ st (.slice E xs) v:=by
 have m:Moves D w ow μ st (ac3 D ow μ st fz) w ow μ st:=aia fz;have I:=abw J;cases h with
 | arrOld o z=>grind
 | arrNil o=>rw [I] at o;cases o;exact .slice (.nil λ_=>rfl)
 | @arr _ _ cap _ _ cur o hl aa hc ho ab=>
  rw [I] at o;cases o;have H:xs.length*Γ.P.cellsOf E<=cur.size/\∀ (i:Nat) (x:PV),xs[i]?=some x->Rep Γ.P D w E x ((cur.toList.drop (i*Γ.P.cellsOf E)).take (Γ.P.cellsOf E)):=by rcases hw.obj k _ I with h0 | ⟨M,q1,q2,q3,q4,q5⟩;all_goals grind
  refine .slice (.mk (L:=cur.toList.take (xs.length*Γ.P.cellsOf E)) hl (by simp;omega) (λi x hi=>?_) (λj v hj=>?_))
  ·have O:(i+1)*Γ.P.cellsOf E<=xs.length*Γ.P.cellsOf E:=Au _ (by grind);rw [Nat.add_mul] at O;rw [List.drop_take,List.take_take,Nat.min_eq_left (by omega)];exact (H.2 i x hi).mono m.dom m.keeps
  ·have z:j<xs.length*Γ.P.cellsOf E:=by grind
   rw [List.getElem?_take_of_lt z] at hj;refine ⟨Or.inr ⟨k,_,Z,I,Or.inr ⟨E,g,xs,rfl⟩,ho,rfl⟩,?_⟩;grind [World.cell?]
theorem as9 {k:Nat}{s:SV}:∀ {h:List SV}{i:Nat},h[i]?=some s->k∈amp s->k∈as8 h:=by
 intro h;induction h with
 | nil=>grind
 | cons x r o=>grind [as8]
theorem aym:∀ (h:List SV) (i:Nat),(frzL st h)[i]?=(h[i]?).map (frzS st):=by
 intro h;induction h with
 | nil=>intro i;simp [frzL]
 | cons x r o=>grind [frzL]
theorem an3:∀ (h:List SV),(frzL st h).length=h.length:=by
 intro h;induction h with
 | nil=>rfl
 | cons x r o=>simp [frzL,o]
theorem aij {fz:List Nat} (hw:WRel Γ D ow μ st w) {s:SV}{v:Value} (h:SRep Γ.P D w ow μ st s v):(∀ k,k∈amp s->k∈fz)->SRep Γ.P (ac3 D ow μ st fz) w ow μ st (frzS st s) v:=by
 have m:Moves D w ow μ st (ac3 D ow μ st fz) w ow μ st:=aia fz;have J:∀ (k g:Nat) (E:TypeId) (v:Value),SRep Γ.P D w ow μ st (.arr k g E) v->k∈fz->SRep Γ.P (ac3 D ow μ st fz) w ow μ st (frzS st (.arr k g E)) v:=by
  intro k g E v h M;simp only [frzS];split
  ·grind [a3b]
  ·exact .undef
 induction h with
 | agg hT hl ho hv hs ih=>intro M;simp only [frzS];refine .agg hT hl ho (by grind [an3]) (λi x f hx aa=>?_);rw [aym] at hx;obtain ⟨y,hy,rfl⟩:=Option.map_eq_some_iff.1 hx;grind [amp,as9]
 | arrOld o z H=>intro M;exact J _ _ _ _ (.arrOld o z H) (M _ (by simp [amp]))
 | arrNil o=>intro M;exact J _ _ _ _ (.arrNil o) (M _ (by simp [amp]))
 | arr o z H I O Z=>intro M;exact J _ _ _ _ (.arr o z H I O Z) (M _ (by simp [amp]))
 | undef=>intro _;exact .undef
 | bool=>intro _;exact .bool
 | int=>intro _;exact .int
 | str=>intro _;exact .str
 | slice h=>intro _;exact (SRep.slice h).mono m
 | data o z=>intro _;exact (SRep.data o z).mono m
 | map h=>intro _;exact (SRep.map h).mono m
 | nils=>intro _;exact .nils
 | acc o z H I=>intro _;exact (SRep.acc o z H I).mono m
 | ref o z=>intro _;exact .ref o z
 | @mref k K E es o=>intro M;simp only [frzS,o];obtain ⟨ents,clock,kc,vc,r1,r2,r3,r4,r5,r6,r7,_⟩:=hw.map k K E es o;exact .map (.mk kc vc r1 (Or.inr ⟨k,_,M k (by simp [amp]),o,Or.inl ⟨K,E,es,rfl⟩,r2,rfl⟩) r4 (λi x a=>(r5 i x a).mono m.dom m.keeps) (λi x a=>(r6 i x a).mono m.dom m.keeps) r7)
 | iref o=>intro _;exact .iref o
 | mitr o=>intro _;exact .mitr o
 | bref o=>intro _;exact .bref o
 | nx o z=>intro _;exact .nx o z
 | eif o z=>intro _;exact .eif o z
 | pto o z=>intro _;exact (SRep.pto o z).mono m
 | fn o z H _=>intro _;exact (SRep.fn o z H).mono m
 | tup o z _=>intro _;exact (SRep.tup o z).mono m
 | raw=>intro _;exact .raw
 | lit h=>intro _;exact (SRep.lit h).mono m
 | sln h=>intro _;exact (SRep.sln h).mono m
 | arefOld o z H=>intro _;exact .arefOld o z H
 | aref o z H I O=>intro _;exact .aref o z H I O
 | eref o z H=>intro _;exact .eref o z H
 | asl o z H I=>intro _;exact .asl o z H I
 | avwOld o z=>intro _;exact .avwOld o z
 | avw o z H I O Z h7=>intro _;exact .avw o z H I O Z h7
 | lits o z H I _=>intro _;exact (SRep.lits o z H I).mono m
 | ifc h _=>intro _;exact (SRep.ifc h).mono m
def amh (ow:Own) (k:Nat):Own:=λb=>if ow b=some k then none else ow b
theorem owLess_some {k b j:Nat}:amh ow k b=some j ↔ ow b=some j/\j≠k:=by unfold amh;grind
theorem WRel.freezeRow (z:WRel Γ D ow μ st w) {k g:Nat}{E:TypeId}{xs:List PV} (hk:st[k]?=some (.arr E g xs)):
 WRel Γ (ac3 D ow μ st [k]) (amh ow k) μ (st.set k (.arr E (g+1) [])) w/\Moves D w ow μ st (ac3 D ow μ st [k]) w (amh ow k) μ (st.set k (.arr E (g+1) [])):=by
 have ae:=(A5.1 hk).1
 have ne:∀ {j:Nat}{y:BX},st[j]?=some y->j≠k->(st.set k (.arr E (g+1) []))[j]?=some y:=λe h=>by grind
 have H:∀ {j:Nat}{y:BX},(st.set k (.arr E (g+1) []))[j]?=some y->j≠k->st[j]?=some y:=λe h=>by rwa [Ao (by omega)] at e
 have I:(st.set k (.arr E (g+1) []))[k]?=some (.arr E (g+1) []):=by all_goals grind
 have Z:∀ {b j:Nat}{o:Nat},ow b=some j->j≠k->ac3 D ow μ st [k] b o->D b o:=λJ h d=>by rcases adr d with d | ⟨k',h1,h2,_⟩;all_goals grind
 have m:Moves D w ow μ st (ac3 D ow μ st [k]) w (amh ow k) μ (st.set k (.arr E (g+1) [])):=by
  refine ⟨λ_ _ d=>Or.inl d,Keeps.refl _ _,λj T x e=>⟨rfl,x,?_⟩,λj K E es e=>⟨rfl,es,?_⟩,λj b e hs=>⟨rfl,?_⟩,λj E1 g1 ad e=>?_,λj g1 e=>?_⟩
  ·grind
  ·grind
  ·by_cases h:j=k
   ·subst h;rw [hk] at e;cases e;exact ⟨_,I,rfl⟩
   grind
  ·by_cases h:j=k
   ·grind
   ·exact ⟨g1,ad,ne e h,Nat.le_refl _,λ_=>⟨rfl,λcur hc ab=>⟨rfl,owLess_some.2 ⟨ab,h⟩,cur,hc,rfl⟩⟩⟩
  ·have h:j≠k:=λh=>by grind
   exact ⟨g1,ne e h,Nat.le_refl _,λ_ b J=>⟨rfl,owLess_some.2 ⟨J,h⟩,λo d=>Z J h d⟩⟩
 have M:∀ j,j<Γ.np->∃ b,(st.set k (.arr E (g+1) []))[j]?=some b/\b.kind=Γ.K0 j:=by
  intro j h;obtain ⟨x,hx,p1⟩:=z.par j h;by_cases aa:j=k
  ·subst aa;rw [hk] at hx;cases hx;exact ⟨_,I,p1⟩
  grind
 refine ⟨⟨λj T x e=>?_,λj K E es e=>?_,λj x e=>?_,λb j J=>?_,λb o d=>?_,z.os,z.tape,z.output,z.hs,z.old,λb o d=>Or.inl (z.dom0 b o d),λb o d=>?_,λb j J hb=>z.owN b j (owLess_some.1 J).1 hb,by grind,z.mu0,M,λb j y J e hy o d=>?_,z.keep0,z.arr0_moves m M⟩,m⟩
 ·have h:j≠k:=λh=>by grind
  obtain ⟨c,T1,q1,q2,O,q4,q5⟩:=z.box j T x (H e h);exact BoxRep.mono ⟨c,T1,q1,q2,O,q4,q5⟩ m rfl rfl (owLess_some.2 ⟨O,h⟩) (λo d=>q4 o (Z O h d))
 ·have h:j≠k:=λh=>by grind
  obtain ⟨ents,clock,kc,vc,q1,q2,O⟩:=z.map j K E es (H e h);exact OMapRep.mono ⟨ents,clock,kc,vc,q1,q2,O⟩ m.dom m.keeps rfl rfl (owLess_some.2 ⟨q2,h⟩) (λo d=>O.1 o (Z q2 h d))
 ·by_cases h:j=k
  ·subst h;rw [I] at e;cases e;exact Or.inl rfl
  ·exact (z.obj j x (H e h)).mono m.dom m.keeps (λ_=>rfl) (λc oc=>⟨rfl,owLess_some.2 ⟨oc,h⟩,λo d=>Z oc h d⟩)
 ·have:=z.owlt b j (owLess_some.1 J).1;simpa using this
 ·rcases adr d with d | ⟨k',h1,h2,_⟩
  ·exact z.dlt b o d
  ·exact (z.owlt b k' h2).1
 ·rcases adr d with d | ⟨k',h1,h2,_⟩
  ·exact z.domN b o d
  ·by_cases hb:b<Γ.B
   ·exact Or.inr (Or.inr (by rw [z.owN b k' h2 hb];simp))
   grind
 ·obtain ⟨o1,o2⟩:=owLess_some.1 J;exact z.lone b j y o1 (H e o2) hy o (Z o1 o2 d)
end
end Go.Ab
