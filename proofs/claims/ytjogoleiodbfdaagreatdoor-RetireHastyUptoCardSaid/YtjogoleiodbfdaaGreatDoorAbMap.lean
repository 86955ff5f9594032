/- Maps. -/
import Derived.Test.YtjogoleiodbfdaaGreatDoorAbMem
set_option linter.unusedVariables false
set_option linter.unusedSimpArgs false
set_option linter.unnecessarySimpa false
namespace Go.Ab
open Go
section
variable {Γ:Ctx}{D:Dom}{ow:Own}{μ:Nat->Nat}{st:List BX}{w:World}
theorem afp {P:Program}{s:SV}{v:Value}{T:TypeId} (h:SRep P D w ow μ st s v) (o:isOf P T s=true):pack P T v.cells.toList=v:=by
 have H:∀ {u:Value},u.oneCell'=true->aal P T=false->pack P T u.cells.toList=u:=by intro u Z M;rw [ad9 Z];simp [pack,M]
 cases h with
 | data M hr=>simp only [isOf] at o;have:=Ae o;subst this;simp [Value.cells,pack,M]
 | agg I hl ho hv hp=>simp only [isOf,Aj] at o;have:=Ae o.1.1;subst this;simp [Value.cells,pack,aal,I]
 | bool=>
  unfold isOf at o;split at o<;>first | cases o | skip
  rename_i I;exact H rfl (by simp [aal,I])
 | int=>
  unfold isOf at o;split at o<;>first | cases o | skip
  rename_i I;exact H rfl (by simp [aal,I])
 | str=>
  unfold isOf at o;split at o<;>first | cases o | skip
  rename_i I;exact H rfl (by simp [aal,I])
 | slice J=>
  unfold isOf at o;split at o<;>first | cases o | skip
  rename_i I;cases J<;>exact H rfl (by simp [aal,I])
 | map J=>
  unfold isOf at o;split at o<;>first | cases o | skip
  rename_i I;cases J<;>exact H rfl (by simp [aal,I])
 | lit J=>
  unfold isOf at o;split at o<;>first | cases o | skip
  rename_i I;exact H rfl (by simp [aal,I])
 | nils=>
  unfold isOf at o;split at o<;>first | cases o | skip
  rename_i I;exact H rfl (by simp [aal,I])
 | acc J=>
  unfold isOf at o;split at o<;>first | cases o | skip
  rename_i I;cases J<;>exact H rfl (by simp [aal,I])
 | raw=>simp only [isOf,Aj] at o;refine H o.2 ?_;have O:=o.1;unfold rawT at O;unfold aal;split at O<;>simp_all
 | undef=>simp [isOf] at o
 | ifc=>simp [isOf] at o
 | ref=>simp [isOf] at o
 | mref=>simp [isOf] at o
 | iref=>simp [isOf] at o
 | mitr=>simp [isOf] at o
 | sln=>simp [isOf] at o
 | bref=>simp [isOf] at o
 | nx=>simp [isOf] at o
 | arrOld=>simp [isOf] at o
 | arrNil=>simp [isOf] at o
 | arr=>simp [isOf] at o
 | arefOld=>simp [isOf] at o
 | aref=>simp [isOf] at o
 | eref=>simp [isOf] at o
 | asl=>simp [isOf] at o
 | eif=>simp [isOf] at o
 | pto=>simp [isOf] at o
 | fn=>simp [isOf] at o
 | tup=>simp [isOf] at o
theorem avs (x y:Bt):((⟨x.toArray⟩:ByteArray)==⟨y.toArray⟩)=(x==y):=by show (x.toArray==y.toArray)=_;simp
inductive Key1 (d:TypeDesc):PV->Value->Prop
 | str (s:Bt):d=.string->Key1 d (.str s) (.string ⟨s.toArray⟩)
 | int (k:IntKind) (n:Int):d=.int k->Key1 d (.int n) (.int k n)
 | bool (b:Bool):d=.bool->Key1 d (.bool b) (.bool b)
inductive KeysL (P:Program):Nat->List Field->List PV->List Value->Prop
 | nil (n:Nat):KeysL P n [] [] []
 | cons {n:Nat}{f:Field}{d:TypeDesc}{fs:List Field}{x:PV}{xs:List PV}{a:Value}{cs:List Value}:f.offset=n->f.name≠ "_"->P.underlying f.type=some d->Key1 d x a->KeysL P (n+1) fs xs cs->KeysL P n (f::fs) (x::xs) (a::cs)
inductive KeyIs (P:Program) (K:TypeId) (d:TypeDesc):PV->Value->Prop
 | one {x:PV}{a:Value}:Key1 d x a->KeyIs P K d x a
 | agg (ds:Array Field) (xs:List PV) (cs:List Value):d=.struct ds->P.stoodInHeld K=false->KeysL P 0 ds.toList xs cs->KeyIs P K d (.agg xs) (.agg cs.toArray)
theorem a0s {P:Program}{K:TypeId} (H:asq P K=true) {x:PV}{cs:List Value} (h:Rep P D w K x cs):∃ d,P.underlying K=some d/\Key1 d x (pack P K cs):=by
 unfold asq at H;cases h with
 | bool o=>exact ⟨_,o,by simp only [pack,aal,o];exact .bool _ rfl⟩
 | int o=>exact ⟨_,o,by simp only [pack,aal,o];exact .int _ _ rfl⟩
 | str o=>exact ⟨_,o,by simp only [pack,aal,o];exact .str _ rfl⟩
 | nil o=>rw [o] at H;cases H
 | slice o=>rw [o] at H;cases H
 | agg o=>rw [o] at H;cases H
 | arr o=>rw [o] at H;cases H
 | mapnil o=>rw [o] at H;cases H
 | map _ _ o=>rw [o] at H;cases H
 | raw I=>unfold rawT at I;split at H<;>simp_all
theorem bam {P:Program}{K:TypeId} (h:asq P K=true):aal P K=false:=by unfold asq at h;unfold aal;split at h<;>simp_all
theorem a4u {P:Program}{cs:List Value}:∀ (H:List Field) (n:Nat) (xs:List PV) (m:Nat),ab7 P H n=some m->cs.length=m->(∀ f,f∈H->asq P f.type=true/\f.name≠ "_")->xs.length=H.length->
 (∀ (i:Nat) (v:PV) (f:Field),xs[i]?=some v->H[i]?=some f->Rep P D w f.type v ((cs.drop f.offset).take (P.cellsOf f.type)))->n<=m/\KeysL P n H xs (cs.drop n):=by
 intro H
 induction H with
 | nil=>
  intro n xs m h Z _ O _
  have:xs=[]:=Bc O
  subst this
  simp [ab7] at h
  subst h
  refine ⟨Nat.le_refl _,?_⟩
  rw [<-Z,List.drop_length]
  exact .nil _
 | cons f H ih=>
  intro n xs m h Z hs O hr
  match xs,O with
  | x::xs,O=>
   simp only [ab7] at h
   cases I:(Nat.beq f.offset n&&!(Nat.beq (P.cellsOf f.type) 0)&&(aal P f.type||Nat.beq (P.cellsOf f.type) 1)) with
   | false=>rw [I] at h;cases h
   | true=>
    rw [I] at h
    simp only [Af] at h
    simp only [Aj] at I
    have ho:=Ae I.1.1
    obtain ⟨s1,s2⟩:=hs f (by simp)
    have h1:P.cellsOf f.type=1:=by have h2:=I.2;rw [bam s1,Bool.false_or] at h2;exact Ae h2
    rw [h1] at h
    obtain ⟨aa,hk⟩:=ih (n+1) xs m h Z (λg hg=>hs g (by simp [hg])) (by simpa using O) (λi v g h3 h4=>hr (i+1) v g (by simpa using h3) (by simpa using h4))
    have M:=hr 0 x f rfl rfl
    obtain ⟨d,hd,o⟩:=a0s s1 M
    have J:n<cs.length:=by omega
    rw [h1,ho,List.drop_eq_getElem_cons J] at o
    refine ⟨by omega,?_⟩
    rw [List.drop_eq_getElem_cons J]
    refine .cons ho s2 hd ?_ hk
    have:pack P f.type (List.take 1 (cs[n]::List.drop (n+1) cs))=cs[n]:=by unfold pack;rw [bam s1];rfl
    rw [this] at o
    exact o
theorem agb {P:Program}{K:TypeId} (O:keyT P K=true) {x:PV}{cs:List Value} (h:Rep P D w K x cs):∃ d,P.underlying K=some d/\KeyIs P K d x (pack P K cs):=by
 by_cases I:asq P K=true
 ·obtain ⟨d,h1,h2⟩:=a0s I h;exact ⟨d,h1,.one h2⟩
 ·unfold keyT at O;unfold asq at I;split at O
  ·rename_i H;rw [H] at I;exact absurd rfl I
  ·rename_i H;rw [H] at I;exact absurd rfl I
  ·rename_i H;rw [H] at I;exact absurd rfl I
  ·rename_i Z H;simp only [Aj,Bool.not_eq_true'] at O;obtain ⟨⟨M,k2⟩,k3⟩:=O;refine ⟨_,H,?_⟩;cases h with
   | agg o hl ho hv hp=>
    rename_i fs vs;rw [H] at o;cases o;unfold acf at M;rw [H] at M;dsimp only at M;cases J:ab7 P Z.toList 0 with
    | none=>rw [J] at M;cases M
    | some n=>
     rw [J] at M;have hn:=Ae M;have:=(a4u (cs:=cs) Z.toList 0 vs n J (by rw [hl,hn]) (λf hf=>by have:=Bs.1 k2 f hf;simpa using this) (by simpa using hv) (λi v f h1 h2=>hp i v f h1 (by simpa using h2))).2
     rw [Ap] at this;have e:pack P K cs=.agg cs.toArray:=by simp [pack,aal,H]
     rw [e];exact .agg Z vs cs rfl k3 this
   | bool o=>rw [H] at o;cases o
   | int o=>rw [H] at o;cases o
   | str o=>rw [H] at o;cases o
   | nil o=>rw [H] at o;cases o
   | slice o=>rw [H] at o;cases o
   | arr o=>rw [H] at o;cases o
   | mapnil o=>rw [H] at o;cases o
   | map _ _ o=>rw [H] at o;cases o
   | raw hr=>unfold rawT at hr;rw [H] at hr;cases hr
  ·cases O
theorem a1x {d:TypeDesc}{x y:PV}{a b:Value} (I:Key1 d x a) (H:Key1 d y b):Instr.sameNow d a b=some (ad7 x y):=by
 cases I with
 | str s o=>subst o;cases H with
  | str t _=>simp [Instr.sameNow,ad7,avs]
  | int _ _ h=>cases h
  | bool _ h=>cases h
 | int k n o=>subst o;cases H with
  | int J m h=>cases h;simp [Instr.sameNow,ad7]
  | str _ h=>cases h
  | bool _ h=>cases h
 | bool p o=>subst o;cases H with
  | bool q _=>simp [Instr.sameNow,ad7]
  | int _ _ h=>cases h
  | str _ h=>cases h
theorem a8m {P:Program}{T:TypeId}{d:TypeDesc} (H:P.underlying T=some d) {x y:PV}{a b:Value} (J:Key1 d x a) (I:Key1 d y b) (n:Nat) (w:World):(Op.equalIn (n+1) T a b).run P w=.ok (ad7 x y) w:=by
 cases J with
 | str s o=>subst o;cases I with
  | str t _=>rw [run_equalIn_string w n T _ _ H];simp [ByteArray.toList_mk,ad7]
  | int _ _ h=>cases h
  | bool _ h=>cases h
 | int k O o=>subst o;cases I with
  | int M m h=>cases h;exact run_equalIn_int w n T k k _ _ H
  | str _ h=>cases h
  | bool _ h=>cases h
 | bool p o=>subst o;cases I with
  | bool q _=>exact run_equalIn_bool w n T _ _ H
  | int _ _ h=>cases h
  | str _ h=>cases h
theorem a0r {P:Program}{T:TypeId}{d:TypeDesc} (I:P.underlying T=some d) {x:PV}{a:Value} (O:Key1 d x a) {A:Array Value}{off:Nat} (h:A[off]?=some a) (w:World):(part T A off).run P w=.ok a w:=by
 have J:aal P T=false:=by
  unfold aal;rw [I];cases O with
  | str _ o=>subst o;rfl
  | int _ _ o=>subst o;rfl
  | bool _ o=>subst o;rfl
 unfold part;simp only [Sem.run_bind,akv (by rw [I];rfl),Result.andThen_ok,J];have H:=(Array.getElem?_eq_some_iff.1 h).1;have M:=(Array.getElem?_eq_some_iff.1 h).2;simp [H,M]
theorem kEqL {P:Program}{A B:Array Value}{w:World} (m:Nat):∀ {n:Nat}{M:List Field}{xs:List PV}{cs:List Value},KeysL P n M xs cs->∀ {ys:List PV}{es:List Value},KeysL P n M ys es->(∀ (i:Nat) (a:Value),cs[i]?=some a->A[n+i]?=some a)->(∀ (i:Nat) (a:Value),es[i]?=some a->B[n+i]?=some a)->
 (Op.eqFields (m+1) A B M).run P w=.ok (amu xs ys) w:=by
 intro n M xs cs h
 induction h with
 | nil n=>
  intro ys es o _ _
  cases o
  simp [Op.eqFields,amu]
 | @cons n f d fs x xs a cs ho hn O hk _ ih=>
  intro ys es o Z hB
  cases o with
  | @cons _ _ d' _ y ys b es ab aa H J o=>
   rw [O] at H;cases H
   have p1:=a0r O hk (A:=A) (off:=f.offset) (by rw [ho];exact Z 0 a rfl) w
   have p2:=a0r O J (A:=B) (off:=f.offset) (by rw [ho];exact hB 0 b rfl) w
   have he:=a8m O hk J m w
   have I:=ih o (λi a I=>by rw [show n+1+i=n+(i+1) by omega];exact Z (i+1) a (by simpa using I)) (λi a I=>by rw [show n+1+i=n+(i+1) by omega];exact hB (i+1) a (by simpa using I))
   simp only [Op.eqFields,hn,ne_eq,not_false_eq_true,A9,Sem.run_bind,p1,p2,he,Result.andThen_ok,amu]
   cases ad7 x y
   ·simp
   ·simpa using I
theorem a8n {P:Program}{K:TypeId}{o:Array Field} (I:P.underlying K=some (.struct o)) {x y:PV}{a b:Value} (hx:KeyIs P K (.struct o) x a) (hy:KeyIs P K (.struct o) y b) (w:World):(Op.equal K a b).run P w=.ok (ajk x y) w:=by
 have M:∀ {x:PV}{a:Value},Key1 (.struct o) x a->False:=λh=>by cases h<;>rename_i h<;>cases h
 have J:P.fieldsOf K=o:=by simp [Program.fieldsOf,I]
 cases hx with
 | one h=>exact absurd h (λh=>M h)
 | agg O xs cs h1 h2 h3=>
  cases h1;cases hy with
  | one h=>exact absurd h (λh=>M h)
  | agg Z ys es h4 h5 h6=>cases h4;show (Op.equalIn 10000 K _ _).run P w=_;rw [run_equalIn_struct w 9999 K _ _ (by rw [J];exact I) h2,J];exact kEqL 9998 h3 h6 (λi a H=>by simpa using H) (λi a H=>by simpa using H)
def aog (P:Program) (K:TypeId) (o:Value) (l:List MapEntry) (i:Nat) (d:TypeDesc) (r:Option (Nat×Value)):Prop:=
 (∀ h,d≠.struct h)/\Instr.findNow d o l i=some r\/(∃ h,d=.struct h)/\∀ w,(Instr.findAsking K o l i).run P w=.ok r w
theorem axl {P:Program}{K:TypeId}{I:Value} (d:TypeDesc):aog P K I [] 0 d none:=by
 by_cases H:∃ o,d=.struct o
 ·exact Or.inr ⟨H,λw=>by simp [Instr.findAsking]⟩
 ·exact Or.inl ⟨λo h=>H ⟨o,h⟩,rfl⟩
theorem akg {P:Program}{K:TypeId}{d:TypeDesc} (hK:P.underlying K=some d) {k:PV}{kv:Value} (hk:KeyIs P K d k kv):∀ (l:List MapEntry) (es:List (PV×PV)) (i:Nat),l.length=es.length->
 (∀ (j:Nat) (e:MapEntry) (x:PV×PV),l[j]?=some e->es[j]?=some x->KeyIs P K d x.1 e.key)->
 (∃ (j:Nat) (x:PV×PV) (e:MapEntry),es[j]?=some x/\l[j]?=some e/\ajk k x.1=true/\PV.mget es k=some x.2/\aog P K kv l i d (some (i+j,e.val))/\(∀ v,PV.mput es k v=es.set j (x.1,v))/\PV.midx es k=j)\/
 (PV.mget es k=none/\aog P K kv l i d none/\(∀ v,PV.mput es k v=es++[(k,v)])/\PV.midx es k=es.length):=by
 intro l
 induction l with
 | nil=>
  intro es i hl _
  have:es=[]:=Bc (by simpa using hl.symm)
  subst this
  refine Or.inr ⟨rfl,?_,λv=>rfl,rfl⟩
  by_cases hd:∃ o,d=.struct o
  ·exact Or.inr ⟨hd,λw=>by simp [Instr.findAsking]⟩
  ·exact Or.inl ⟨λo h=>hd ⟨o,h⟩,rfl⟩
 | cons e r ih=>
  intro es i hl O
  cases es with
  | nil=>simp at hl
  | cons x q=>
   have hx:=O 0 e x rfl rfl
   have step:∀ (b:Bool),ajk k x.1=b->((∀ o,d≠.struct o)/\Instr.sameNow d kv e.key=some b)\/((∃ o,d=.struct o)/\∀ w,(Op.equal K kv e.key).run P w=.ok b w):=by
    rintro b rfl;by_cases hd:∃ o,d=.struct o
    ·obtain ⟨o,rfl⟩:=hd;exact Or.inr ⟨⟨o,rfl⟩,λw=>a8n hK hk hx w⟩
    ·refine Or.inl ⟨λo h=>hd ⟨o,h⟩,?_⟩;have e1:∀ {p q:PV}{a b:Value},Key1 d p a->Key1 d q b->ajk p q=ad7 p q:=λH I=>by cases H<;>rfl
     cases hk with
     | agg o _ _ h=>exact absurd ⟨o,h⟩ hd
     | one H=>
      generalize x.1=p at hx ⊢;generalize e.key=q at hx ⊢;cases hx with
      | agg o _ _ h=>exact absurd ⟨o,h⟩ hd
      | one I=>rw [e1 H I];exact a1x H I
   cases J:ajk k x.1 with
   | true=>
    refine Or.inl ⟨0,x,e,rfl,rfl,J,by simp [PV.mget,J],?_,λv=>by simp [PV.mput,J],by simp [PV.midx,J]⟩
    rcases step true J with ⟨H,I⟩ | ⟨H,I⟩
    ·exact Or.inl ⟨H,by simp [Instr.findNow,I]⟩
    ·exact Or.inr ⟨H,λw=>by simp [Instr.findAsking,I]⟩
   | false=>
    have:=ih q (i+1) (by simpa using hl) (λj e' x' H I=>O (j+1) e' x' (by simpa using H) (by simpa using I))
    have Z:∀ {r':Option (Nat×Value)},aog P K kv r (i+1) d r'->aog P K kv (e::r) i d r':=by
     intro r' h;rcases step false J with ⟨H,I⟩ | ⟨H,I⟩
     ·rcases h with ⟨_,M⟩ | ⟨⟨o,M⟩,_⟩
      ·exact Or.inl ⟨H,by simp [Instr.findNow,I,M]⟩
      ·exact absurd M (H o)
     ·rcases h with ⟨M,_⟩ | ⟨_,M⟩
      ·obtain ⟨o,h4⟩:=H;exact absurd h4 (M o)
      ·exact Or.inr ⟨H,λw=>by simp [Instr.findAsking,I,M]⟩
    rcases this with ⟨j,x',e',H,I,M,h4,h5,h6,h7⟩ | ⟨H,I,M,h7⟩
    ·refine Or.inl ⟨j+1,x',e',by simpa using H,by simpa using I,M,?_,?_,λv=>?_,by simp [PV.midx,J,h7]⟩
     ·simpa [PV.mget,J] using h4
     ·have:=Z h5;rwa [show i+1+j=i+(j+1) by omega] at this
     ·simp [PV.mput,J,h6]
    ·refine Or.inr ⟨by simpa [PV.mget,J] using H,Z I,λv=>by simp [PV.mput,J,M],by simp [PV.midx,J,h7]⟩
theorem aj1 {P:Program}{K:TypeId}{d:TypeDesc}{k:PV}{H:Value} (o:P.underlying K=some d) (I:Key1 d k H) (e:Bool) (n:Nat) (w:World):(Instr.checkKey e (n+1) K H).run P w=.ok () w:=by
 cases I with
 | str s h=>subst h;simp [Instr.checkKey,run_underlying o]
 | int J m h=>subst h;simp [Instr.checkKey,run_underlying o]
 | bool b h=>subst h;simp [Instr.checkKey,run_underlying o]
theorem acw {P:Program}{K:TypeId}{d:TypeDesc}{k:PV}{Z:Value} (J:P.underlying K=some d) (H:KeyIs P K d k Z) (e:Bool) (n:Nat) (w:World):(Instr.checkKey e (n+2) K Z).run P w=.ok () w:=by
 cases H with
 | one h=>exact aj1 J h e (n+1) w
 | agg ds xs cs hd h1 I=>
  subst hd;rw [Instr.checkKey];simp only [Sem.run_bind,run_underlying J,Result.andThen_ok];rw [<-Array.forIn_toList];have o:∀ (i:Nat) (a:Value),cs[i]?=some a->cs.toArray[0+i]?=some a:=λi a M=>by simpa using M
  clear J;generalize cs.toArray=A at o ⊢;generalize ds.toList=L at I ⊢;generalize 0=z at I o;induction I with
  | nil=>simp
  | @cons z f d fs x xs a cs ho hn O H _ ih=>have p1:=a0r O H (A:=A) (off:=f.offset) (by rw [ho];exact o 0 a rfl) w;have p2:=aj1 O H e n w;simp only [List.forIn_cons,Sem.run_bind,hn,ne_eq,not_false_eq_true,A9,Result.andThen_ok,p1,p2,Sem.run_pure];exact ih (λi a M=>by rw [show z+1+i=z+(i+1) by omega];exact o (i+1) a (by simpa using M))
theorem abt {T:TypeId} (h:aca Γ.P T=true):∃ (i:TypeInfo) (z:Value),Γ.P.info? T=some i/\i.zero=some z/\i.size=Γ.P.cellsOf T/\z.cells.size=Γ.P.cellsOf T/\z=pack Γ.P T z.cells.toList/\
 SRep Γ.P D w ow μ st (abd Γ.P 12 T) z/\(∀ c,c∈z.cells.toList->c.oneCell'=true):=by
 unfold aca at h
 cases H:Γ.P.info? T with
 | none=>grind
 | some i=>
  rw [H] at h
  simp only [Option.map_some] at h
  cases I:i.zero with
  | none=>grind
  | some z=>
   rw [I] at h
   simp only [Aj] at h
   obtain ⟨⟨J,M⟩,o⟩:=h
   obtain ⟨Z,O⟩:=ayz (P:=Γ.P) (D:=D) (ow:=ow) (μ:=μ) (st:=st) (w:=w) 12 T _ J
   have e:z=pack Γ.P T z.cells.toList:=by
    unfold pack;cases z with
    | agg cs=>simp at o;simp [o,Value.cells]
    | tuple vs=>grind [Value.cells,Value.oneCell']
    | _=>simp at o;simp [o,Value.cells]
   exact ⟨i,z,rfl,I,by simp [Program.cellsOf,H],Ae M,e,by grind,O⟩
theorem ada {P:Program}{K:TypeId}{d:TypeDesc}{H:Value}{es:List MapEntry}{r:Option (Nat×Value)} (o:P.underlying K=some d) (h:aog P K H es 0 d r) (w:World):(Instr.findKey K H es).run P w=.ok r w:=by
 rcases h with ⟨_,h⟩ | ⟨⟨I,rfl⟩,h⟩
 ·simp [Instr.findKey,run_underlying o,h]
 ·have h:=h w;cases es with
  | nil=>simp [Instr.findKey,run_underlying o,Instr.findNow];simpa [Instr.findAsking] using h
  | cons e es=>simp [Instr.findKey,run_underlying o,Instr.findNow,Instr.sameNow];exact h
theorem amz (T K E:TypeId) (hT:Γ.P.underlying T=some (.map K E)) (ks:SV) (kv:Value) (o:Bool) (Z:keyT Γ.P K=true) (hk:SRep Γ.P D w ow μ st ks kv) (aa:isOf Γ.P K ks=true) (hz:aca Γ.P E=true) (ah:isOf Γ.P E (abd Γ.P 12 E)=true)
 (r clock:Nat) (ents:Array MapEntry) (es:List (PV×PV)) (kc vc:Nat->List Value) (hh:w.heap[r]?=some (.map ents clock)) (af:ents.size=es.length)
 (h1:∀ (i:Nat) (x:PV×PV),es[i]?=some x->Rep Γ.P D w K x.1 (kc i)) (h2:∀ (i:Nat) (x:PV×PV),es[i]?=some x->Rep Γ.P D w E x.2 (vc i))
 (h3:∀ (i:Nat) (e:MapEntry),ents[i]?=some e->e.key=pack Γ.P K (kc i)/\e.val=pack Γ.P E (vc i)):
 ∃ u,(Instr.lookup T (.map (some r)) kv o).run Γ.P w=.ok u w/\SRep Γ.P D w ow μ st (ai0 Γ.P E es (toPV ks) o) u:=by
 have ae:=aba hk K aa
 have ad:=afp hk aa
 obtain ⟨d,H,h⟩:=agb Z ae
 rw [ad] at h
 obtain ⟨i,z,hi,ab,ak,al,ag,ai,aj⟩:=abt (Γ:=Γ) (D:=D) (ow:=ow) (μ:=μ) (st:=st) (w:=w) hz
 have J:∀ (j:Nat) (e:MapEntry) (x:PV×PV),ents.toList[j]?=some e->es[j]?=some x->KeyIs Γ.P K d x.1 e.key:=by intro j e x he hx;obtain ⟨d',M,hy⟩:=agb Z (h1 j x hx);rw [H] at M;cases M;rw [(h3 j e (by simpa using he)).1];exact hy
 have fin:∀ (x:PV) (val:Value),SRep Γ.P D w ow μ st (ofPV Γ.P E x) val->∀ b,PV.mhas es (toPV ks)=b->(PV.mget es (toPV ks)).getD (toPV (abd Γ.P 12 E))=x->
  SRep Γ.P D w ow μ st (ai0 Γ.P E es (toPV ks) o) (if o then .tuple #[val,.bool b] else val):=by
  intro x val hx b hb he
  unfold ai0
  rw [he,hb]
  cases o
  ·exact hx
  ·refine .tup (by simp) (λj s v O I=>?_);match j with
   | 0=>simp at O I;subst O;subst I;exact hx
   | 1=>simp at O I;subst O;subst I;exact .bool
   | (n+2)=>simp at O
 rcases akg H h ents.toList es 0 (by simpa using af) J with ⟨j,x,e,q1,q2,q3,q4,q5,_⟩ | ⟨q1,q2,_⟩
 ·have I:=(h3 j e (by simpa using q2)).2;refine ⟨if o then .tuple #[e.val,.bool true] else e.val,?_,fin x.2 e.val (by rw [I];exact (h2 j x q1).ofPV) true (by simp [PV.mhas,q4]) (by simp [q4])⟩;simp [Instr.lookup,run_underlying hT,getObj,Sem.run,hh,acw H h,ada H q5]
 ·refine ⟨if o then .tuple #[z,.bool false] else z,?_,fin (toPV (abd Γ.P 12 E)) z ?_ false (by simp [PV.mhas,q1]) (by simp [q1])⟩
  ·simp [Instr.lookup,run_underlying hT,getObj,Sem.run,hh,acw H h,ada H q2,zeroValue,typeInfo,hi,ab]
  ·have:=(aba ai E ah).ofPV (ow:=ow) (μ:=μ) (st:=st);rwa [<-ag] at this
theorem ar7 (hw:WRel Γ D ow μ st w) (T:TypeId) (m k:SV) (mv kv:Value) (J:Bool) (v:SV) (hm:SRep Γ.P D w ow μ st m mv) (Z:SRep Γ.P D w ow μ st k kv) (h:acy Γ.P T st m k J=.val true v):
 ∃ u,(Instr.lookup T mv kv J).run Γ.P w=.ok u w/\SRep Γ.P D w ow μ st v u:=by
 unfold acy at h
 split at h
 ·rename_i K E hT;cases O:(keyT Γ.P K&&isOf Γ.P K k&&aca Γ.P E&&isOf Γ.P E (abd Γ.P 12 E)) with
  | false=>rw [O] at h;simp at h
  | true=>
   rw [O] at h;simp only [Af] at h;simp only [Aj] at O;obtain ⟨⟨⟨c1,M⟩,c3⟩,c4⟩:=O;split at h
   ·rename_i K' E' es;cases o:(Nat.beq K K'&&Nat.beq E E') with
    | false=>rw [o] at h;simp at h
    | true=>
     rw [o] at h;simp only [Aj] at o;have:=Ae o.1;subst this;have:=Ae o.2;subst this;simp only [Af,Ac.val.injEq,true_and] at h;subst h;cases hm with
     | map hm=>
      cases hm with
      | nil=>
       have ad:=aba Z K M;have ab:=afp Z M;obtain ⟨d,hd,H⟩:=agb c1 ad;rw [ab] at H;obtain ⟨i,z,hi,aa,ai,aj,af,ag,ah⟩:=abt (Γ:=Γ) (D:=D) (ow:=ow) (μ:=μ) (st:=st) (w:=w) c3;have hz:=(aba ag E c4).ofPV (ow:=ow) (μ:=μ) (st:=st);rw [<-af] at hz;refine ⟨if J then .tuple #[z,.bool false] else z,?_,?_⟩
       ·simp [Instr.lookup,run_underlying hT,acw hd H,ada hd (axl d),zeroValue,typeInfo,hi,aa]
       ·unfold ai0;have e1:PV.mget [] (toPV k)=none:=rfl;have e2:PV.mhas [] (toPV k)=false:=rfl;rw [e1,e2];cases J
        ·exact hz
        ·refine .tup (by simp) (λj s v I hv=>?_);match j with
         | 0=>simp at I hv;subst I;subst hv;exact hz
         | 1=>simp at I hv;subst I;subst hv;exact .bool
         | (n+2)=>simp at I
      | mk kc vc hh hd ae h1 h2 h3=>exact amz T K E hT k kv J c1 Z M c3 c4 _ _ _ es kc vc hh ae h1 h2 h3.1
   ·rename_i j;split at h
    ·rename_i K' E' es I;cases o:(Nat.beq K K'&&Nat.beq E E') with
     | false=>rw [o] at h;simp at h
     | true=>rw [o] at h;simp only [Aj] at o;have:=Ae o.1;subst this;have:=Ae o.2;subst this;simp only [Af,Ac.val.injEq,true_and] at h;subst h;cases hm;obtain ⟨ents,clock,kc,vc,r1,_,_,r4,r5,r6,r7,r8⟩:=hw.map j K E es I;exact amz T K E hT k kv J c1 Z M c3 c4 _ _ _ es kc vc r1 r4 r5 r6 r7.1
    ·simp at h
   ·simp at h
 ·simp at h
end
end Go.Ab
namespace Go.Ab
open Go
section
variable {Γ:Ctx}{D:Dom}{ow:Own}{μ:Nat->Nat}{st:List BX}{w:World}
def adp (D:Dom) (ow:Own) (μ:Nat->Nat) (st:List BX) (fz:List Nat):Dom:=λb o=>D b o\/∃ k h,k∈fz/\st[k]?=some h/\((∃ K E es,h=.map K E es)\/∃ E g xs,h=.arr E g xs)/\ow b=some k/\μ k=b
theorem adg {fz:List Nat}{b o:Nat} (h:adp D ow μ st fz b o):D b o\/∃ k,k∈fz/\ow b=some k/\∀ g,st[k]?≠some (.acc g):=by
 rcases h with h | ⟨k,O,H,I,J,M,Z⟩
 ·exact Or.inl h
 ·refine Or.inr ⟨k,H,M,λg e=>?_⟩;rw [I] at e;cases e;rcases J with ⟨K,E,es,h⟩ | ⟨E,g,xs,h⟩<;>cases h
theorem aht (fz:List Nat):Moves D w ow μ st (adp D ow μ st fz) w ow μ st:=by
 refine ⟨λ_ _ d=>Or.inl d,Keeps.refl _ _,λk T s e=>⟨rfl,s,e⟩,λk K E es e=>⟨rfl,es,e⟩,λk b e _=>⟨rfl,b,e,rfl⟩,λk E g xs e=>⟨g,xs,e,Nat.le_refl _,λ_=>⟨rfl,ArrKeep.refl _ _ _ _ _⟩⟩,λk g e=>⟨g,e,Nat.le_refl _,λ_ b H=>⟨rfl,H,λo d=>?_⟩⟩⟩;rcases adg d with d | ⟨M,J,h,I⟩
 ·exact d
 ·rw [H] at h;cases h;exact absurd e (I g)
theorem az6 {k g:Nat}{E:TypeId}{xs:List PV}{v:Value}{fz:List Nat} (hw:WRel Γ D ow μ st w) (h:SRep Γ.P D w ow μ st (.arr k g E) v) (Z:agv st k g E=some xs) (hf:k∈fz):SRep Γ.P (adp D ow μ st fz) w ow μ st (.slice E xs) v:=by
 have m:Moves D w ow μ st (adp D ow μ st fz) w ow μ st:=aht fz;have I:=adr Z;cases h with
 | arrOld o J=>rw [I] at o;cases o;omega
 | arrNil o=>rw [I] at o;cases o;exact .slice (.nil λ_=>rfl)
 | @arr _ _ cap _ _ H o hl ab hc ho ad=>
  rw [I] at o;cases o;have M:xs.length*Γ.P.cellsOf E<=H.size/\∀ (i:Nat) (x:PV),xs[i]?=some x->Rep Γ.P D w E x ((H.toList.drop (i*Γ.P.cellsOf E)).take (Γ.P.cellsOf E)):=by
   rcases hw.obj k _ I with h0 | ⟨aa,q1,q2,q3,q4,q5⟩
   ·subst h0;exact ⟨by simp,λi x O=>by simp at O⟩
   ·rw [hc] at q1;cases q1;exact ⟨q4,q5⟩
  refine .slice (.mk (L:=H.toList.take (xs.length*Γ.P.cellsOf E)) hl (by simp;omega) (λi x O=>?_) (λj v hj=>?_))
  ·have h2:(i+1)*Γ.P.cellsOf E<=xs.length*Γ.P.cellsOf E:=Aw _ (by have:=(Bg.1 O).1;omega);rw [Nat.add_mul] at h2;rw [List.drop_take,List.take_take,Nat.min_eq_left (by omega)];exact (M.2 i x O).mono m.dom m.keeps
  ·have J:j<xs.length*Γ.P.cellsOf E:=by have:=(Bg.1 hj).1;simp at this;omega
   rw [List.getElem?_take_of_lt J] at hj;refine ⟨Or.inr ⟨k,_,hf,I,Or.inr ⟨E,g,xs,rfl⟩,ho,rfl⟩,?_⟩;simp only [World.cell?,hc];simpa using hj
theorem aq4 {k:Nat}{s:SV}:∀ {o:List SV}{i:Nat},o[i]?=some s->k∈al9 s->k∈aph o:=by
 intro o;induction o with
 | nil=>intro i h;simp at h
 | cons x r I=>
  intro i h H;cases i with
  | zero=>simp at h;subst h;simp [aph,H]
  | succ i=>simp only [aph,Bo];exact Or.inr (I (by simpa using h) H)
theorem av6:∀ (h:List SV) (i:Nat),(frzL st h)[i]?=(h[i]?).map (frzS st):=by
 intro h;induction h with
 | nil=>intro i;simp [frzL]
 | cons x r o=>intro i;cases i with
  | zero=>simp [frzL]
  | succ i=>simpa [frzL] using o i
theorem amo:∀ (h:List SV),(frzL st h).length=h.length:=by
 intro h;induction h with
 | nil=>rfl
 | cons x r o=>simp [frzL,o]
theorem aki {fz:List Nat} (hw:WRel Γ D ow μ st w) {s:SV}{v:Value} (h:SRep Γ.P D w ow μ st s v):(∀ k,k∈al9 s->k∈fz)->SRep Γ.P (adp D ow μ st fz) w ow μ st (frzS st s) v:=by
 have m:Moves D w ow μ st (adp D ow μ st fz) w ow μ st:=aht fz;have J:∀ (k g:Nat) (E:TypeId) (v:Value),SRep Γ.P D w ow μ st (.arr k g E) v->k∈fz->SRep Γ.P (adp D ow μ st fz) w ow μ st (frzS st (.arr k g E)) v:=by
  intro k g E v h M;simp only [frzS];split
  ·rename_i xs aa;exact az6 hw h aa M
  ·exact .undef
 induction h with
 | agg hT hl ho hv hs ih=>intro M;simp only [frzS];refine .agg hT hl ho (by rw [amo];exact hv) (λi x f hx ab=>?_);rw [av6] at hx;obtain ⟨y,hy,rfl⟩:=Option.map_eq_some_iff.1 hx;exact ih i y f hy ab (λk hk=>M k (by simp only [al9];exact aq4 hy hk))
 | arrOld o H I=>intro M;exact J _ _ _ _ (.arrOld o H I) (M _ (by simp [al9]))
 | arrNil o=>intro M;exact J _ _ _ _ (.arrNil o) (M _ (by simp [al9]))
 | arr o H I O Z h6=>intro M;exact J _ _ _ _ (.arr o H I O Z h6) (M _ (by simp [al9]))
 | undef=>intro _;exact .undef
 | bool=>intro _;exact .bool
 | int=>intro _;exact .int
 | str=>intro _;exact .str
 | slice h=>intro _;exact (SRep.slice h).mono m
 | data o H=>intro _;exact (SRep.data o H).mono m
 | map h=>intro _;exact (SRep.map h).mono m
 | nils=>intro _;exact .nils
 | acc o H I O=>intro _;exact (SRep.acc o H I O).mono m
 | ref o H=>intro _;exact .ref o H
 | @mref k K E es o=>intro M;simp only [frzS,o];obtain ⟨ents,clock,kc,vc,r1,r2,r3,r4,r5,r6,r7,_⟩:=hw.map k K E es o;exact .map (.mk kc vc r1 (Or.inr ⟨k,_,M k (by simp [al9]),o,Or.inl ⟨K,E,es,rfl⟩,r2,rfl⟩) r4 (λi x a=>(r5 i x a).mono m.dom m.keeps) (λi x a=>(r6 i x a).mono m.dom m.keeps) r7)
 | iref o=>intro _;exact .iref o
 | mitr o=>intro _;exact .mitr o
 | bref o=>intro _;exact .bref o
 | nx o H=>intro _;exact .nx o H
 | eif o H=>intro _;exact .eif o H
 | pto o H=>intro _;exact (SRep.pto o H).mono m
 | fn o H I _=>intro _;exact (SRep.fn o H I).mono m
 | tup o H _=>intro _;exact (SRep.tup o H).mono m
 | raw=>intro _;exact .raw
 | lit h=>intro _;exact (SRep.lit h).mono m
 | sln h=>intro _;exact (SRep.sln h).mono m
 | arefOld o H I=>intro _;exact .arefOld o H I
 | aref o H I O Z=>intro _;exact .aref o H I O Z
 | eref o H I=>intro _;exact .eref o H I
 | asl o H I O=>intro _;exact .asl o H I O
 | ifc h _=>intro _;exact (SRep.ifc h).mono m
def aov (ow:Own) (k:Nat):Own:=λb=>if ow b=some k then none else ow b
theorem owLess_some {k b j:Nat}:aov ow k b=some j ↔ ow b=some j/\j≠k:=by
 unfold aov;by_cases h:ow b=some k
 ·rw [if_pos h,h];simp;exact λe=>e.symm
 ·rw [if_neg h];exact ⟨λe=>⟨e,λo=>h (by rw [e,o])⟩,λe=>e.1⟩
theorem WRel.freezeRow (I:WRel Γ D ow μ st w) {k g:Nat}{E:TypeId}{xs:List PV} (hk:st[k]?=some (.arr E g xs)):
 WRel Γ (adp D ow μ st [k]) (aov ow k) μ (st.set k (.arr E (g+1) [])) w/\Moves D w ow μ st (adp D ow μ st [k]) w (aov ow k) μ (st.set k (.arr E (g+1) [])):=by
 have ad:=(Bg.1 hk).1
 have ne:∀ {j:Nat}{y:BX},st[j]?=some y->j≠k->(st.set k (.arr E (g+1) []))[j]?=some y:=λe H=>by rw [Aq (by omega)];exact e
 have M:∀ {j:Nat}{y:BX},(st.set k (.arr E (g+1) []))[j]?=some y->j≠k->st[j]?=some y:=λe H=>by rwa [Aq (by omega)] at e
 have J:(st.set k (.arr E (g+1) []))[k]?=some (.arr E (g+1) []):=by rw [List.getElem?_set_self ad]
 have hD:∀ {b j:Nat}{o:Nat},ow b=some j->j≠k->adp D ow μ st [k] b o->D b o:=λO H d=>by
  rcases adg d with d | ⟨k',h1,h2,_⟩
  ·exact d
  ·simp at h1;subst h1;rw [O] at h2;cases h2;exact absurd rfl H
 have m:Moves D w ow μ st (adp D ow μ st [k]) w (aov ow k) μ (st.set k (.arr E (g+1) [])):=by
  refine ⟨λ_ _ d=>Or.inl d,Keeps.refl _ _,λj T x e=>⟨rfl,x,?_⟩,λj K E es e=>⟨rfl,es,?_⟩,λj b e hs=>⟨rfl,?_⟩,λj E1 g1 af e=>?_,λj g1 e=>?_⟩
  ·exact ne e (λH=>by subst H;rw [hk] at e;cases e)
  ·exact ne e (λH=>by subst H;rw [hk] at e;cases e)
  ·by_cases H:j=k
   ·subst H;rw [hk] at e;cases e;exact ⟨_,J,rfl⟩
   ·exact ⟨b,ne e H,rfl⟩
  ·by_cases H:j=k
   ·subst H;rw [hk] at e;cases e;exact ⟨g+1,[],J,by omega,λh=>by omega⟩
   ·exact ⟨g1,af,ne e H,Nat.le_refl _,λ_=>⟨rfl,λab hc ae=>⟨rfl,owLess_some.2 ⟨ae,H⟩,ab,hc,rfl⟩⟩⟩
  ·have H:j≠k:=λH=>by subst H;rw [hk] at e;cases e
   exact ⟨g1,ne e H,Nat.le_refl _,λ_ b O=>⟨rfl,owLess_some.2 ⟨O,H⟩,λo d=>hD O H d⟩⟩
 have Z:∀ j,j<Γ.np->∃ b,(st.set k (.arr E (g+1) []))[j]?=some b/\b.kind=Γ.K0 j:=by
  intro j H;obtain ⟨x,hx,p1⟩:=I.par j H;by_cases aa:j=k
  ·subst aa;rw [hk] at hx;cases hx;exact ⟨_,J,p1⟩
  ·exact ⟨x,ne hx aa,p1⟩
 refine ⟨⟨λj T x e=>?_,λj K E es e=>?_,λj x e=>?_,λb j O=>?_,λb o d=>?_,I.os,I.tape,I.output,I.hs,I.old,λb o d=>Or.inl (I.dom0 b o d),λb o d=>?_,λb j O hb=>I.owN b j (owLess_some.1 O).1 hb,by simpa using I.np,I.mu0,Z,λb j y O e hy o d=>?_,I.keep0,I.arr0_moves m Z⟩,m⟩
 ·have H:j≠k:=λH=>by subst H;rw [J] at e;cases e
  obtain ⟨c,T1,q1,q2,q3,q4,q5⟩:=I.box j T x (M e H);exact BoxRep.mono ⟨c,T1,q1,q2,q3,q4,q5⟩ m rfl rfl (owLess_some.2 ⟨q3,H⟩) (λo d=>q4 o (hD q3 H d))
 ·have H:j≠k:=λH=>by subst H;rw [J] at e;cases e
  obtain ⟨ents,clock,kc,vc,q1,q2,q3⟩:=I.map j K E es (M e H);exact OMapRep.mono ⟨ents,clock,kc,vc,q1,q2,q3⟩ m.dom m.keeps rfl rfl (owLess_some.2 ⟨q2,H⟩) (λo d=>q3.1 o (hD q2 H d))
 ·by_cases H:j=k
  ·subst H;rw [J] at e;cases e;exact Or.inl rfl
  ·exact (I.obj j x (M e H)).mono m.dom m.keeps (λ_=>rfl) (λc oc=>⟨rfl,owLess_some.2 ⟨oc,H⟩,λo d=>hD oc H d⟩)
 ·have:=I.owlt b j (owLess_some.1 O).1;simpa using this
 ·rcases adg d with d | ⟨k',h1,h2,_⟩
  ·exact I.dlt b o d
  ·exact (I.owlt b k' h2).1
 ·rcases adg d with d | ⟨k',h1,h2,_⟩
  ·exact I.domN b o d
  ·by_cases hb:b<Γ.B
   ·exact Or.inr (Or.inr (by rw [I.owN b k' h2 hb];simp))
   ·exact Or.inr (Or.inl (by omega))
 ·obtain ⟨o1,o2⟩:=owLess_some.1 O;exact I.lone b j y o1 (M e o2) hy o (hD o1 o2 d)
end
end Go.Ab
