/- Maps. -/
import Derived.Test.YtodichgnoiaanaaGreatAbMem
set_option linter.unusedVariables false
set_option linter.unusedSimpArgs false
set_option linter.unnecessarySimpa false
namespace Go.Ab
open Go
section
variable {Γ:Ctx}{D:Dom}{ow:Own}{μ:Nat->Nat}{st:List BX}{w:World}
theorem afa {P:Program}{s:SV}{v:Value}{T:TypeId} (h:SRep P D w ow μ st s v) (hi:isOf P T s=true):pack P T v.cells.toList=v:=by
 have one:∀ {u:Value},u.oneCell'=true->aaj P T=false->pack P T u.cells.toList=u:=by
  intro u hu ha
  rw [adx hu];simp [pack,ha]
 cases h with
 | data ha hr=>
  simp only [isOf] at hi
  have:=Nat.eq_of_beq_eq_true hi;subst this
  simp [Value.cells,pack,ha]
 | agg hT hl ho hv hp=>
  simp only [isOf,Bool.and_eq_true] at hi
  have:=Nat.eq_of_beq_eq_true hi.1.1;subst this
  simp [Value.cells,pack,aaj,hT]
 | bool=>unfold isOf at hi;split at hi<;>first | cases hi | skip
         rename_i hT;exact one rfl (by simp [aaj,hT])
 | int=>unfold isOf at hi;split at hi<;>first | cases hi | skip
        rename_i hT;exact one rfl (by simp [aaj,hT])
 | str=>unfold isOf at hi;split at hi<;>first | cases hi | skip
        rename_i hT;exact one rfl (by simp [aaj,hT])
 | slice hs=>unfold isOf at hi;split at hi<;>first | cases hi | skip
             rename_i hT;cases hs<;>exact one rfl (by simp [aaj,hT])
 | map hs=>unfold isOf at hi;split at hi<;>first | cases hi | skip
           rename_i hT;cases hs<;>exact one rfl (by simp [aaj,hT])
 | lit hs=>unfold isOf at hi;split at hi<;>first | cases hi | skip
           rename_i hT;exact one rfl (by simp [aaj,hT])
 | nils=>unfold isOf at hi;split at hi<;>first | cases hi | skip
         rename_i hT;exact one rfl (by simp [aaj,hT])
 | acc hs=>unfold isOf at hi;split at hi<;>first | cases hi | skip
           rename_i hT;cases hs<;>exact one rfl (by simp [aaj,hT])
 | raw=>
  simp only [isOf,Bool.and_eq_true] at hi
  refine one hi.2 ?_
  have h1:=hi.1
  unfold rawT at h1;unfold aaj
  split at h1<;>simp_all
 | undef=>simp [isOf] at hi
 | ifc=>simp [isOf] at hi
 | ref=>simp [isOf] at hi
 | mref=>simp [isOf] at hi
 | iref=>simp [isOf] at hi
 | mitr=>simp [isOf] at hi
 | sln=>simp [isOf] at hi
 | bref=>simp [isOf] at hi
 | nx=>simp [isOf] at hi
 | arrOld=>simp [isOf] at hi
 | arrNil=>simp [isOf] at hi
 | arr=>simp [isOf] at hi
 | arefOld=>simp [isOf] at hi
 | aref=>simp [isOf] at hi
 | eref=>simp [isOf] at hi
 | asl=>simp [isOf] at hi
 | eif=>simp [isOf] at hi
 | pto=>simp [isOf] at hi
 | fn=>simp [isOf] at hi
 | tup=>simp [isOf] at hi
theorem au7 (x y:List UInt8):((⟨x.toArray⟩:ByteArray)==⟨y.toArray⟩)=(x==y):=by
 show (x.toArray==y.toArray)=_
 simp
inductive Key1 (d:TypeDesc):PV->Value->Prop
 | str (s:List UInt8):d=.string->Key1 d (.str s) (.string ⟨s.toArray⟩)
 | int (k:IntKind) (n:Int):d=.int k->Key1 d (.int n) (.int k n)
 | bool (b:Bool):d=.bool->Key1 d (.bool b) (.bool b)
inductive KeysL (P:Program):Nat->List Field->List PV->List Value->Prop
 | nil (n:Nat):KeysL P n [] [] []
 | cons {n:Nat}{f:Field}{d:TypeDesc}{fs:List Field}{x:PV}{xs:List PV}{a:Value}{cs:List Value}:f.offset=n->f.name≠ "_"->P.underlying f.type=some d->Key1 d x a->KeysL P (n+1) fs xs cs->KeysL P n (f::fs) (x::xs) (a::cs)
inductive KeyIs (P:Program) (K:TypeId) (d:TypeDesc):PV->Value->Prop
 | one {x:PV}{a:Value}:Key1 d x a->KeyIs P K d x a
 | agg (ds:Array Field) (xs:List PV) (cs:List Value):d=.struct ds->P.stoodInHeld K=false->KeysL P 0 ds.toList xs cs->KeyIs P K d (.agg xs) (.agg cs.toArray)
theorem azu {P:Program}{K:TypeId} (hk:asf P K=true) {x:PV}{cs:List Value} (h:Rep P D w K x cs):∃ d,P.underlying K=some d/\Key1 d x (pack P K cs):=by
 unfold asf at hk
 cases h with
 | bool hT=>exact ⟨_,hT,by simp only [pack,aaj,hT];exact .bool _ rfl⟩
 | int hT=>exact ⟨_,hT,by simp only [pack,aaj,hT];exact .int _ _ rfl⟩
 | str hT=>exact ⟨_,hT,by simp only [pack,aaj,hT];exact .str _ rfl⟩
 | nil hT=>rw [hT] at hk;cases hk
 | slice hT=>rw [hT] at hk;cases hk
 | agg hT=>rw [hT] at hk;cases hk
 | arr hT=>rw [hT] at hk;cases hk
 | mapnil hT=>rw [hT] at hk;cases hk
 | map _ _ hT=>rw [hT] at hk;cases hk
 | raw hr=>unfold rawT at hr;split at hk<;>simp_all
theorem a6x {P:Program}{K:TypeId} (hk:asf P K=true):aaj P K=false:=by
 unfold asf at hk;unfold aaj
 split at hk<;>simp_all
theorem a2z {P:Program}{cs:List Value}:∀ (ds:List Field) (n:Nat) (xs:List PV) (m:Nat),ab3 P ds n=some m->cs.length=m->(∀ f,f∈ds->asf P f.type=true/\f.name≠ "_")->xs.length=ds.length->
 (∀ (i:Nat) (v:PV) (f:Field),xs[i]?=some v->ds[i]?=some f->Rep P D w f.type v ((cs.drop f.offset).take (P.cellsOf f.type)))->n<=m/\KeysL P n ds xs (cs.drop n):=by
 intro ds
 induction ds with
 | nil=>
  intro n xs m h hl _ hx _
  have:xs=[]:=List.eq_nil_of_length_eq_zero hx
  subst this
  simp [ab3] at h
  subst h
  refine ⟨Nat.le_refl _,?_⟩
  rw [<-hl,List.drop_length]
  exact .nil _
 | cons f ds ih=>
  intro n xs m h hl hs hx hr
  match xs,hx with
  | x::xs,hx=>
   simp only [ab3] at h
   cases hc:(Nat.beq f.offset n&&!(Nat.beq (P.cellsOf f.type) 0)&&(aaj P f.type||Nat.beq (P.cellsOf f.type) 1)) with
   | false=>rw [hc] at h;cases h
   | true=>
    rw [hc] at h
    simp only [cond_true] at h
    simp only [Bool.and_eq_true] at hc
    have ho:=Nat.eq_of_beq_eq_true hc.1.1
    obtain ⟨s1,s2⟩:=hs f (by simp)
    have h1:P.cellsOf f.type=1:=by
     have h2:=hc.2
     rw [a6x s1,Bool.false_or] at h2
     exact Nat.eq_of_beq_eq_true h2
    rw [h1] at h
    obtain ⟨hle,hk⟩:=ih (n+1) xs m h hl (fun g hg=>hs g (by simp [hg])) (by simpa using hx) (fun i v g h3 h4=>hr (i+1) v g (by simpa using h3) (by simpa using h4))
    have hrep:=hr 0 x f rfl rfl
    obtain ⟨d,hd,hkey⟩:=azu s1 hrep
    have hlt:n<cs.length:=by omega
    rw [h1,ho,List.drop_eq_getElem_cons hlt] at hkey
    refine ⟨by omega,?_⟩
    rw [List.drop_eq_getElem_cons hlt]
    refine .cons ho s2 hd ?_ hk
    have:pack P f.type (List.take 1 (cs[n]::List.drop (n+1) cs))=cs[n]:=by unfold pack;rw [a6x s1];rfl
    rw [this] at hkey
    exact hkey
theorem afu {P:Program}{K:TypeId} (hk:keyT P K=true) {x:PV}{cs:List Value} (h:Rep P D w K x cs):∃ d,P.underlying K=some d/\KeyIs P K d x (pack P K cs):=by
 by_cases hs:asf P K=true
 ·obtain ⟨d,h1,h2⟩:=azu hs h
  exact ⟨d,h1,.one h2⟩
 ·unfold keyT at hk
  unfold asf at hs
  split at hk
  ·rename_i hT;rw [hT] at hs;exact absurd rfl hs
  ·rename_i hT;rw [hT] at hs;exact absurd rfl hs
  ·rename_i hT;rw [hT] at hs;exact absurd rfl hs
  ·rename_i ds hT
   simp only [Bool.and_eq_true,Bool.not_eq_true'] at hk
   obtain ⟨⟨k1,k2⟩,k3⟩:=hk
   refine ⟨_,hT,?_⟩
   cases h with
   | agg hT1 hl ho hv hp=>
    rename_i fs vs
    rw [hT] at hT1;cases hT1
    unfold abz at k1
    rw [hT] at k1
    dsimp only at k1
    cases hlf:ab3 P ds.toList 0 with
    | none=>rw [hlf] at k1;cases k1
    | some n=>
     rw [hlf] at k1
     have hn:=Nat.eq_of_beq_eq_true k1
     have:=(a2z (cs:=cs) ds.toList 0 vs n hlf (by rw [hl,hn]) (fun f hf=>by
      have:=List.all_eq_true.1 k2 f hf
      simpa using this) (by simpa using hv) (fun i v f h1 h2=>hp i v f h1 (by simpa using h2))).2
     rw [List.drop_zero] at this
     have e:pack P K cs=.agg cs.toArray:=by simp [pack,aaj,hT]
     rw [e]
     exact .agg ds vs cs rfl k3 this
   | bool hT1=>rw [hT] at hT1;cases hT1
   | int hT1=>rw [hT] at hT1;cases hT1
   | str hT1=>rw [hT] at hT1;cases hT1
   | nil hT1=>rw [hT] at hT1;cases hT1
   | slice hT1=>rw [hT] at hT1;cases hT1
   | arr hT1=>rw [hT] at hT1;cases hT1
   | mapnil hT1=>rw [hT] at hT1;cases hT1
   | map _ _ hT1=>rw [hT] at hT1;cases hT1
   | raw hr=>unfold rawT at hr;rw [hT] at hr;cases hr
  ·cases hk
theorem a05 {d:TypeDesc}{x y:PV}{a b:Value} (hx:Key1 d x a) (hy:Key1 d y b):Instr.sameNow d a b=some (adt x y):=by
 cases hx with
 | str s hd=>subst hd;cases hy with
  | str t _=>simp [Instr.sameNow,adt,au7]
  | int _ _ h=>cases h
  | bool _ h=>cases h
 | int k n hd=>subst hd;cases hy with
  | int k' m h=>cases h;simp [Instr.sameNow,adt]
  | str _ h=>cases h
  | bool _ h=>cases h
 | bool p hd=>subst hd;cases hy with
  | bool q _=>simp [Instr.sameNow,adt]
  | int _ _ h=>cases h
  | str _ h=>cases h
theorem a5k {P:Program}{T:TypeId}{d:TypeDesc} (hT:P.underlying T=some d) {x y:PV}{a b:Value} (hx:Key1 d x a) (hy:Key1 d y b) (n:Nat) (w:World):(Op.equalIn (n+1) T a b).run P w=.ok (adt x y) w:=by
 cases hx with
 | str s hd=>subst hd;cases hy with
  | str t _=>rw [run_equalIn_string w n T _ _ hT];simp [ByteArray.toList_mk,adt]
  | int _ _ h=>cases h
  | bool _ h=>cases h
 | int k n' hd=>subst hd;cases hy with
  | int k' m h=>cases h;exact run_equalIn_int w n T k k _ _ hT
  | str _ h=>cases h
  | bool _ h=>cases h
 | bool p hd=>subst hd;cases hy with
  | bool q _=>exact run_equalIn_bool w n T _ _ hT
  | int _ _ h=>cases h
  | str _ h=>cases h
theorem azt {P:Program}{T:TypeId}{d:TypeDesc} (hT:P.underlying T=some d) {x:PV}{a:Value} (hx:Key1 d x a) {A:Array Value}{off:Nat} (h:A[off]?=some a) (w:World):(part T A off).run P w=.ok a w:=by
 have ha:aaj P T=false:=by
  unfold aaj
  rw [hT]
  cases hx with
  | str _ hd=>subst hd;rfl
  | int _ _ hd=>subst hd;rfl
  | bool _ hd=>subst hd;rfl
 unfold part
 simp only [Sem.run_bind,akh (by rw [hT];rfl),Result.andThen_ok,ha]
 have hlt:=(Array.getElem?_eq_some_iff.1 h).1
 have hv:=(Array.getElem?_eq_some_iff.1 h).2
 simp [hlt,hv]
theorem kEqL {P:Program}{A B:Array Value}{w:World} (m:Nat):∀ {n:Nat}{ds:List Field}{xs:List PV}{cs:List Value},KeysL P n ds xs cs->∀ {ys:List PV}{es:List Value},KeysL P n ds ys es->(∀ (i:Nat) (a:Value),cs[i]?=some a->A[n+i]?=some a)->(∀ (i:Nat) (a:Value),es[i]?=some a->B[n+i]?=some a)->
 (Op.eqFields (m+1) A B ds).run P w=.ok (al4 xs ys) w:=by
 intro n ds xs cs h
 induction h with
 | nil n=>
  intro ys es h2 _ _
  cases h2
  simp [Op.eqFields,al4]
 | @cons n f d fs x xs a cs ho hn hT hk _ ih=>
  intro ys es h2 hA hB
  cases h2 with
  | @cons _ _ d' _ y ys b es ho' hn' hT' hk' h2=>
   rw [hT] at hT';cases hT'
   have p1:=azt hT hk (A:=A) (off:=f.offset) (by rw [ho];exact hA 0 a rfl) w
   have p2:=azt hT hk' (A:=B) (off:=f.offset) (by rw [ho];exact hB 0 b rfl) w
   have he:=a5k hT hk hk' m w
   have hi:=ih h2 (fun i a hi=>by rw [show n+1+i=n+(i+1) by omega];exact hA (i+1) a (by simpa using hi)) (fun i a hi=>by rw [show n+1+i=n+(i+1) by omega];exact hB (i+1) a (by simpa using hi))
   simp only [Op.eqFields,hn,ne_eq,not_false_eq_true,if_true,Sem.run_bind,p1,p2,he,Result.andThen_ok,al4]
   cases adt x y
   ·simp
   ·simpa using hi
theorem a5l {P:Program}{K:TypeId}{ds:Array Field} (hK:P.underlying K=some (.struct ds)) {x y:PV}{a b:Value} (hx:KeyIs P K (.struct ds) x a) (hy:KeyIs P K (.struct ds) y b) (w:World):(Op.equal K a b).run P w=.ok (ai0 x y) w:=by
 have no:∀ {x:PV}{a:Value},Key1 (.struct ds) x a->False:=fun h=>by cases h<;>rename_i h<;>cases h
 have hf:P.fieldsOf K=ds:=by simp [Program.fieldsOf,hK]
 cases hx with
 | one h=>exact absurd h (fun h=>no h)
 | agg ds1 xs cs h1 h2 h3=>
  cases h1
  cases hy with
  | one h=>exact absurd h (fun h=>no h)
  | agg ds2 ys es h4 h5 h6=>
   cases h4
   show (Op.equalIn 10000 K _ _).run P w=_
   rw [run_equalIn_struct w 9999 K _ _ (by rw [hf];exact hK) h2,hf]
   exact kEqL 9998 h3 h6 (fun i a hi=>by simpa using hi) (fun i a hi=>by simpa using hi)
def an0 (P:Program) (K:TypeId) (kv:Value) (l:List MapEntry) (i:Nat) (d:TypeDesc) (r:Option (Nat×Value)):Prop:=
 (∀ ds,d≠.struct ds)/\Instr.findNow d kv l i=some r∨(∃ ds,d=.struct ds)/\∀ w,(Instr.findAsking K kv l i).run P w=.ok r w
theorem awz {P:Program}{K:TypeId}{kv:Value} (d:TypeDesc):an0 P K kv [] 0 d none:=by
 by_cases hd:∃ ds,d=.struct ds
 ·exact Or.inr ⟨hd,fun w=>by simp [Instr.findAsking]⟩
 ·exact Or.inl ⟨fun ds h=>hd ⟨ds,h⟩,rfl⟩
theorem aj7 {P:Program}{K:TypeId}{d:TypeDesc} (hK:P.underlying K=some d) {k:PV}{kv:Value} (hk:KeyIs P K d k kv):∀ (l:List MapEntry) (es:List (PV×PV)) (i:Nat),l.length=es.length->
 (∀ (j:Nat) (e:MapEntry) (x:PV×PV),l[j]?=some e->es[j]?=some x->KeyIs P K d x.1 e.key)->
 (∃ (j:Nat) (x:PV×PV) (e:MapEntry),es[j]?=some x/\l[j]?=some e/\ai0 k x.1=true/\PV.mget es k=some x.2/\an0 P K kv l i d (some (i+j,e.val))/\(∀ v,PV.mput es k v=es.set j (x.1,v))/\PV.midx es k=j)∨
 (PV.mget es k=none/\an0 P K kv l i d none/\(∀ v,PV.mput es k v=es++[(k,v)])/\PV.midx es k=es.length):=by
 intro l
 induction l with
 | nil=>
  intro es i hl _
  have:es=[]:=List.eq_nil_of_length_eq_zero (by simpa using hl.symm)
  subst this
  refine Or.inr ⟨rfl,?_,fun v=>rfl,rfl⟩
  by_cases hd:∃ ds,d=.struct ds
  ·exact Or.inr ⟨hd,fun w=>by simp [Instr.findAsking]⟩
  ·exact Or.inl ⟨fun ds h=>hd ⟨ds,h⟩,rfl⟩
 | cons e r ih=>
  intro es i hl hall
  cases es with
  | nil=>simp at hl
  | cons x q=>
   have hx:=hall 0 e x rfl rfl
   have step:∀ (b:Bool),ai0 k x.1=b->((∀ ds,d≠.struct ds)/\Instr.sameNow d kv e.key=some b)∨((∃ ds,d=.struct ds)/\∀ w,(Op.equal K kv e.key).run P w=.ok b w):=by
    rintro b rfl
    by_cases hd:∃ ds,d=.struct ds
    ·obtain ⟨ds,rfl⟩:=hd
     exact Or.inr ⟨⟨ds,rfl⟩,fun w=>a5l hK hk hx w⟩
    ·refine Or.inl ⟨fun ds h=>hd ⟨ds,h⟩,?_⟩
     have e1:∀ {p q:PV}{a b:Value},Key1 d p a->Key1 d q b->ai0 p q=adt p q:=fun h1 h2=>by cases h1<;>rfl
     cases hk with
     | agg ds _ _ h=>exact absurd ⟨ds,h⟩ hd
     | one h1=>
      generalize x.1=p at hx ⊢
      generalize e.key=q at hx ⊢
      cases hx with
      | agg ds _ _ h=>exact absurd ⟨ds,h⟩ hd
      | one h2=>rw [e1 h1 h2];exact a05 h1 h2
   cases hb:ai0 k x.1 with
   | true=>
    refine Or.inl ⟨0,x,e,rfl,rfl,hb,by simp [PV.mget,hb],?_,fun v=>by simp [PV.mput,hb],by simp [PV.midx,hb]⟩
    rcases step true hb with ⟨h1,h2⟩ | ⟨h1,h2⟩
    ·exact Or.inl ⟨h1,by simp [Instr.findNow,h2]⟩
    ·exact Or.inr ⟨h1,fun w=>by simp [Instr.findAsking,h2]⟩
   | false=>
    have:=ih q (i+1) (by simpa using hl) (fun j e' x' h1 h2=>hall (j+1) e' x' (by simpa using h1) (by simpa using h2))
    have lift:∀ {r':Option (Nat×Value)},an0 P K kv r (i+1) d r'->an0 P K kv (e::r) i d r':=by
     intro r' h
     rcases step false hb with ⟨h1,h2⟩ | ⟨h1,h2⟩
     ·rcases h with ⟨_,h3⟩ | ⟨⟨ds,h3⟩,_⟩
      ·exact Or.inl ⟨h1,by simp [Instr.findNow,h2,h3]⟩
      ·exact absurd h3 (h1 ds)
     ·rcases h with ⟨h3,_⟩ | ⟨_,h3⟩
      ·obtain ⟨ds,h4⟩:=h1;exact absurd h4 (h3 ds)
      ·exact Or.inr ⟨h1,fun w=>by simp [Instr.findAsking,h2,h3]⟩
    rcases this with ⟨j,x',e',h1,h2,h3,h4,h5,h6,h7⟩ | ⟨h1,h2,h3,h7⟩
    ·refine Or.inl ⟨j+1,x',e',by simpa using h1,by simpa using h2,h3,?_,?_,fun v=>?_,by simp [PV.midx,hb,h7]⟩
     ·simpa [PV.mget,hb] using h4
     ·have:=lift h5
      rwa [show i+1+j=i+(j+1) by omega] at this
     ·simp [PV.mput,hb,h6]
    ·refine Or.inr ⟨by simpa [PV.mget,hb] using h1,lift h2,fun v=>by simp [PV.mput,hb,h3],by simp [PV.midx,hb,h7]⟩
theorem ajm {P:Program}{K:TypeId}{d:TypeDesc}{k:PV}{kv:Value} (hK:P.underlying K=some d) (hk:Key1 d k kv) (e:Bool) (n:Nat) (w:World):(Instr.checkKey e (n+1) K kv).run P w=.ok () w:=by
 cases hk with
 | str s hd=>subst hd;simp [Instr.checkKey,run_underlying hK]
 | int k' m hd=>subst hd;simp [Instr.checkKey,run_underlying hK]
 | bool b hd=>subst hd;simp [Instr.checkKey,run_underlying hK]
theorem ack {P:Program}{K:TypeId}{d:TypeDesc}{k:PV}{kv:Value} (hK:P.underlying K=some d) (hk:KeyIs P K d k kv) (e:Bool) (n:Nat) (w:World):(Instr.checkKey e (n+2) K kv).run P w=.ok () w:=by
 cases hk with
 | one h=>exact ajm hK h e (n+1) w
 | agg ds xs cs hd h1 h2=>
  subst hd
  rw [Instr.checkKey]
  simp only [Sem.run_bind,run_underlying hK,Result.andThen_ok]
  rw [<-Array.forIn_toList]
  have hA:∀ (i:Nat) (a:Value),cs[i]?=some a->cs.toArray[0+i]?=some a:=fun i a hi=>by simpa using hi
  clear hK
  generalize cs.toArray=A at hA ⊢
  generalize ds.toList=L at h2 ⊢
  generalize 0=z at h2 hA
  induction h2 with
  | nil=>simp
  | @cons z f d fs x xs a cs ho hn hT hk _ ih=>
   have p1:=azt hT hk (A:=A) (off:=f.offset) (by rw [ho];exact hA 0 a rfl) w
   have p2:=ajm hT hk e n w
   simp only [List.forIn_cons,Sem.run_bind,hn,ne_eq,not_false_eq_true,if_true,Result.andThen_ok,p1,p2,Sem.run_pure]
   exact ih (fun i a hi=>by rw [show z+1+i=z+(i+1) by omega];exact hA (i+1) a (by simpa using hi))
theorem abq {T:TypeId} (h:ab5 Γ.P T=true):∃ (i:TypeInfo) (z:Value),Γ.P.info? T=some i/\i.zero=some z/\i.size=Γ.P.cellsOf T/\z.cells.size=Γ.P.cellsOf T/\z=pack Γ.P T z.cells.toList/\
 SRep Γ.P D w ow μ st (abd Γ.P 12 T) z/\(∀ c,c∈z.cells.toList->c.oneCell'=true):=by
 unfold ab5 at h
 cases hi:Γ.P.info? T with
 | none=>rw [hi] at h;simp at h
 | some i=>
  rw [hi] at h
  simp only [Option.map_some] at h
  cases hz:i.zero with
  | none=>rw [hz] at h;simp at h
  | some z=>
   rw [hz] at h
   simp only [Bool.and_eq_true] at h
   obtain ⟨⟨h1,h2⟩,h3⟩:=h
   obtain ⟨q1,q2⟩:=ax5 (P:=Γ.P) (D:=D) (ow:=ow) (μ:=μ) (st:=st) (w:=w) 12 T _ h1
   have e:z=pack Γ.P T z.cells.toList:=by
    unfold pack
    cases z with
    | agg cs=>simp at h3;simp [h3,Value.cells]
    | tuple vs=>
     have:=q2 (.tuple vs) (by simp [Value.cells])
     simp [Value.oneCell'] at this
    | _=>simp at h3;simp [h3,Value.cells]
   exact ⟨i,z,rfl,hz,by simp [Program.cellsOf,hi],Nat.eq_of_beq_eq_true h2,e,by rw [<-e] at q1;exact q1,q2⟩
theorem ac3 {P:Program}{K:TypeId}{d:TypeDesc}{kv:Value}{es:List MapEntry}{r:Option (Nat×Value)} (hK:P.underlying K=some d) (h:an0 P K kv es 0 d r) (w:World):(Instr.findKey K kv es).run P w=.ok r w:=by
 rcases h with ⟨_,h⟩ | ⟨⟨ds,rfl⟩,h⟩
 ·simp [Instr.findKey,run_underlying hK,h]
 ·have h:=h w
  cases es with
  | nil=>simp [Instr.findKey,run_underlying hK,Instr.findNow];simpa [Instr.findAsking] using h
  | cons e es=>simp [Instr.findKey,run_underlying hK,Instr.findNow,Instr.sameNow];exact h
theorem al9 (T K E:TypeId) (hT:Γ.P.underlying T=some (.map K E)) (ks:SV) (kv:Value) (ok:Bool) (hkT:keyT Γ.P K=true) (hk:SRep Γ.P D w ow μ st ks kv) (hof:isOf Γ.P K ks=true) (hz:ab5 Γ.P E=true) (hzo:isOf Γ.P E (abd Γ.P 12 E)=true)
 (r clock:Nat) (ents:Array MapEntry) (es:List (PV×PV)) (kc vc:Nat->List Value) (hh:w.heap[r]?=some (.map ents clock)) (hsz:ents.size=es.length)
 (h1:∀ (i:Nat) (x:PV×PV),es[i]?=some x->Rep Γ.P D w K x.1 (kc i)) (h2:∀ (i:Nat) (x:PV×PV),es[i]?=some x->Rep Γ.P D w E x.2 (vc i))
 (h3:∀ (i:Nat) (e:MapEntry),ents[i]?=some e->e.key=pack Γ.P K (kc i)/\e.val=pack Γ.P E (vc i)):
 ∃ u,(Instr.lookup T (.map (some r)) kv ok).run Γ.P w=.ok u w/\SRep Γ.P D w ow μ st (ah9 Γ.P E es (toPV ks) ok) u:=by
 have hrk:=aba hk K hof
 have hpk:=afa hk hof
 obtain ⟨d,hd,hkey⟩:=afu hkT hrk
 rw [hpk] at hkey
 obtain ⟨i,z,hi,hiz,his,hzs,hze,hzr,hzo2⟩:=abq (Γ:=Γ) (D:=D) (ow:=ow) (μ:=μ) (st:=st) (w:=w) hz
 have hall:∀ (j:Nat) (e:MapEntry) (x:PV×PV),ents.toList[j]?=some e->es[j]?=some x->KeyIs Γ.P K d x.1 e.key:=by
  intro j e x he hx
  obtain ⟨d',hd',hy⟩:=afu hkT (h1 j x hx)
  rw [hd] at hd';cases hd'
  rw [(h3 j e (by simpa using he)).1];exact hy
 have fin:∀ (x:PV) (val:Value),SRep Γ.P D w ow μ st (ofPV Γ.P E x) val->∀ b,PV.mhas es (toPV ks)=b->(PV.mget es (toPV ks)).getD (toPV (abd Γ.P 12 E))=x->
  SRep Γ.P D w ow μ st (ah9 Γ.P E es (toPV ks) ok) (if ok then .tuple #[val,.bool b] else val):=by
  intro x val hx b hb he
  unfold ah9
  rw [he,hb]
  cases ok
  ·exact hx
  ·refine .tup (by simp) (fun j s v hj hv=>?_)
   match j with
   | 0=>simp at hj hv;subst hj;subst hv;exact hx
   | 1=>simp at hj hv;subst hj;subst hv;exact .bool
   | (n+2)=>simp at hj
 rcases aj7 hd hkey ents.toList es 0 (by simpa using hsz) hall with ⟨j,x,e,q1,q2,q3,q4,q5,_⟩ | ⟨q1,q2,_⟩
 ·have hv:=(h3 j e (by simpa using q2)).2
  refine ⟨if ok then .tuple #[e.val,.bool true] else e.val,?_,fin x.2 e.val (by rw [hv];exact (h2 j x q1).ofPV) true (by simp [PV.mhas,q4]) (by simp [q4])⟩
  simp [Instr.lookup,run_underlying hT,getObj,Sem.run,hh,ack hd hkey,ac3 hd q5]
 ·refine ⟨if ok then .tuple #[z,.bool false] else z,?_,fin (toPV (abd Γ.P 12 E)) z ?_ false (by simp [PV.mhas,q1]) (by simp [q1])⟩
  ·simp [Instr.lookup,run_underlying hT,getObj,Sem.run,hh,ack hd hkey,ac3 hd q2,zeroValue,typeInfo,hi,hiz]
  ·have:=(aba hzr E hzo).ofPV (ow:=ow) (μ:=μ) (st:=st)
   rwa [<-hze] at this
theorem ark (hw:WRel Γ D ow μ st w) (T:TypeId) (m k:SV) (mv kv:Value) (ok:Bool) (v:SV) (hm:SRep Γ.P D w ow μ st m mv) (hk:SRep Γ.P D w ow μ st k kv) (h:acm Γ.P T st m k ok=.val true v):
 ∃ u,(Instr.lookup T mv kv ok).run Γ.P w=.ok u w/\SRep Γ.P D w ow μ st v u:=by
 unfold acm at h
 split at h
 ·rename_i K E hT
  cases hc:(keyT Γ.P K&&isOf Γ.P K k&&ab5 Γ.P E&&isOf Γ.P E (abd Γ.P 12 E)) with
  | false=>rw [hc] at h;simp at h
  | true=>
   rw [hc] at h
   simp only [cond_true] at h
   simp only [Bool.and_eq_true] at hc
   obtain ⟨⟨⟨c1,c2⟩,c3⟩,c4⟩:=hc
   split at h
   ·rename_i K' E' es
    cases hb:(Nat.beq K K'&&Nat.beq E E') with
    | false=>rw [hb] at h;simp at h
    | true=>
     rw [hb] at h
     simp only [Bool.and_eq_true] at hb
     have:=Nat.eq_of_beq_eq_true hb.1;subst this
     have:=Nat.eq_of_beq_eq_true hb.2;subst this
     simp only [cond_true,Ac.val.injEq,true_and] at h;subst h
     cases hm with
     | map hm=>
      cases hm with
      | nil=>
       have hrk:=aba hk K c2
       have hpk:=afa hk c2
       obtain ⟨d,hd,hkey⟩:=afu c1 hrk
       rw [hpk] at hkey
       obtain ⟨i,z,hi,hiz,his,hzs,hze,hzr,hzo2⟩:=abq (Γ:=Γ) (D:=D) (ow:=ow) (μ:=μ) (st:=st) (w:=w) c3
       have hz:=(aba hzr E c4).ofPV (ow:=ow) (μ:=μ) (st:=st)
       rw [<-hze] at hz
       refine ⟨if ok then .tuple #[z,.bool false] else z,?_,?_⟩
       ·simp [Instr.lookup,run_underlying hT,ack hd hkey,ac3 hd (awz d),zeroValue,typeInfo,hi,hiz]
       ·unfold ah9
        have e1:PV.mget [] (toPV k)=none:=rfl
        have e2:PV.mhas [] (toPV k)=false:=rfl
        rw [e1,e2]
        cases ok
        ·exact hz
        ·refine .tup (by simp) (fun j s v hj hv=>?_)
         match j with
         | 0=>simp at hj hv;subst hj;subst hv;exact hz
         | 1=>simp at hj hv;subst hj;subst hv;exact .bool
         | (n+2)=>simp at hj
      | mk kc vc hh hd hsz h1 h2 h3=>exact al9 T K E hT k kv ok c1 hk c2 c3 c4 _ _ _ es kc vc hh hsz h1 h2 h3.1
   ·rename_i j
    split at h
    ·rename_i K' E' es hj
     cases hb:(Nat.beq K K'&&Nat.beq E E') with
     | false=>rw [hb] at h;simp at h
     | true=>
      rw [hb] at h
      simp only [Bool.and_eq_true] at hb
      have:=Nat.eq_of_beq_eq_true hb.1;subst this
      have:=Nat.eq_of_beq_eq_true hb.2;subst this
      simp only [cond_true,Ac.val.injEq,true_and] at h;subst h
      cases hm
      obtain ⟨ents,clock,kc,vc,r1,_,_,r4,r5,r6,r7,r8⟩:=hw.map j K E es hj
      exact al9 T K E hT k kv ok c1 hk c2 c3 c4 _ _ _ es kc vc r1 r4 r5 r6 r7.1
    ·simp at h
   ·simp at h
 ·simp at h
end
end Go.Ab
namespace Go.Ab
open Go
section
variable {Γ:Ctx}{D:Dom}{ow:Own}{μ:Nat->Nat}{st:List BX}{w:World}
def ade (D:Dom) (ow:Own) (μ:Nat->Nat) (st:List BX) (fz:List Nat):Dom:=fun b o=>D b o∨∃ k b',k∈fz/\st[k]?=some b'/\((∃ K E es,b'=.map K E es)∨∃ E g xs,b'=.arr E g xs)/\ow b=some k/\μ k=b
theorem ac6 {fz:List Nat}{b o:Nat} (h:ade D ow μ st fz b o):D b o∨∃ k,k∈fz/\ow b=some k/\∀ g,st[k]?≠some (.acc g):=by
 rcases h with h | ⟨k,b',h1,h2,h3,h4,h5⟩
 ·exact Or.inl h
 ·refine Or.inr ⟨k,h1,h4,fun g e=>?_⟩
  rw [h2] at e;cases e
  rcases h3 with ⟨K,E,es,h⟩ | ⟨E,g,xs,h⟩<;>cases h
theorem ag3 (fz:List Nat):Moves D w ow μ st (ade D ow μ st fz) w ow μ st:=by
 refine ⟨fun _ _ d=>Or.inl d,Keeps.refl _ _,fun k T s e=>⟨rfl,s,e⟩,fun k K E es e=>⟨rfl,es,e⟩,fun k b e _=>⟨rfl,b,e,rfl⟩,fun k E g xs e=>⟨g,xs,e,Nat.le_refl _,fun _=>⟨rfl,ArrKeep.refl _ _ _ _ _⟩⟩,fun k g e=>⟨g,e,Nat.le_refl _,fun _ b ob=>⟨rfl,ob,fun o d=>?_⟩⟩⟩
 rcases ac6 d with d | ⟨k',h1,h2,h3⟩
 ·exact d
 ·rw [ob] at h2;cases h2
  exact absurd e (h3 g)
theorem aze {k g:Nat}{E:TypeId}{xs:List PV}{v:Value}{fz:List Nat} (hw:WRel Γ D ow μ st w) (h:SRep Γ.P D w ow μ st (.arr k g E) v) (hat:af8 st k g E=some xs) (hf:k∈fz):SRep Γ.P (ade D ow μ st fz) w ow μ st (.slice E xs) v:=by
 have m:Moves D w ow μ st (ade D ow μ st fz) w ow μ st:=ag3 fz
 have hk:=adg hat
 cases h with
 | arrOld hk' hlt=>rw [hk] at hk';cases hk';omega
 | arrNil hk'=>rw [hk] at hk';cases hk';exact .slice (.nil fun _=>rfl)
 | @arr _ _ cap _ _ cur hk' hl hmx hc ho hsz=>
  rw [hk] at hk';cases hk'
  have hrow:xs.length*Γ.P.cellsOf E<=cur.size/\∀ (i:Nat) (x:PV),xs[i]?=some x->Rep Γ.P D w E x ((cur.toList.drop (i*Γ.P.cellsOf E)).take (Γ.P.cellsOf E)):=by
   rcases hw.obj k _ hk with h0 | ⟨cur2,q1,q2,q3,q4,q5⟩
   ·subst h0;exact ⟨by simp,fun i x hi=>by simp at hi⟩
   ·rw [hc] at q1;cases q1;exact ⟨q4,q5⟩
  refine .slice (.mk (L:=cur.toList.take (xs.length*Γ.P.cellsOf E)) hl (by simp;omega) (fun i x hi=>?_) (fun j v hj=>?_))
  ·have h2:(i+1)*Γ.P.cellsOf E<=xs.length*Γ.P.cellsOf E:=Nat.mul_le_mul_right _ (by have:=(List.getElem?_eq_some_iff.1 hi).1;omega)
   rw [Nat.add_mul] at h2
   rw [List.drop_take,List.take_take,Nat.min_eq_left (by omega)]
   exact (hrow.2 i x hi).mono m.dom m.keeps
  ·have hlt:j<xs.length*Γ.P.cellsOf E:=by have:=(List.getElem?_eq_some_iff.1 hj).1;simp at this;omega
   rw [List.getElem?_take_of_lt hlt] at hj
   refine ⟨Or.inr ⟨k,_,hf,hk,Or.inr ⟨E,g,xs,rfl⟩,ho,rfl⟩,?_⟩
   simp only [World.cell?,hc]
   simpa using hj
theorem aqp {k:Nat}{s:SV}:∀ {fs:List SV}{i:Nat},fs[i]?=some s->k∈alj s->k∈ao1 fs:=by
 intro fs
 induction fs with
 | nil=>intro i h;simp at h
 | cons x r ih=>
  intro i h hk
  cases i with
  | zero=>simp at h;subst h;simp [ao1,hk]
  | succ i=>simp only [ao1,List.mem_append];exact Or.inr (ih (by simpa using h) hk)
theorem avj:∀ (fs:List SV) (i:Nat),(frzL st fs)[i]?=(fs[i]?).map (frzS st):=by
 intro fs
 induction fs with
 | nil=>intro i;simp [frzL]
 | cons x r ih=>intro i;cases i with
  | zero=>simp [frzL]
  | succ i=>simpa [frzL] using ih i
theorem aly:∀ (fs:List SV),(frzL st fs).length=fs.length:=by
 intro fs
 induction fs with
 | nil=>rfl
 | cons x r ih=>simp [frzL,ih]
theorem aka {fz:List Nat} (hw:WRel Γ D ow μ st w) {s:SV}{v:Value} (h:SRep Γ.P D w ow μ st s v):(∀ k,k∈alj s->k∈fz)->SRep Γ.P (ade D ow μ st fz) w ow μ st (frzS st s) v:=by
 have m:Moves D w ow μ st (ade D ow μ st fz) w ow μ st:=ag3 fz
 have harr:∀ (k g:Nat) (E:TypeId) (v:Value),SRep Γ.P D w ow μ st (.arr k g E) v->k∈fz->SRep Γ.P (ade D ow μ st fz) w ow μ st (frzS st (.arr k g E)) v:=by
  intro k g E v h hf
  simp only [frzS]
  split
  ·rename_i xs hat;exact aze hw h hat hf
  ·exact .undef
 induction h with
 | agg hT hl ho hv hs ih=>
  intro hf
  simp only [frzS]
  refine .agg hT hl ho (by rw [aly];exact hv) (fun i x f hx hfd=>?_)
  rw [avj] at hx
  obtain ⟨y,hy,rfl⟩:=Option.map_eq_some_iff.1 hx
  exact ih i y f hy hfd (fun k hk=>hf k (by simp only [alj];exact aqp hy hk))
 | arrOld h1 h2 h3=>intro hf;exact harr _ _ _ _ (.arrOld h1 h2 h3) (hf _ (by simp [alj]))
 | arrNil h1=>intro hf;exact harr _ _ _ _ (.arrNil h1) (hf _ (by simp [alj]))
 | arr h1 h2 h3 h4 h5 h6=>intro hf;exact harr _ _ _ _ (.arr h1 h2 h3 h4 h5 h6) (hf _ (by simp [alj]))
 | undef=>intro _;exact .undef
 | bool=>intro _;exact .bool
 | int=>intro _;exact .int
 | str=>intro _;exact .str
 | slice h=>intro _;exact (SRep.slice h).mono m
 | data h1 h2=>intro _;exact (SRep.data h1 h2).mono m
 | map h=>intro _;exact (SRep.map h).mono m
 | nils=>intro _;exact .nils
 | acc h1 h2 h3 h4=>intro _;exact (SRep.acc h1 h2 h3 h4).mono m
 | ref h1 h2=>intro _;exact .ref h1 h2
 | @mref k K E es h1=>
  intro hf
  simp only [frzS,h1]
  obtain ⟨ents,clock,kc,vc,r1,r2,r3,r4,r5,r6,r7,_⟩:=hw.map k K E es h1
  exact .map (.mk kc vc r1 (Or.inr ⟨k,_,hf k (by simp [alj]),h1,Or.inl ⟨K,E,es,rfl⟩,r2,rfl⟩) r4 (fun i x a=>(r5 i x a).mono m.dom m.keeps) (fun i x a=>(r6 i x a).mono m.dom m.keeps) r7)
 | iref h1=>intro _;exact .iref h1
 | mitr h1=>intro _;exact .mitr h1
 | bref h1=>intro _;exact .bref h1
 | nx h1 h2=>intro _;exact .nx h1 h2
 | eif h1 h2=>intro _;exact .eif h1 h2
 | pto h1 h2=>intro _;exact (SRep.pto h1 h2).mono m
 | fn h1 h2 h3 _=>intro _;exact (SRep.fn h1 h2 h3).mono m
 | tup h1 h2 _=>intro _;exact (SRep.tup h1 h2).mono m
 | raw=>intro _;exact .raw
 | lit h=>intro _;exact (SRep.lit h).mono m
 | sln h=>intro _;exact (SRep.sln h).mono m
 | arefOld h1 h2 h3=>intro _;exact .arefOld h1 h2 h3
 | aref h1 h2 h3 h4 h5=>intro _;exact .aref h1 h2 h3 h4 h5
 | eref h1 h2 h3=>intro _;exact .eref h1 h2 h3
 | asl h1 h2 h3 h4=>intro _;exact .asl h1 h2 h3 h4
 | ifc h _=>intro _;exact (SRep.ifc h).mono m
def aoh (ow:Own) (k:Nat):Own:=fun b=>if ow b=some k then none else ow b
theorem owLess_some {k b j:Nat}:aoh ow k b=some j ↔ ow b=some j/\j≠k:=by
 unfold aoh
 by_cases h:ow b=some k
 ·rw [if_pos h,h];simp;exact fun e=>e.symm
 ·rw [if_neg h]
  exact ⟨fun e=>⟨e,fun hj=>h (by rw [e,hj])⟩,fun e=>e.1⟩
theorem WRel.freezeRow (hw:WRel Γ D ow μ st w) {k g:Nat}{E:TypeId}{xs:List PV} (hk:st[k]?=some (.arr E g xs)):
 WRel Γ (ade D ow μ st [k]) (aoh ow k) μ (st.set k (.arr E (g+1) [])) w/\Moves D w ow μ st (ade D ow μ st [k]) w (aoh ow k) μ (st.set k (.arr E (g+1) [])):=by
 have hlt:=(List.getElem?_eq_some_iff.1 hk).1
 have ne:∀ {j:Nat}{y:BX},st[j]?=some y->j≠k->(st.set k (.arr E (g+1) []))[j]?=some y:=fun e hj=>by rw [List.getElem?_set_ne (by omega)];exact e
 have back:∀ {j:Nat}{y:BX},(st.set k (.arr E (g+1) []))[j]?=some y->j≠k->st[j]?=some y:=fun e hj=>by rwa [List.getElem?_set_ne (by omega)] at e
 have same:(st.set k (.arr E (g+1) []))[k]?=some (.arr E (g+1) []):=by rw [List.getElem?_set_self hlt]
 have hD:∀ {b j:Nat}{o:Nat},ow b=some j->j≠k->ade D ow μ st [k] b o->D b o:=fun ob hj d=>by
  rcases ac6 d with d | ⟨k',h1,h2,_⟩
  ·exact d
  ·simp at h1;subst h1;rw [ob] at h2;cases h2;exact absurd rfl hj
 have m:Moves D w ow μ st (ade D ow μ st [k]) w (aoh ow k) μ (st.set k (.arr E (g+1) [])):=by
  refine ⟨fun _ _ d=>Or.inl d,Keeps.refl _ _,fun j T x e=>⟨rfl,x,?_⟩,fun j K E es e=>⟨rfl,es,?_⟩,fun j b e hs=>⟨rfl,?_⟩,fun j E1 g1 xs1 e=>?_,fun j g1 e=>?_⟩
  ·exact ne e (fun hj=>by subst hj;rw [hk] at e;cases e)
  ·exact ne e (fun hj=>by subst hj;rw [hk] at e;cases e)
  ·by_cases hj:j=k
   ·subst hj;rw [hk] at e;cases e;exact ⟨_,same,rfl⟩
   ·exact ⟨b,ne e hj,rfl⟩
  ·by_cases hj:j=k
   ·subst hj;rw [hk] at e;cases e
    exact ⟨g+1,[],same,by omega,fun h=>by omega⟩
   ·exact ⟨g1,xs1,ne e hj,Nat.le_refl _,fun _=>⟨rfl,fun cur hc hoj=>⟨rfl,owLess_some.2 ⟨hoj,hj⟩,cur,hc,rfl⟩⟩⟩
  ·have hj:j≠k:=fun hj=>by subst hj;rw [hk] at e;cases e
   exact ⟨g1,ne e hj,Nat.le_refl _,fun _ b ob=>⟨rfl,owLess_some.2 ⟨ob,hj⟩,fun o d=>hD ob hj d⟩⟩
 have par':∀ j,j<Γ.np->∃ b,(st.set k (.arr E (g+1) []))[j]?=some b/\b.kind=Γ.K0 j:=by
  intro j hj
  obtain ⟨x,hx,p1⟩:=hw.par j hj
  by_cases hjk:j=k
  ·subst hjk;rw [hk] at hx;cases hx;exact ⟨_,same,p1⟩
  ·exact ⟨x,ne hx hjk,p1⟩
 refine ⟨⟨fun j T x e=>?_,fun j K E es e=>?_,fun j x e=>?_,fun b j ob=>?_,fun b o d=>?_,hw.os,hw.tape,hw.output,hw.hs,hw.old,fun b o d=>Or.inl (hw.dom0 b o d),fun b o d=>?_,fun b j ob hb=>hw.owN b j (owLess_some.1 ob).1 hb,by simpa using hw.np,hw.mu0,par',fun b j y ob e hy o d=>?_,hw.keep0,hw.arr0_moves m par'⟩,m⟩
 ·have hj:j≠k:=fun hj=>by subst hj;rw [same] at e;cases e
  obtain ⟨c,T1,q1,q2,q3,q4,q5⟩:=hw.box j T x (back e hj)
  exact BoxRep.mono ⟨c,T1,q1,q2,q3,q4,q5⟩ m rfl rfl (owLess_some.2 ⟨q3,hj⟩) (fun o d=>q4 o (hD q3 hj d))
 ·have hj:j≠k:=fun hj=>by subst hj;rw [same] at e;cases e
  obtain ⟨ents,clock,kc,vc,q1,q2,q3⟩:=hw.map j K E es (back e hj)
  exact OMapRep.mono ⟨ents,clock,kc,vc,q1,q2,q3⟩ m.dom m.keeps rfl rfl (owLess_some.2 ⟨q2,hj⟩) (fun o d=>q3.1 o (hD q2 hj d))
 ·by_cases hj:j=k
  ·subst hj;rw [same] at e;cases e;exact Or.inl rfl
  ·exact (hw.obj j x (back e hj)).mono m.dom m.keeps (fun _=>rfl) (fun c oc=>⟨rfl,owLess_some.2 ⟨oc,hj⟩,fun o d=>hD oc hj d⟩)
 ·have:=hw.owlt b j (owLess_some.1 ob).1
  simpa using this
 ·rcases ac6 d with d | ⟨k',h1,h2,_⟩
  ·exact hw.dlt b o d
  ·exact (hw.owlt b k' h2).1
 ·rcases ac6 d with d | ⟨k',h1,h2,_⟩
  ·exact hw.domN b o d
  ·by_cases hb:b<Γ.B
   ·exact Or.inr (Or.inr (by rw [hw.owN b k' h2 hb];simp))
   ·exact Or.inr (Or.inl (by omega))
 ·obtain ⟨o1,o2⟩:=owLess_some.1 ob
  exact hw.lone b j y o1 (back e o2) hy o (hD o1 o2 d)
end
end Go.Ab
