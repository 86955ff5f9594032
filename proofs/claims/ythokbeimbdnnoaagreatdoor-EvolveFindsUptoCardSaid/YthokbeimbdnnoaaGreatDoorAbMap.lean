/- Maps. -/
import Derived.Test.YthokbeimbdnnoaaGreatDoorAbMem
set_option linter.unusedVariables false
set_option linter.unusedSimpArgs false
set_option linter.unnecessarySimpa false
namespace Go.Ab
open Go
section
variable {Γ:Ctx}{D:Dom}{ow:Own}{μ:Nat->Nat}{st:List BX}{w:World}
theorem aie {P:Program}{s:SV}{v:Value}{T:TypeId} (h:SRep P D w ow μ st s v) (hi:isOf P T s=true):pack P T v.cells.toList=v:=by
 have one:∀ {u:Value},u.oneCell'=true->aaj P T=false->pack P T u.cells.toList=u:=by
  intro u hu ha
  rw [adn hu];simp [pack,ha]
 cases h with
 | data ha hr=>
  simp only [isOf] at hi
  have:=Nat.eq_of_beq_eq_true hi;subst this
  simp [Value.cells,pack,ha]
 | agg hT hl ho hv hp=>
  simp only [isOf,Bool.and_eq_true] at hi
  have:=Nat.eq_of_beq_eq_true hi.1.1;subst this
  simp [Value.cells,pack,aaj,hT]
 | bool=>unfold isOf at hi;split at hi<;>first | cases hi | skip
         rename_i hT;exact one rfl (by simp [aaj,hT])
 | int=>unfold isOf at hi;split at hi<;>first | cases hi | skip
        rename_i hT;exact one rfl (by simp [aaj,hT])
 | str=>unfold isOf at hi;split at hi<;>first | cases hi | skip
        rename_i hT;exact one rfl (by simp [aaj,hT])
 | slice hs=>unfold isOf at hi;split at hi<;>first | cases hi | skip
             rename_i hT;cases hs<;>exact one rfl (by simp [aaj,hT])
 | map hs=>unfold isOf at hi;split at hi<;>first | cases hi | skip
           rename_i hT;cases hs<;>exact one rfl (by simp [aaj,hT])
 | lit hs=>unfold isOf at hi;split at hi<;>first | cases hi | skip
           rename_i hT;exact one rfl (by simp [aaj,hT])
 | nils=>unfold isOf at hi;split at hi<;>first | cases hi | skip
         rename_i hT;exact one rfl (by simp [aaj,hT])
 | acc hs=>unfold isOf at hi;split at hi<;>first | cases hi | skip
           rename_i hT;cases hs<;>exact one rfl (by simp [aaj,hT])
 | raw=>
  simp only [isOf,Bool.and_eq_true] at hi
  refine one hi.2 ?_
  have h1:=hi.1
  unfold rawT at h1;unfold aaj
  split at h1<;>simp_all
 | undef=>simp [isOf] at hi
 | ifc=>simp [isOf] at hi
 | ref=>simp [isOf] at hi
 | mref=>simp [isOf] at hi
 | iref=>simp [isOf] at hi
 | mitr=>simp [isOf] at hi
 | sln=>simp [isOf] at hi
 | bref=>simp [isOf] at hi
 | nx=>simp [isOf] at hi
 | arrOld=>simp [isOf] at hi
 | arrNil=>simp [isOf] at hi
 | arr=>simp [isOf] at hi
 | arefOld=>simp [isOf] at hi
 | aref=>simp [isOf] at hi
 | eref=>simp [isOf] at hi
 | asl=>simp [isOf] at hi
 | eif=>simp [isOf] at hi
 | pto=>simp [isOf] at hi
 | fn=>simp [isOf] at hi
 | tup=>simp [isOf] at hi
theorem as2 (x y:List UInt8):((⟨x.toArray⟩:ByteArray)==⟨y.toArray⟩)=(x==y):=by
 show (x.toArray==y.toArray)=_
 simp
inductive Key1 (d:TypeDesc):PV->Value->Prop
 | str (s:List UInt8):d=.string->Key1 d (.str s) (.string ⟨s.toArray⟩)
 | int (k:IntKind) (n:Int):d=.int k->Key1 d (.int n) (.int k n)
 | bool (b:Bool):d=.bool->Key1 d (.bool b) (.bool b)
inductive KeysL (P:Program):Nat->List Field->List PV->List Value->Prop
 | nil (n:Nat):KeysL P n [] [] []
 | cons {n:Nat}{f:Field}{d:TypeDesc}{fs:List Field}{x:PV}{xs:List PV}{a:Value}{cs:List Value}:f.offset=n->f.name≠ "_"->P.underlying f.type=some d->Key1 d x a->KeysL P (n+1) fs xs cs->KeysL P n (f::fs) (x::xs) (a::cs)
inductive KeyIs (P:Program) (K:TypeId) (d:TypeDesc):PV->Value->Prop
 | one {x:PV}{a:Value}:Key1 d x a->KeyIs P K d x a
 | agg (ds:Array Field) (xs:List PV) (cs:List Value):d=.struct ds->P.stoodInHeld K=false->KeysL P 0 ds.toList xs cs->KeyIs P K d (.agg xs) (.agg cs.toArray)
theorem axi {P:Program}{K:TypeId} (hk:ap7 P K=true) {x:PV}{cs:List Value} (h:Rep P D w K x cs):∃ d,P.underlying K=some d/\Key1 d x (pack P K cs):=by
 unfold ap7 at hk
 cases h with
 | bool hT=>exact ⟨_,hT,by simp only [pack,aaj,hT];exact .bool _ rfl⟩
 | int hT=>exact ⟨_,hT,by simp only [pack,aaj,hT];exact .int _ _ rfl⟩
 | str hT=>exact ⟨_,hT,by simp only [pack,aaj,hT];exact .str _ rfl⟩
 | nil hT=>rw [hT] at hk;cases hk
 | slice hT=>rw [hT] at hk;cases hk
 | agg hT=>rw [hT] at hk;cases hk
 | arr hT=>rw [hT] at hk;cases hk
 | mapnil hT=>rw [hT] at hk;cases hk
 | map _ _ hT=>rw [hT] at hk;cases hk
 | raw hr=>unfold rawT at hr;split at hk<;>simp_all
theorem a5c {P:Program}{K:TypeId} (hk:ap7 P K=true):aaj P K=false:=by
 unfold ap7 at hk;unfold aaj
 split at hk<;>simp_all
theorem a0h {P:Program}{cs:List Value}:∀ (ds:List Field) (n:Nat) (xs:List PV) (m:Nat),abw P ds n=some m->cs.length=m->(∀ f,f∈ds->ap7 P f.type=true/\f.name≠ "_")->xs.length=ds.length->
 (∀ (i:Nat) (v:PV) (f:Field),xs[i]?=some v->ds[i]?=some f->Rep P D w f.type v ((cs.drop f.offset).take (P.cellsOf f.type)))->n<=m/\KeysL P n ds xs (cs.drop n):=by
 intro ds
 induction ds with
 | nil=>
  intro n xs m h hl _ hx _
  have:xs=[]:=List.eq_nil_of_length_eq_zero hx
  subst this
  simp [abw] at h
  subst h
  refine ⟨Nat.le_refl _,?_⟩
  rw [<-hl,List.drop_length]
  exact .nil _
 | cons f ds ih=>
  intro n xs m h hl hs hx hr
  match xs,hx with
  | x::xs,hx=>
   simp only [abw] at h
   cases hc:(Nat.beq f.offset n&&!(Nat.beq (P.cellsOf f.type) 0)&&(aaj P f.type||Nat.beq (P.cellsOf f.type) 1)) with
   | false=>rw [hc] at h;cases h
   | true=>
    rw [hc] at h
    simp only [cond_true] at h
    simp only [Bool.and_eq_true] at hc
    have ho:=Nat.eq_of_beq_eq_true hc.1.1
    obtain ⟨s1,s2⟩:=hs f (by simp)
    have h1:P.cellsOf f.type=1:=by
     have h2:=hc.2
     rw [a5c s1,Bool.false_or] at h2
     exact Nat.eq_of_beq_eq_true h2
    rw [h1] at h
    obtain ⟨hle,hk⟩:=ih (n+1) xs m h hl (fun g hg=>hs g (by simp [hg])) (by simpa using hx) (fun i v g h3 h4=>hr (i+1) v g (by simpa using h3) (by simpa using h4))
    have hrep:=hr 0 x f rfl rfl
    obtain ⟨d,hd,hkey⟩:=axi s1 hrep
    have hlt:n<cs.length:=by omega
    rw [h1,ho,List.drop_eq_getElem_cons hlt] at hkey
    refine ⟨by omega,?_⟩
    rw [List.drop_eq_getElem_cons hlt]
    refine .cons ho s2 hd ?_ hk
    have:pack P f.type (List.take 1 (cs[n]::List.drop (n+1) cs))=cs[n]:=by unfold pack;rw [a5c s1];rfl
    rw [this] at hkey
    exact hkey
theorem aig {P:Program}{K:TypeId} (hk:keyT P K=true) {x:PV}{cs:List Value} (h:Rep P D w K x cs):∃ d,P.underlying K=some d/\KeyIs P K d x (pack P K cs):=by
 by_cases hs:ap7 P K=true
 ·obtain ⟨d,h1,h2⟩:=axi hs h
  exact ⟨d,h1,.one h2⟩
 ·unfold keyT at hk
  unfold ap7 at hs
  split at hk
  ·rename_i hT;rw [hT] at hs;exact absurd rfl hs
  ·rename_i hT;rw [hT] at hs;exact absurd rfl hs
  ·rename_i hT;rw [hT] at hs;exact absurd rfl hs
  ·rename_i ds hT
   simp only [Bool.and_eq_true,Bool.not_eq_true'] at hk
   obtain ⟨⟨k1,k2⟩,k3⟩:=hk
   refine ⟨_,hT,?_⟩
   cases h with
   | agg hT1 hl ho hv hp=>
    rename_i fs vs
    rw [hT] at hT1;cases hT1
    unfold abt at k1
    rw [hT] at k1
    dsimp only at k1
    cases hlf:abw P ds.toList 0 with
    | none=>rw [hlf] at k1;cases k1
    | some n=>
     rw [hlf] at k1
     have hn:=Nat.eq_of_beq_eq_true k1
     have:=(a0h (cs:=cs) ds.toList 0 vs n hlf (by rw [hl,hn]) (fun f hf=>by
      have:=List.all_eq_true.1 k2 f hf
      simpa using this) (by simpa using hv) (fun i v f h1 h2=>hp i v f h1 (by simpa using h2))).2
     rw [List.drop_zero] at this
     have e:pack P K cs=.agg cs.toArray:=by simp [pack,aaj,hT]
     rw [e]
     exact .agg ds vs cs rfl k3 this
   | bool hT1=>rw [hT] at hT1;cases hT1
   | int hT1=>rw [hT] at hT1;cases hT1
   | str hT1=>rw [hT] at hT1;cases hT1
   | nil hT1=>rw [hT] at hT1;cases hT1
   | slice hT1=>rw [hT] at hT1;cases hT1
   | arr hT1=>rw [hT] at hT1;cases hT1
   | mapnil hT1=>rw [hT] at hT1;cases hT1
   | map _ _ hT1=>rw [hT] at hT1;cases hT1
   | raw hr=>unfold rawT at hr;rw [hT] at hr;cases hr
  ·cases hk
theorem ayi {d:TypeDesc}{x y:PV}{a b:Value} (hx:Key1 d x a) (hy:Key1 d y b):Instr.sameNow d a b=some (adl x y):=by
 cases hx with
 | str s hd=>subst hd;cases hy with
  | str t _=>simp [Instr.sameNow,adl,as2]
  | int _ _ h=>cases h
  | bool _ h=>cases h
 | int k n hd=>subst hd;cases hy with
  | int k' m h=>cases h;simp [Instr.sameNow,adl]
  | str _ h=>cases h
  | bool _ h=>cases h
 | bool p hd=>subst hd;cases hy with
  | bool q _=>simp [Instr.sameNow,adl]
  | int _ _ h=>cases h
  | str _ h=>cases h
theorem a3c {P:Program}{T:TypeId}{d:TypeDesc} (hT:P.underlying T=some d) {x y:PV}{a b:Value} (hx:Key1 d x a) (hy:Key1 d y b) (n:Nat) (w:World):(Op.equalIn (n+1) T a b).run P w=.ok (adl x y) w:=by
 cases hx with
 | str s hd=>subst hd;cases hy with
  | str t _=>rw [run_equalIn_string w n T _ _ hT];simp [ByteArray.toList_mk,adl]
  | int _ _ h=>cases h
  | bool _ h=>cases h
 | int k n' hd=>subst hd;cases hy with
  | int k' m h=>cases h;exact run_equalIn_int w n T k k _ _ hT
  | str _ h=>cases h
  | bool _ h=>cases h
 | bool p hd=>subst hd;cases hy with
  | bool q _=>exact run_equalIn_bool w n T _ _ hT
  | int _ _ h=>cases h
  | str _ h=>cases h
theorem axh {P:Program}{T:TypeId}{d:TypeDesc} (hT:P.underlying T=some d) {x:PV}{a:Value} (hx:Key1 d x a) {A:Array Value}{off:Nat} (h:A[off]?=some a) (w:World):(part T A off).run P w=.ok a w:=by
 have ha:aaj P T=false:=by
  unfold aaj
  rw [hT]
  cases hx with
  | str _ hd=>subst hd;rfl
  | int _ _ hd=>subst hd;rfl
  | bool _ hd=>subst hd;rfl
 unfold part
 simp only [Sem.run_bind,ajj (by rw [hT];rfl),Result.andThen_ok,ha]
 have hlt:=(Array.getElem?_eq_some_iff.1 h).1
 have hv:=(Array.getElem?_eq_some_iff.1 h).2
 simp [hlt,hv]
theorem kEqL {P:Program}{A B:Array Value}{w:World} (m:Nat):∀ {n:Nat}{ds:List Field}{xs:List PV}{cs:List Value},KeysL P n ds xs cs->∀ {ys:List PV}{es:List Value},KeysL P n ds ys es->(∀ (i:Nat) (a:Value),cs[i]?=some a->A[n+i]?=some a)->(∀ (i:Nat) (a:Value),es[i]?=some a->B[n+i]?=some a)->
 (Op.eqFields (m+1) A B ds).run P w=.ok (ala xs ys) w:=by
 intro n ds xs cs h
 induction h with
 | nil n=>
  intro ys es h2 _ _
  cases h2
  simp [Op.eqFields,ala]
 | @cons n f d fs x xs a cs ho hn hT hk _ ih=>
  intro ys es h2 hA hB
  cases h2 with
  | @cons _ _ d' _ y ys b es ho' hn' hT' hk' h2=>
   rw [hT] at hT';cases hT'
   have p1:=axh hT hk (A:=A) (off:=f.offset) (by rw [ho];exact hA 0 a rfl) w
   have p2:=axh hT hk' (A:=B) (off:=f.offset) (by rw [ho];exact hB 0 b rfl) w
   have he:=a3c hT hk hk' m w
   have hi:=ih h2 (fun i a hi=>by rw [show n+1+i=n+(i+1) by omega];exact hA (i+1) a (by simpa using hi)) (fun i a hi=>by rw [show n+1+i=n+(i+1) by omega];exact hB (i+1) a (by simpa using hi))
   simp only [Op.eqFields,hn,ne_eq,not_false_eq_true,if_true,Sem.run_bind,p1,p2,he,Result.andThen_ok,ala]
   cases adl x y
   ·simp
   ·simpa using hi
theorem a3d {P:Program}{K:TypeId}{ds:Array Field} (hK:P.underlying K=some (.struct ds)) {x y:PV}{a b:Value} (hx:KeyIs P K (.struct ds) x a) (hy:KeyIs P K (.struct ds) y b) (w:World):(Op.equal K a b).run P w=.ok (an0 x y) w:=by
 have no:∀ {x:PV}{a:Value},Key1 (.struct ds) x a->False:=fun h=>by cases h<;>rename_i h<;>cases h
 have hf:P.fieldsOf K=ds:=by simp [Program.fieldsOf,hK]
 cases hx with
 | one h=>exact absurd h (fun h=>no h)
 | agg ds1 xs cs h1 h2 h3=>
  cases h1
  cases hy with
  | one h=>exact absurd h (fun h=>no h)
  | agg ds2 ys es h4 h5 h6=>
   cases h4
   show (Op.equalIn 10000 K _ _).run P w=_
   rw [run_equalIn_struct w 9999 K _ _ (by rw [hf];exact hK) h2,hf]
   exact kEqL 9998 h3 h6 (fun i a hi=>by simpa using hi) (fun i a hi=>by simpa using hi)
def amg (P:Program) (K:TypeId) (kv:Value) (l:List MapEntry) (i:Nat) (d:TypeDesc) (r:Option (Nat×Value)):Prop:=
 (∀ ds,d≠.struct ds)/\Instr.findNow d kv l i=some r∨(∃ ds,d=.struct ds)/\∀ w,(Instr.findAsking K kv l i).run P w=.ok r w
theorem auo {P:Program}{K:TypeId}{kv:Value} (d:TypeDesc):amg P K kv [] 0 d none:=by
 by_cases hd:∃ ds,d=.struct ds
 ·exact Or.inr ⟨hd,fun w=>by simp [Instr.findAsking]⟩
 ·exact Or.inl ⟨fun ds h=>hd ⟨ds,h⟩,rfl⟩
theorem ams {P:Program}{K:TypeId}{d:TypeDesc} (hK:P.underlying K=some d) {k:PV}{kv:Value} (hk:KeyIs P K d k kv):∀ (l:List MapEntry) (es:List (PV×PV)) (i:Nat),l.length=es.length->
 (∀ (j:Nat) (e:MapEntry) (x:PV×PV),l[j]?=some e->es[j]?=some x->KeyIs P K d x.1 e.key)->
 (∃ (j:Nat) (x:PV×PV) (e:MapEntry),es[j]?=some x/\l[j]?=some e/\an0 k x.1=true/\PV.mget es k=some x.2/\amg P K kv l i d (some (i+j,e.val))/\∀ v,PV.mput es k v=es.set j (x.1,v))∨
 (PV.mget es k=none/\amg P K kv l i d none/\∀ v,PV.mput es k v=es++[(k,v)]):=by
 intro l
 induction l with
 | nil=>
  intro es i hl _
  have:es=[]:=List.eq_nil_of_length_eq_zero (by simpa using hl.symm)
  subst this
  refine Or.inr ⟨rfl,?_,fun v=>rfl⟩
  by_cases hd:∃ ds,d=.struct ds
  ·exact Or.inr ⟨hd,fun w=>by simp [Instr.findAsking]⟩
  ·exact Or.inl ⟨fun ds h=>hd ⟨ds,h⟩,rfl⟩
 | cons e r ih=>
  intro es i hl hall
  cases es with
  | nil=>simp at hl
  | cons x q=>
   have hx:=hall 0 e x rfl rfl
   have step:∀ (b:Bool),an0 k x.1=b->((∀ ds,d≠.struct ds)/\Instr.sameNow d kv e.key=some b)∨((∃ ds,d=.struct ds)/\∀ w,(Op.equal K kv e.key).run P w=.ok b w):=by
    rintro b rfl
    by_cases hd:∃ ds,d=.struct ds
    ·obtain ⟨ds,rfl⟩:=hd
     exact Or.inr ⟨⟨ds,rfl⟩,fun w=>a3d hK hk hx w⟩
    ·refine Or.inl ⟨fun ds h=>hd ⟨ds,h⟩,?_⟩
     have e1:∀ {p q:PV}{a b:Value},Key1 d p a->Key1 d q b->an0 p q=adl p q:=fun h1 h2=>by cases h1<;>rfl
     cases hk with
     | agg ds _ _ h=>exact absurd ⟨ds,h⟩ hd
     | one h1=>
      generalize x.1=p at hx ⊢
      generalize e.key=q at hx ⊢
      cases hx with
      | agg ds _ _ h=>exact absurd ⟨ds,h⟩ hd
      | one h2=>rw [e1 h1 h2];exact ayi h1 h2
   cases hb:an0 k x.1 with
   | true=>
    refine Or.inl ⟨0,x,e,rfl,rfl,hb,by simp [PV.mget,hb],?_,fun v=>by simp [PV.mput,hb]⟩
    rcases step true hb with ⟨h1,h2⟩ | ⟨h1,h2⟩
    ·exact Or.inl ⟨h1,by simp [Instr.findNow,h2]⟩
    ·exact Or.inr ⟨h1,fun w=>by simp [Instr.findAsking,h2]⟩
   | false=>
    have:=ih q (i+1) (by simpa using hl) (fun j e' x' h1 h2=>hall (j+1) e' x' (by simpa using h1) (by simpa using h2))
    have lift:∀ {r':Option (Nat×Value)},amg P K kv r (i+1) d r'->amg P K kv (e::r) i d r':=by
     intro r' h
     rcases step false hb with ⟨h1,h2⟩ | ⟨h1,h2⟩
     ·rcases h with ⟨_,h3⟩ | ⟨⟨ds,h3⟩,_⟩
      ·exact Or.inl ⟨h1,by simp [Instr.findNow,h2,h3]⟩
      ·exact absurd h3 (h1 ds)
     ·rcases h with ⟨h3,_⟩ | ⟨_,h3⟩
      ·obtain ⟨ds,h4⟩:=h1;exact absurd h4 (h3 ds)
      ·exact Or.inr ⟨h1,fun w=>by simp [Instr.findAsking,h2,h3]⟩
    rcases this with ⟨j,x',e',h1,h2,h3,h4,h5,h6⟩ | ⟨h1,h2,h3⟩
    ·refine Or.inl ⟨j+1,x',e',by simpa using h1,by simpa using h2,h3,?_,?_,fun v=>?_⟩
     ·simpa [PV.mget,hb] using h4
     ·have:=lift h5
      rwa [show i+1+j=i+(j+1) by omega] at this
     ·simp [PV.mput,hb,h6]
    ·refine Or.inr ⟨by simpa [PV.mget,hb] using h1,lift h2,fun v=>by simp [PV.mput,hb,h3]⟩
theorem aiv {P:Program}{K:TypeId}{d:TypeDesc}{k:PV}{kv:Value} (hK:P.underlying K=some d) (hk:Key1 d k kv) (e:Bool) (n:Nat) (w:World):(Instr.checkKey e (n+1) K kv).run P w=.ok () w:=by
 cases hk with
 | str s hd=>subst hd;simp [Instr.checkKey,run_underlying hK]
 | int k' m hd=>subst hd;simp [Instr.checkKey,run_underlying hK]
 | bool b hd=>subst hd;simp [Instr.checkKey,run_underlying hK]
theorem ada {P:Program}{K:TypeId}{d:TypeDesc}{k:PV}{kv:Value} (hK:P.underlying K=some d) (hk:KeyIs P K d k kv) (e:Bool) (n:Nat) (w:World):(Instr.checkKey e (n+2) K kv).run P w=.ok () w:=by
 cases hk with
 | one h=>exact aiv hK h e (n+1) w
 | agg ds xs cs hd h1 h2=>
  subst hd
  rw [Instr.checkKey]
  simp only [Sem.run_bind,run_underlying hK,Result.andThen_ok]
  rw [<-Array.forIn_toList]
  have hA:∀ (i:Nat) (a:Value),cs[i]?=some a->cs.toArray[0+i]?=some a:=fun i a hi=>by simpa using hi
  clear hK
  generalize cs.toArray=A at hA ⊢
  generalize ds.toList=L at h2 ⊢
  generalize 0=z at h2 hA
  induction h2 with
  | nil=>simp
  | @cons z f d fs x xs a cs ho hn hT hk _ ih=>
   have p1:=axh hT hk (A:=A) (off:=f.offset) (by rw [ho];exact hA 0 a rfl) w
   have p2:=aiv hT hk e n w
   simp only [List.forIn_cons,Sem.run_bind,hn,ne_eq,not_false_eq_true,if_true,Result.andThen_ok,p1,p2,Sem.run_pure]
   exact ih (fun i a hi=>by rw [show z+1+i=z+(i+1) by omega];exact hA (i+1) a (by simpa using hi))
theorem abr {T:TypeId} (h:acb Γ.P T=true):∃ (i:TypeInfo) (z:Value),Γ.P.info? T=some i/\i.zero=some z/\i.size=Γ.P.cellsOf T/\z.cells.size=Γ.P.cellsOf T/\z=pack Γ.P T z.cells.toList/\
 SRep Γ.P D w ow μ st (abi Γ.P 12 T) z/\(∀ c,c∈z.cells.toList->c.oneCell'=true):=by
 unfold acb at h
 cases hi:Γ.P.info? T with
 | none=>rw [hi] at h;simp at h
 | some i=>
  rw [hi] at h
  simp only [Option.map_some] at h
  cases hz:i.zero with
  | none=>rw [hz] at h;simp at h
  | some z=>
   rw [hz] at h
   simp only [Bool.and_eq_true] at h
   obtain ⟨⟨h1,h2⟩,h3⟩:=h
   obtain ⟨q1,q2⟩:=avu (P:=Γ.P) (D:=D) (ow:=ow) (μ:=μ) (st:=st) (w:=w) 12 T _ h1
   have e:z=pack Γ.P T z.cells.toList:=by
    unfold pack
    cases z with
    | agg cs=>simp at h3;simp [h3,Value.cells]
    | tuple vs=>
     have:=q2 (.tuple vs) (by simp [Value.cells])
     simp [Value.oneCell'] at this
    | _=>simp at h3;simp [h3,Value.cells]
   exact ⟨i,z,rfl,hz,by simp [Program.cellsOf,hi],Nat.eq_of_beq_eq_true h2,e,by rw [<-e] at q1;exact q1,q2⟩
theorem ad4 {P:Program}{K:TypeId}{d:TypeDesc}{kv:Value}{es:List MapEntry}{r:Option (Nat×Value)} (hK:P.underlying K=some d) (h:amg P K kv es 0 d r) (w:World):(Instr.findKey K kv es).run P w=.ok r w:=by
 rcases h with ⟨_,h⟩ | ⟨⟨ds,rfl⟩,h⟩
 ·simp [Instr.findKey,run_underlying hK,h]
 ·have h:=h w
  cases es with
  | nil=>simp [Instr.findKey,run_underlying hK,Instr.findNow];simpa [Instr.findAsking] using h
  | cons e es=>simp [Instr.findKey,run_underlying hK,Instr.findNow,Instr.sameNow];exact h
theorem ale (T K E:TypeId) (hT:Γ.P.underlying T=some (.map K E)) (ks:SV) (kv:Value) (ok:Bool) (hkT:keyT Γ.P K=true) (hk:SRep Γ.P D w ow μ st ks kv) (hof:isOf Γ.P K ks=true) (hz:acb Γ.P E=true) (hzo:isOf Γ.P E (abi Γ.P 12 E)=true)
 (r clock:Nat) (ents:Array MapEntry) (es:List (PV×PV)) (kc vc:Nat->List Value) (hh:w.heap[r]?=some (.map ents clock)) (hsz:ents.size=es.length)
 (h1:∀ (i:Nat) (x:PV×PV),es[i]?=some x->Rep Γ.P D w K x.1 (kc i)) (h2:∀ (i:Nat) (x:PV×PV),es[i]?=some x->Rep Γ.P D w E x.2 (vc i))
 (h3:∀ (i:Nat) (e:MapEntry),ents[i]?=some e->e.key=pack Γ.P K (kc i)/\e.val=pack Γ.P E (vc i)):
 ∃ u,(Instr.lookup T (.map (some r)) kv ok).run Γ.P w=.ok u w/\SRep Γ.P D w ow μ st (ajf Γ.P E es (toPV ks) ok) u:=by
 have hrk:=abf hk K hof
 have hpk:=aie hk hof
 obtain ⟨d,hd,hkey⟩:=aig hkT hrk
 rw [hpk] at hkey
 obtain ⟨i,z,hi,hiz,his,hzs,hze,hzr,hzo2⟩:=abr (Γ:=Γ) (D:=D) (ow:=ow) (μ:=μ) (st:=st) (w:=w) hz
 have hall:∀ (j:Nat) (e:MapEntry) (x:PV×PV),ents.toList[j]?=some e->es[j]?=some x->KeyIs Γ.P K d x.1 e.key:=by
  intro j e x he hx
  obtain ⟨d',hd',hy⟩:=aig hkT (h1 j x hx)
  rw [hd] at hd';cases hd'
  rw [(h3 j e (by simpa using he)).1];exact hy
 have fin:∀ (x:PV) (val:Value),SRep Γ.P D w ow μ st (ofPV Γ.P E x) val->∀ b,PV.mhas es (toPV ks)=b->(PV.mget es (toPV ks)).getD (toPV (abi Γ.P 12 E))=x->
  SRep Γ.P D w ow μ st (ajf Γ.P E es (toPV ks) ok) (if ok then .tuple #[val,.bool b] else val):=by
  intro x val hx b hb he
  unfold ajf
  rw [he,hb]
  cases ok
  ·exact hx
  ·refine .tup (by simp) (fun j s v hj hv=>?_)
   match j with
   | 0=>simp at hj hv;subst hj;subst hv;exact hx
   | 1=>simp at hj hv;subst hj;subst hv;exact .bool
   | (n+2)=>simp at hj
 rcases ams hd hkey ents.toList es 0 (by simpa using hsz) hall with ⟨j,x,e,q1,q2,q3,q4,q5,_⟩ | ⟨q1,q2,_⟩
 ·have hv:=(h3 j e (by simpa using q2)).2
  refine ⟨if ok then .tuple #[e.val,.bool true] else e.val,?_,fin x.2 e.val (by rw [hv];exact (h2 j x q1).ofPV) true (by simp [PV.mhas,q4]) (by simp [q4])⟩
  simp [Instr.lookup,run_underlying hT,getObj,Sem.run,hh,ada hd hkey,ad4 hd q5]
 ·refine ⟨if ok then .tuple #[z,.bool false] else z,?_,fin (toPV (abi Γ.P 12 E)) z ?_ false (by simp [PV.mhas,q1]) (by simp [q1])⟩
  ·simp [Instr.lookup,run_underlying hT,getObj,Sem.run,hh,ada hd hkey,ad4 hd q2,zeroValue,typeInfo,hi,hiz]
  ·have:=(abf hzr E hzo).ofPV (ow:=ow) (μ:=μ) (st:=st)
   rwa [<-hze] at this
theorem apo (hw:WRel Γ D ow μ st w) (T:TypeId) (m k:SV) (mv kv:Value) (ok:Bool) (v:SV) (hm:SRep Γ.P D w ow μ st m mv) (hk:SRep Γ.P D w ow μ st k kv) (h:aef Γ.P T st m k ok=.val true v):
 ∃ u,(Instr.lookup T mv kv ok).run Γ.P w=.ok u w/\SRep Γ.P D w ow μ st v u:=by
 unfold aef at h
 split at h
 ·rename_i K E hT
  cases hc:(keyT Γ.P K&&isOf Γ.P K k&&acb Γ.P E&&isOf Γ.P E (abi Γ.P 12 E)) with
  | false=>rw [hc] at h;simp at h
  | true=>
   rw [hc] at h
   simp only [cond_true] at h
   simp only [Bool.and_eq_true] at hc
   obtain ⟨⟨⟨c1,c2⟩,c3⟩,c4⟩:=hc
   split at h
   ·rename_i K' E' es
    cases hb:(Nat.beq K K'&&Nat.beq E E') with
    | false=>rw [hb] at h;simp at h
    | true=>
     rw [hb] at h
     simp only [Bool.and_eq_true] at hb
     have:=Nat.eq_of_beq_eq_true hb.1;subst this
     have:=Nat.eq_of_beq_eq_true hb.2;subst this
     simp only [cond_true,Ac.val.injEq,true_and] at h;subst h
     cases hm with
     | map hm=>
      cases hm with
      | nil=>
       have hrk:=abf hk K c2
       have hpk:=aie hk c2
       obtain ⟨d,hd,hkey⟩:=aig c1 hrk
       rw [hpk] at hkey
       obtain ⟨i,z,hi,hiz,his,hzs,hze,hzr,hzo2⟩:=abr (Γ:=Γ) (D:=D) (ow:=ow) (μ:=μ) (st:=st) (w:=w) c3
       have hz:=(abf hzr E c4).ofPV (ow:=ow) (μ:=μ) (st:=st)
       rw [<-hze] at hz
       refine ⟨if ok then .tuple #[z,.bool false] else z,?_,?_⟩
       ·simp [Instr.lookup,run_underlying hT,ada hd hkey,ad4 hd (auo d),zeroValue,typeInfo,hi,hiz]
       ·unfold ajf
        have e1:PV.mget [] (toPV k)=none:=rfl
        have e2:PV.mhas [] (toPV k)=false:=rfl
        rw [e1,e2]
        cases ok
        ·exact hz
        ·refine .tup (by simp) (fun j s v hj hv=>?_)
         match j with
         | 0=>simp at hj hv;subst hj;subst hv;exact hz
         | 1=>simp at hj hv;subst hj;subst hv;exact .bool
         | (n+2)=>simp at hj
      | mk kc vc hh hd hsz h1 h2 h3=>exact ale T K E hT k kv ok c1 hk c2 c3 c4 _ _ _ es kc vc hh hsz h1 h2 h3.1
   ·rename_i j
    split at h
    ·rename_i K' E' es hj
     cases hb:(Nat.beq K K'&&Nat.beq E E') with
     | false=>rw [hb] at h;simp at h
     | true=>
      rw [hb] at h
      simp only [Bool.and_eq_true] at hb
      have:=Nat.eq_of_beq_eq_true hb.1;subst this
      have:=Nat.eq_of_beq_eq_true hb.2;subst this
      simp only [cond_true,Ac.val.injEq,true_and] at h;subst h
      cases hm
      obtain ⟨ents,clock,kc,vc,r1,_,_,r4,r5,r6,r7⟩:=hw.map j K E es hj
      exact ale T K E hT k kv ok c1 hk c2 c3 c4 _ _ _ es kc vc r1 r4 r5 r6 r7.1
    ·simp at h
   ·simp at h
 ·simp at h
end
end Go.Ab
