/- Maps. -/
import Derived.Test.YtcpkdafleaddlaaGreatDoorAbMem
set_option linter.unusedVariables false
set_option linter.unusedSimpArgs false
set_option linter.unnecessarySimpa false
namespace Go.Ab
open Go
section
variable {Γ:Ctx}{D:Dom}{ow:Own}{μ:Nat->Nat}{st:List BX}{w:World}
theorem aki {P:Program}{s:SV}{v:Value}{T:TypeId} (h:SRep P D w ow μ st s v) (d:isOf P T s=true):pack P T v.cells.toList=v:=by
 have m:∀ {u:Value},u.oneCell'=true->aak P T=false->pack P T u.cells.toList=u:=by grind [aem,pack]
 cases h with
 | data H V=>grind [isOf,Nat.eq_of_beq_eq_true,Value.cells,pack]
 | agg o M O W U=>simp only [isOf,Ai] at d;grind [Nat.eq_of_beq_eq_true,Value.cells,pack,aak]
 | bool=>
  unfold isOf at d;split at d<;>first | cases d | skip
  rename_i o;exact m rfl (by simp [aak,o])
 | int=>
  unfold isOf at d;split at d<;>first | cases d | skip
  rename_i o;exact m rfl (by simp [aak,o])
 | str=>
  unfold isOf at d;split at d<;>first | cases d | skip
  rename_i o;exact m rfl (by simp [aak,o])
 | slice z=>
  unfold isOf at d;split at d<;>first | cases d | skip
  rename_i o;cases z<;>exact m rfl (by simp [aak,o])
 | map z=>
  unfold isOf at d;split at d<;>first | cases d | skip
  rename_i o;cases z<;>exact m rfl (by simp [aak,o])
 | lit z=>
  unfold isOf at d;split at d<;>first | cases d | skip
  rename_i o;exact m rfl (by simp [aak,o])
 | nils=>
  unfold isOf at d;split at d<;>first | cases d | skip
  rename_i o;exact m rfl (by simp [aak,o])
 | acc z=>
  unfold isOf at d;split at d<;>first | cases d | skip
  rename_i o;cases z<;>exact m rfl (by simp [aak,o])
 | raw=>simp only [isOf,Ai] at d;grind [rawT,aak]
 | undef=>simp [isOf] at d
 | ifc=>simp [isOf] at d
 | ref=>simp [isOf] at d
 | mref=>simp [isOf] at d
 | iref=>simp [isOf] at d
 | bref=>simp [isOf] at d
 | nx=>simp [isOf] at d
 | arrOld=>simp [isOf] at d
 | arrNil=>simp [isOf] at d
 | arr=>simp [isOf] at d
 | arefOld=>simp [isOf] at d
 | aref=>simp [isOf] at d
 | eref=>simp [isOf] at d
 | asl=>simp [isOf] at d
 | eif=>simp [isOf] at d
 | pto=>simp [isOf] at d
 | fn=>simp [isOf] at d
 | tup=>simp [isOf] at d
theorem ayl (x y:Bq):((⟨x.toArray⟩:ByteArray)==⟨y.toArray⟩)=(x==y):=by show (x.toArray==y.toArray)=_;simp
inductive KeyIs (P:Program) (K:TypeId) (d:TypeDesc):PV->Value->Prop
 | str (s:Bq):d=.string->KeyIs P K d (.str s) (.string ⟨s.toArray⟩)
 | int (k:IntKind) (n:Int):d=.int k->KeyIs P K d (.int n) (.int k n)
 | bool (b:Bool):d=.bool->KeyIs P K d (.bool b) (.bool b)
theorem akl {P:Program}{K:TypeId} (o:keyT P K=true) {x:PV}{cs:List Value} (h:Rep P D w K x cs):∃ d,P.underlying K=some d/\KeyIs P K d x (pack P K cs):=by
 unfold keyT at o;cases h with
 | bool m=>exact ⟨_,m,by simp only [pack,aak,m];exact .bool _ rfl⟩
 | int m=>exact ⟨_,m,by simp only [pack,aak,m];exact .int _ _ rfl⟩
 | str m=>exact ⟨_,m,by simp only [pack,aak,m];exact .str _ rfl⟩
 | nil m=>grind
 | slice m=>grind
 | agg m=>grind
 | arr m=>grind
 | mapnil m=>grind
 | map _ _ m=>grind
 | raw z=>grind [rawT]
theorem a96 {P:Program}{K:TypeId}{d:TypeDesc}{x y:PV}{a b:Value} (H:KeyIs P K d x a) (z:KeyIs P K d y b):Instr.sameNow d a b=some (alg x y):=by
 cases H with
 | str s o=>subst o;cases z with
  | str t _=>simp [Instr.sameNow,alg,ayl]
  | int _ _ h=>cases h
  | bool _ h=>cases h
 | int k n o=>subst o;cases z with
  | int M m h=>grind [Instr.sameNow,alg]
  | str _ h=>cases h
  | bool _ h=>cases h
 | bool p o=>subst o;cases z with
  | bool q _=>simp [Instr.sameNow,alg]
  | int _ _ h=>cases h
  | str _ h=>cases h
theorem aqc {P:Program}{K:TypeId}{d:TypeDesc}{k:PV}{U:Value} (X:KeyIs P K d k U):∀ (l:List MapEntry) (es:List (PV×PV)) (i:Nat),l.length=es.length->
 (∀ (j:Nat) (e:MapEntry) (x:PV×PV),l[j]?=some e->es[j]?=some x->KeyIs P K d x.1 e.key)->
 (∃ (j:Nat) (x:PV×PV) (e:MapEntry),es[j]?=some x/\l[j]?=some e/\alg k x.1=true/\PV.mget es k=some x.2/\Instr.findNow d U l i=some (some (i+j,e.val))/\∀ v,PV.mput es k v=es.set j (x.1,v))\/
 (PV.mget es k=none/\Instr.findNow d U l i=some none/\∀ v,PV.mput es k v=es++[(k,v)]):=by
 intro l
 induction l with
 | nil=>
  intro es i O _
  have:es=[]:=Az (by grind)
  subst this
  exact Or.inr ⟨rfl,rfl,λv=>rfl⟩
 | cons e r Y=>
  intro es i O m
  cases es with
  | nil=>simp at O
  | cons x q=>
   have hs:=a96 X (m 0 e x rfl rfl)
   cases M:alg k x.1 with
   | true=>refine Or.inl ⟨0,x,e,rfl,rfl,M,by simp [PV.mget,M],by grind [Instr.findNow],λv=>by simp [PV.mput,M]⟩
   | false=>
    have:=Y q (i+1) (by simpa using O) (λj H V o z=>m (j+1) H V (by simpa using o) (by simpa using z))
    rcases this with ⟨j,V,H,o,z,W,Z,h5,h6⟩ | ⟨o,z,W⟩
    ·refine Or.inl ⟨j+1,V,H,by simpa using o,by simpa using z,W,?_,?_,λv=>?_⟩;all_goals grind [PV.mget,Instr.findNow,PV.mput]
    grind [PV.mget,Instr.findNow,PV.mput]
theorem aed {P:Program}{K:TypeId}{d:TypeDesc}{k:PV}{H:Value} (z:P.underlying K=some d) (M:KeyIs P K d k H) (e:Bool) (n:Nat) (w:World):(Instr.checkKey e (n+1) K H).run P w=.ok () w:=by
 cases M with
 | str s o=>subst o;simp [Instr.checkKey,run_underlying z]
 | int O m o=>subst o;simp [Instr.checkKey,run_underlying z]
 | bool b o=>subst o;simp [Instr.checkKey,run_underlying z]
theorem aby {T:TypeId} (h:adc Γ.P T=true):∃ (i:TypeInfo) (z:Value),Γ.P.info? T=some i/\i.zero=some z/\i.size=Γ.P.cellsOf T/\z.cells.size=Γ.P.cellsOf T/\z=pack Γ.P T z.cells.toList/\
 SRep Γ.P D w ow μ st (abp Γ.P 12 T) z/\(∀ c,c∈z.cells.toList->c.oneCell'=true):=by
 unfold adc at h
 cases m:Γ.P.info? T with
 | none=>grind
 | some i=>
  rw [m] at h
  simp only [Option.map_some] at h
  cases o:i.zero with
  | none=>grind
  | some z=>
   rw [o] at h
   simp only [Ai] at h
   obtain ⟨⟨H,M⟩,d⟩:=h
   obtain ⟨U,O⟩:=a2k (P:=Γ.P) (D:=D) (ow:=ow) (μ:=μ) (st:=st) (w:=w) 12 T _ H
   have e:z=pack Γ.P T z.cells.toList:=by
    unfold pack;cases z with
    | agg cs=>simp at d;simp [d,Value.cells]
    | tuple V=>grind [Value.cells,Value.oneCell']
    | _=>simp at d;simp [d,Value.cells]
   exact ⟨i,z,rfl,o,by simp [Program.cellsOf,m],Af M,e,by grind,O⟩
theorem ae8 {P:Program}{K:TypeId}{d:TypeDesc}{m:Value}{es:List MapEntry}{r:Option (Nat×Value)} (o:P.underlying K=some d) (h:Instr.findNow d m es 0=some r) (w:World):(Instr.findKey K m es).run P w=.ok r w:=by simp [Instr.findKey,run_underlying o,h]
theorem aoc (T K E:TypeId) (hT:Γ.P.underlying T=some (.map K E)) (ks:SV) (kv:Value) (ok:Bool) (Y:keyT Γ.P K=true) (hk:SRep Γ.P D w ow μ st ks kv) (M:isOf Γ.P K ks=true) (hz:adc Γ.P E=true) (ad:isOf Γ.P E (abp Γ.P 12 E)=true)
 (r clock:Nat) (ents:Array MapEntry) (es:List (PV×PV)) (kc vc:Nat->List Value) (hh:w.heap[r]?=some (.map ents clock)) (ab:ents.size=es.length)
 (h1:∀ (i:Nat) (x:PV×PV),es[i]?=some x->Rep Γ.P D w K x.1 (kc i)) (h2:∀ (i:Nat) (x:PV×PV),es[i]?=some x->Rep Γ.P D w E x.2 (vc i))
 (h3:∀ (i:Nat) (e:MapEntry),ents[i]?=some e->e.key=pack Γ.P K (kc i)/\e.val=pack Γ.P E (vc i)):
 ∃ u,(Instr.lookup T (.map (some r)) kv ok).run Γ.P w=.ok u w/\SRep Γ.P D w ow μ st (alj Γ.P E es (toPV ks) ok) u:=by
 have aa:=abk hk K M
 have Z:=aki hk M
 obtain ⟨d,O,m⟩:=akl Y aa
 rw [Z] at m
 obtain ⟨i,z,hi,W,ag,ai,ah,ae,af⟩:=aby (Γ:=Γ) (D:=D) (ow:=ow) (μ:=μ) (st:=st) (w:=w) hz
 have H:∀ (j:Nat) (e:MapEntry) (x:PV×PV),ents.toList[j]?=some e->es[j]?=some x->KeyIs Γ.P K d x.1 e.key:=by grind [akl]
 have o:∀ (x:PV) (val:Value),SRep Γ.P D w ow μ st (ofPV Γ.P E x) val->∀ b,PV.mhas es (toPV ks)=b->(PV.mget es (toPV ks)).getD (toPV (abp Γ.P 12 E))=x->
  SRep Γ.P D w ow μ st (alj Γ.P E es (toPV ks) ok) (if ok then .tuple #[val,.bool b] else val):=by
  intro x val hx b hb he
  unfold alj
  rw [he,hb]
  cases ok
  ·exact hx
  ·refine .tup (by simp) (λj s v X U=>?_);match j with
   | 0=>grind
   | 1=>simp at X U;subst X;subst U;exact .bool
   | (n+2)=>simp at X
 rcases aqc m ents.toList es 0 (by simpa using ab) H with ⟨j,x,e,V,q2,q3,q4,q5,_⟩ | ⟨V,q2,_⟩
 ·have U:=(h3 j e (by simpa using q2)).2;refine ⟨if ok then .tuple #[e.val,.bool true] else e.val,?_,o x.2 e.val (by rw [U];exact (h2 j x V).ofPV) true (by simp [PV.mhas,q4]) (by simp [q4])⟩;simp [Instr.lookup,run_underlying hT,getObj,Sem.run,hh,aed O m,ae8 O q5]
 ·refine ⟨if ok then .tuple #[z,.bool false] else z,?_,o (toPV (abp Γ.P 12 E)) z ?_ false (by simp [PV.mhas,V]) (by simp [V])⟩
  ·simp [Instr.lookup,run_underlying hT,getObj,Sem.run,hh,aed O m,ae8 O q2,zeroValue,typeInfo,hi,W]
  ·have:=(abk ae E ad).ofPV (ow:=ow) (μ:=μ) (st:=st);grind
theorem aum (hw:WRel Γ D ow μ st w) (T:TypeId) (m k:SV) (mv O:Value) (ok:Bool) (v:SV) (W:SRep Γ.P D w ow μ st m mv) (V:SRep Γ.P D w ow μ st k O) (h:afi Γ.P T st m k ok=.val true v):
 ∃ u,(Instr.lookup T mv O ok).run Γ.P w=.ok u w/\SRep Γ.P D w ow μ st v u:=by
 unfold afi at h
 split at h
 ·rename_i K E hT;cases hc:(keyT Γ.P K&&isOf Γ.P K k&&adc Γ.P E&&isOf Γ.P E (abp Γ.P 12 E)) with
  | false=>grind
  | true=>
   rw [hc] at h;simp only [Ad] at h;simp only [Ai] at hc;obtain ⟨⟨⟨Z,U⟩,c3⟩,c4⟩:=hc;split at h
   ·rename_i Y X es;cases o:(Nat.beq K Y&&Nat.beq E X) with
    | false=>grind
    | true=>
     rw [o] at h;simp only [Ai] at o;have:=Af o.1;subst this;have:=Af o.2;subst this;simp only [Ad,Ac.val.injEq,true_and] at h;subst h;cases W with
     | map W=>
      cases W with
      | nil=>
       have ad:=abk V K U;have ab:=aki V U;obtain ⟨d,hd,H⟩:=akl Z ad;rw [ab] at H;obtain ⟨i,z,hi,aa,ai,aj,af,ag,ah⟩:=aby (Γ:=Γ) (D:=D) (ow:=ow) (μ:=μ) (st:=st) (w:=w) c3;have hz:=(abk ag E c4).ofPV (ow:=ow) (μ:=μ) (st:=st);rw [<-af] at hz;refine ⟨if ok then .tuple #[z,.bool false] else z,?_,?_⟩
       ·simp [Instr.lookup,run_underlying hT,aed hd H,ae8 hd (show Instr.findNow d O [] 0=some none from rfl),zeroValue,typeInfo,hi,aa]
       ·unfold alj;have e1:PV.mget [] (toPV k)=none:=rfl;have e2:PV.mhas [] (toPV k)=false:=rfl;rw [e1,e2];cases ok
        ·exact hz
        ·refine .tup (by simp) (λj s v M hv=>?_);match j with
         | 0=>grind
         | 1=>simp at M hv;subst M;subst hv;exact .bool
         | (n+2)=>simp at M
      | mk kc vc hh hd ae h1 h2 h3=>exact aoc T K E hT k O ok Z V U c3 c4 _ _ _ es kc vc hh ae h1 h2 h3
   ·rename_i j;split at h
    ·rename_i Y X es M;cases o:(Nat.beq K Y&&Nat.beq E X) with
     | false=>grind
     | true=>rw [o] at h;simp only [Ai] at o;have:=Af o.1;subst this;have:=Af o.2;subst this;simp only [Ad,Ac.val.injEq,true_and] at h;subst h;cases W;obtain ⟨ents,clock,kc,vc,r1,_,_,r4,r5,r6,r7⟩:=hw.map j K E es M;exact aoc T K E hT k O ok Z V U c3 c4 _ _ _ es kc vc r1 r4 r5 r6 r7
    ·simp at h
   ·simp at h
 ·simp at h
end
end Go.Ab
