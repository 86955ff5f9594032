/- Maps. -/
import Derived.Test.YthokbeimbdnnoaaGreatDoorAbMem
set_option linter.unusedVariables false
set_option linter.unusedSimpArgs false
set_option linter.unnecessarySimpa false
namespace Go.Ab
open Go
section
variable {Γ:Ctx}{D:Dom}{ow:Own}{μ:Nat->Nat}{st:List BX}{w:World}
theorem aib {P:Program}{s:SV}{v:Value}{T:TypeId} (h:SRep P D w ow μ st s v) (hi:isOf P T s=true):pack P T v.cells.toList=v:=by
 have one:∀ {u:Value},u.oneCell'=true->aak P T=false->pack P T u.cells.toList=u:=by
  intro u hu ha
  rw [adq hu];simp [pack,ha]
 cases h with
 | data ha hr=>
  simp only [isOf] at hi
  have:=Nat.eq_of_beq_eq_true hi;subst this
  simp [Value.cells,pack,ha]
 | agg hT hl ho hv hp=>
  simp only [isOf,Bool.and_eq_true] at hi
  have:=Nat.eq_of_beq_eq_true hi.1.1;subst this
  simp [Value.cells,pack,aak,hT]
 | bool=>unfold isOf at hi;split at hi<;>first | cases hi | skip
         rename_i hT;exact one rfl (by simp [aak,hT])
 | int=>unfold isOf at hi;split at hi<;>first | cases hi | skip
        rename_i hT;exact one rfl (by simp [aak,hT])
 | str=>unfold isOf at hi;split at hi<;>first | cases hi | skip
        rename_i hT;exact one rfl (by simp [aak,hT])
 | slice hs=>unfold isOf at hi;split at hi<;>first | cases hi | skip
             rename_i hT;cases hs<;>exact one rfl (by simp [aak,hT])
 | map hs=>unfold isOf at hi;split at hi<;>first | cases hi | skip
           rename_i hT;cases hs<;>exact one rfl (by simp [aak,hT])
 | lit hs=>unfold isOf at hi;split at hi<;>first | cases hi | skip
           rename_i hT;exact one rfl (by simp [aak,hT])
 | nils=>unfold isOf at hi;split at hi<;>first | cases hi | skip
         rename_i hT;exact one rfl (by simp [aak,hT])
 | acc hs=>unfold isOf at hi;split at hi<;>first | cases hi | skip
           rename_i hT;cases hs<;>exact one rfl (by simp [aak,hT])
 | raw=>
  simp only [isOf,Bool.and_eq_true] at hi
  refine one hi.2 ?_
  have h1:=hi.1
  unfold rawT at h1;unfold aak
  split at h1<;>simp_all
 | undef=>simp [isOf] at hi
 | ifc=>simp [isOf] at hi
 | ref=>simp [isOf] at hi
 | mref=>simp [isOf] at hi
 | iref=>simp [isOf] at hi
 | mitr=>simp [isOf] at hi
 | sln=>simp [isOf] at hi
 | bref=>simp [isOf] at hi
 | nx=>simp [isOf] at hi
 | arrOld=>simp [isOf] at hi
 | arrNil=>simp [isOf] at hi
 | arr=>simp [isOf] at hi
 | arefOld=>simp [isOf] at hi
 | aref=>simp [isOf] at hi
 | eref=>simp [isOf] at hi
 | asl=>simp [isOf] at hi
 | eif=>simp [isOf] at hi
 | pto=>simp [isOf] at hi
 | fn=>simp [isOf] at hi
 | tup=>simp [isOf] at hi
theorem as4 (x y:List UInt8):((⟨x.toArray⟩:ByteArray)==⟨y.toArray⟩)=(x==y):=by
 show (x.toArray==y.toArray)=_
 simp
inductive KeyIs (P:Program) (K:TypeId) (d:TypeDesc):PV->Value->Prop
 | str (s:List UInt8):d=.string->KeyIs P K d (.str s) (.string ⟨s.toArray⟩)
 | int (k:IntKind) (n:Int):d=.int k->KeyIs P K d (.int n) (.int k n)
 | bool (b:Bool):d=.bool->KeyIs P K d (.bool b) (.bool b)
theorem aid {P:Program}{K:TypeId} (hk:keyT P K=true) {x:PV}{cs:List Value} (h:Rep P D w K x cs):∃ d,P.underlying K=some d/\KeyIs P K d x (pack P K cs):=by
 unfold keyT at hk
 cases h with
 | bool hT=>exact ⟨_,hT,by simp only [pack,aak,hT];exact .bool _ rfl⟩
 | int hT=>exact ⟨_,hT,by simp only [pack,aak,hT];exact .int _ _ rfl⟩
 | str hT=>exact ⟨_,hT,by simp only [pack,aak,hT];exact .str _ rfl⟩
 | nil hT=>rw [hT] at hk;cases hk
 | slice hT=>rw [hT] at hk;cases hk
 | agg hT=>rw [hT] at hk;cases hk
 | arr hT=>rw [hT] at hk;cases hk
 | mapnil hT=>rw [hT] at hk;cases hk
 | map _ _ hT=>rw [hT] at hk;cases hk
 | raw hr=>unfold rawT at hr;split at hk<;>simp_all
theorem a0y {P:Program}{K:TypeId}{d:TypeDesc}{x y:PV}{a b:Value} (hx:KeyIs P K d x a) (hy:KeyIs P K d y b):Instr.sameNow d a b=some (aj2 x y):=by
 cases hx with
 | str s hd=>subst hd;cases hy with
  | str t _=>simp [Instr.sameNow,aj2,as4]
  | int _ _ h=>cases h
  | bool _ h=>cases h
 | int k n hd=>subst hd;cases hy with
  | int k' m h=>cases h;simp [Instr.sameNow,aj2]
  | str _ h=>cases h
  | bool _ h=>cases h
 | bool p hd=>subst hd;cases hy with
  | bool q _=>simp [Instr.sameNow,aj2]
  | int _ _ h=>cases h
  | str _ h=>cases h
theorem amu {P:Program}{K:TypeId}{d:TypeDesc}{k:PV}{kv:Value} (hk:KeyIs P K d k kv):∀ (l:List MapEntry) (es:List (PV×PV)) (i:Nat),l.length=es.length->
 (∀ (j:Nat) (e:MapEntry) (x:PV×PV),l[j]?=some e->es[j]?=some x->KeyIs P K d x.1 e.key)->
 (∃ (j:Nat) (x:PV×PV) (e:MapEntry),es[j]?=some x/\l[j]?=some e/\aj2 k x.1=true/\PV.mget es k=some x.2/\Instr.findNow d kv l i=some (some (i+j,e.val))/\∀ v,PV.mput es k v=es.set j (x.1,v))∨
 (PV.mget es k=none/\Instr.findNow d kv l i=some none/\∀ v,PV.mput es k v=es++[(k,v)]):=by
 intro l
 induction l with
 | nil=>
  intro es i hl _
  have:es=[]:=List.eq_nil_of_length_eq_zero (by simpa using hl.symm)
  subst this
  exact Or.inr ⟨rfl,rfl,fun v=>rfl⟩
 | cons e r ih=>
  intro es i hl hall
  cases es with
  | nil=>simp at hl
  | cons x q=>
   have hs:=a0y hk (hall 0 e x rfl rfl)
   cases hb:aj2 k x.1 with
   | true=>
    refine Or.inl ⟨0,x,e,rfl,rfl,hb,by simp [PV.mget,hb],by simp [Instr.findNow,hs,hb],fun v=>by simp [PV.mput,hb]⟩
   | false=>
    have:=ih q (i+1) (by simpa using hl) (fun j e' x' h1 h2=>hall (j+1) e' x' (by simpa using h1) (by simpa using h2))
    rcases this with ⟨j,x',e',h1,h2,h3,h4,h5,h6⟩ | ⟨h1,h2,h3⟩
    ·refine Or.inl ⟨j+1,x',e',by simpa using h1,by simpa using h2,h3,?_,?_,fun v=>?_⟩
     ·simpa [PV.mget,hb] using h4
     ·simp [Instr.findNow,hs,hb,h5];omega
     ·simp [PV.mput,hb,h6]
    ·refine Or.inr ⟨by simpa [PV.mget,hb] using h1,by simp [Instr.findNow,hs,hb,h2],fun v=>by simp [PV.mput,hb,h3]⟩
theorem adc {P:Program}{K:TypeId}{d:TypeDesc}{k:PV}{kv:Value} (hK:P.underlying K=some d) (hk:KeyIs P K d k kv) (e:Bool) (n:Nat) (w:World):(Instr.checkKey e (n+1) K kv).run P w=.ok () w:=by
 cases hk with
 | str s hd=>subst hd;simp [Instr.checkKey,run_underlying hK]
 | int k' m hd=>subst hd;simp [Instr.checkKey,run_underlying hK]
 | bool b hd=>subst hd;simp [Instr.checkKey,run_underlying hK]
theorem abr {T:TypeId} (h:aca Γ.P T=true):∃ (i:TypeInfo) (z:Value),Γ.P.info? T=some i/\i.zero=some z/\i.size=Γ.P.cellsOf T/\z.cells.size=Γ.P.cellsOf T/\z=pack Γ.P T z.cells.toList/\
 SRep Γ.P D w ow μ st (abi Γ.P 12 T) z/\(∀ c,c∈z.cells.toList->c.oneCell'=true):=by
 unfold aca at h
 cases hi:Γ.P.info? T with
 | none=>rw [hi] at h;simp at h
 | some i=>
  rw [hi] at h
  simp only [Option.map_some] at h
  cases hz:i.zero with
  | none=>rw [hz] at h;simp at h
  | some z=>
   rw [hz] at h
   simp only [Bool.and_eq_true] at h
   obtain ⟨⟨h1,h2⟩,h3⟩:=h
   obtain ⟨q1,q2⟩:=avw (P:=Γ.P) (D:=D) (ow:=ow) (μ:=μ) (st:=st) (w:=w) 12 T _ h1
   have e:z=pack Γ.P T z.cells.toList:=by
    unfold pack
    cases z with
    | agg cs=>simp at h3;simp [h3,Value.cells]
    | tuple vs=>
     have:=q2 (.tuple vs) (by simp [Value.cells])
     simp [Value.oneCell'] at this
    | _=>simp at h3;simp [h3,Value.cells]
   exact ⟨i,z,rfl,hz,by simp [Program.cellsOf,hi],Nat.eq_of_beq_eq_true h2,e,by rw [<-e] at q1;exact q1,q2⟩
theorem ad9 {P:Program}{K:TypeId}{d:TypeDesc}{kv:Value}{es:List MapEntry}{r:Option (Nat×Value)} (hK:P.underlying K=some d) (h:Instr.findNow d kv es 0=some r) (w:World):(Instr.findKey K kv es).run P w=.ok r w:=by
 simp [Instr.findKey,run_underlying hK,h]
theorem ald (T K E:TypeId) (hT:Γ.P.underlying T=some (.map K E)) (ks:SV) (kv:Value) (ok:Bool) (hkT:keyT Γ.P K=true) (hk:SRep Γ.P D w ow μ st ks kv) (hof:isOf Γ.P K ks=true) (hz:aca Γ.P E=true) (hzo:isOf Γ.P E (abi Γ.P 12 E)=true)
 (r clock:Nat) (ents:Array MapEntry) (es:List (PV×PV)) (kc vc:Nat->List Value) (hh:w.heap[r]?=some (.map ents clock)) (hsz:ents.size=es.length)
 (h1:∀ (i:Nat) (x:PV×PV),es[i]?=some x->Rep Γ.P D w K x.1 (kc i)) (h2:∀ (i:Nat) (x:PV×PV),es[i]?=some x->Rep Γ.P D w E x.2 (vc i))
 (h3:∀ (i:Nat) (e:MapEntry),ents[i]?=some e->e.key=pack Γ.P K (kc i)/\e.val=pack Γ.P E (vc i)):
 ∃ u,(Instr.lookup T (.map (some r)) kv ok).run Γ.P w=.ok u w/\SRep Γ.P D w ow μ st (aja Γ.P E es (toPV ks) ok) u:=by
 have hrk:=abe hk K hof
 have hpk:=aib hk hof
 obtain ⟨d,hd,hkey⟩:=aid hkT hrk
 rw [hpk] at hkey
 obtain ⟨i,z,hi,hiz,his,hzs,hze,hzr,hzo2⟩:=abr (Γ:=Γ) (D:=D) (ow:=ow) (μ:=μ) (st:=st) (w:=w) hz
 have hall:∀ (j:Nat) (e:MapEntry) (x:PV×PV),ents.toList[j]?=some e->es[j]?=some x->KeyIs Γ.P K d x.1 e.key:=by
  intro j e x he hx
  obtain ⟨d',hd',hy⟩:=aid hkT (h1 j x hx)
  rw [hd] at hd';cases hd'
  rw [(h3 j e (by simpa using he)).1];exact hy
 have fin:∀ (x:PV) (val:Value),SRep Γ.P D w ow μ st (ofPV Γ.P E x) val->∀ b,PV.mhas es (toPV ks)=b->(PV.mget es (toPV ks)).getD (toPV (abi Γ.P 12 E))=x->
  SRep Γ.P D w ow μ st (aja Γ.P E es (toPV ks) ok) (if ok then .tuple #[val,.bool b] else val):=by
  intro x val hx b hb he
  unfold aja
  rw [he,hb]
  cases ok
  ·exact hx
  ·refine .tup (by simp) (fun j s v hj hv=>?_)
   match j with
   | 0=>simp at hj hv;subst hj;subst hv;exact hx
   | 1=>simp at hj hv;subst hj;subst hv;exact .bool
   | (n+2)=>simp at hj
 rcases amu hkey ents.toList es 0 (by simpa using hsz) hall with ⟨j,x,e,q1,q2,q3,q4,q5,_⟩ | ⟨q1,q2,_⟩
 ·have hv:=(h3 j e (by simpa using q2)).2
  refine ⟨if ok then .tuple #[e.val,.bool true] else e.val,?_,fin x.2 e.val (by rw [hv];exact (h2 j x q1).ofPV) true (by simp [PV.mhas,q4]) (by simp [q4])⟩
  simp [Instr.lookup,run_underlying hT,getObj,Sem.run,hh,adc hd hkey,ad9 hd q5]
 ·refine ⟨if ok then .tuple #[z,.bool false] else z,?_,fin (toPV (abi Γ.P 12 E)) z ?_ false (by simp [PV.mhas,q1]) (by simp [q1])⟩
  ·simp [Instr.lookup,run_underlying hT,getObj,Sem.run,hh,adc hd hkey,ad9 hd q2,zeroValue,typeInfo,hi,hiz]
  ·have:=(abe hzr E hzo).ofPV (ow:=ow) (μ:=μ) (st:=st)
   rwa [<-hze] at this
theorem apu (hw:WRel Γ D ow μ st w) (T:TypeId) (m k:SV) (mv kv:Value) (ok:Bool) (v:SV) (hm:SRep Γ.P D w ow μ st m mv) (hk:SRep Γ.P D w ow μ st k kv) (h:aei Γ.P T st m k ok=.val true v):
 ∃ u,(Instr.lookup T mv kv ok).run Γ.P w=.ok u w/\SRep Γ.P D w ow μ st v u:=by
 unfold aei at h
 split at h
 ·rename_i K E hT
  cases hc:(keyT Γ.P K&&isOf Γ.P K k&&aca Γ.P E&&isOf Γ.P E (abi Γ.P 12 E)) with
  | false=>rw [hc] at h;simp at h
  | true=>
   rw [hc] at h
   simp only [cond_true] at h
   simp only [Bool.and_eq_true] at hc
   obtain ⟨⟨⟨c1,c2⟩,c3⟩,c4⟩:=hc
   split at h
   ·rename_i K' E' es
    cases hb:(Nat.beq K K'&&Nat.beq E E') with
    | false=>rw [hb] at h;simp at h
    | true=>
     rw [hb] at h
     simp only [Bool.and_eq_true] at hb
     have:=Nat.eq_of_beq_eq_true hb.1;subst this
     have:=Nat.eq_of_beq_eq_true hb.2;subst this
     simp only [cond_true,Ac.val.injEq,true_and] at h;subst h
     cases hm with
     | map hm=>
      cases hm with
      | nil=>
       have hrk:=abe hk K c2
       have hpk:=aib hk c2
       obtain ⟨d,hd,hkey⟩:=aid c1 hrk
       rw [hpk] at hkey
       obtain ⟨i,z,hi,hiz,his,hzs,hze,hzr,hzo2⟩:=abr (Γ:=Γ) (D:=D) (ow:=ow) (μ:=μ) (st:=st) (w:=w) c3
       have hz:=(abe hzr E c4).ofPV (ow:=ow) (μ:=μ) (st:=st)
       rw [<-hze] at hz
       refine ⟨if ok then .tuple #[z,.bool false] else z,?_,?_⟩
       ·simp [Instr.lookup,run_underlying hT,adc hd hkey,ad9 hd (show Instr.findNow d kv [] 0=some none from rfl),zeroValue,typeInfo,hi,hiz]
       ·unfold aja
        have e1:PV.mget [] (toPV k)=none:=rfl
        have e2:PV.mhas [] (toPV k)=false:=rfl
        rw [e1,e2]
        cases ok
        ·exact hz
        ·refine .tup (by simp) (fun j s v hj hv=>?_)
         match j with
         | 0=>simp at hj hv;subst hj;subst hv;exact hz
         | 1=>simp at hj hv;subst hj;subst hv;exact .bool
         | (n+2)=>simp at hj
      | mk kc vc hh hd hsz h1 h2 h3=>exact ald T K E hT k kv ok c1 hk c2 c3 c4 _ _ _ es kc vc hh hsz h1 h2 h3.1
   ·rename_i j
    split at h
    ·rename_i K' E' es hj
     cases hb:(Nat.beq K K'&&Nat.beq E E') with
     | false=>rw [hb] at h;simp at h
     | true=>
      rw [hb] at h
      simp only [Bool.and_eq_true] at hb
      have:=Nat.eq_of_beq_eq_true hb.1;subst this
      have:=Nat.eq_of_beq_eq_true hb.2;subst this
      simp only [cond_true,Ac.val.injEq,true_and] at h;subst h
      cases hm
      obtain ⟨ents,clock,kc,vc,r1,_,_,r4,r5,r6,r7⟩:=hw.map j K E es hj
      exact ald T K E hT k kv ok c1 hk c2 c3 c4 _ _ _ es kc vc r1 r4 r5 r6 r7.1
    ·simp at h
   ·simp at h
 ·simp at h
end
end Go.Ab
