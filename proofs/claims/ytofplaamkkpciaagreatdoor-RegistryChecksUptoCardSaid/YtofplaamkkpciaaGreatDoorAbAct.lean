/- Operations that touch no memory, or only read it. -/
import Derived.Test.YtofplaamkkpciaaGreatDoorAbRead
import Derived.Laws.BytesString
set_option linter.unusedVariables false
set_option linter.unusedSimpArgs false
set_option linter.unnecessarySimpa false
namespace Go.Ab
open Go
def OpRes(Γ:Ctx)(D:Dom)(ow:Own)(μ:Nat->Nat)(st:List BX)(w:World)(r:Result Next)(v:SV)(st':List BX):Prop:=
 ∃(u:Value)(w':World)(D':Dom)(m:Own)(o:Nat->Nat),(r=.ok (.value u) w'\/(r=.ok .skip w'/\u=Go.undef))/\WRel Γ D' m o st' w'/\Moves D w ow μ st D' w' m o st'/\SRep Γ.P D' w' m o st' v u
section
variable{Γ:Ctx}{D:Dom}{ow:Own}{μ:Nat->Nat}{st:List BX}{w:World}
theorem OpRes.still(t:WRel Γ D ow μ st w){r:Result Next}{v:SV}{u:Value}(m:r=.ok (.value u) w)(o:SRep Γ.P D w ow μ st v u):OpRes Γ D ow μ st w r v st:=
 ⟨u,w,D,ow,μ,Or.inl m,t,Moves.refl _ _ _ _ _,o⟩
theorem OpRes.grew(J:WRel Γ D ow μ st w){w':World}{D':Dom}{r:Result Next}{v:SV}{u:Value}(H:r=.ok (.value u) w')(g:Grew w w')(z:∀b o,D b o->D' b o)(G:∀b o,D' b o->D b o\/(w.heap.size<=b/\b<w'.heap.size))
 (I:Moves D w ow μ st D' w' ow μ st->SRep Γ.P D' w' ow μ st v u):OpRes Γ D ow μ st w r v st:=by
 obtain⟨t,m⟩:=J.grew g z G
 exact⟨u,w',D',ow,μ,Or.inl H,t,m,I m⟩
theorem a9x(T:TypeId)(t:BinOp)(k:IntKind)(x y:Int)(v:SV)(h:a5s t k x y=.val true v):
 ∃u,(binOp t T (.int k x) (.int k y)).run Γ.P w=.ok u w/\SRep Γ.P D w ow μ st v u:=by
 cases t<;>simp only[a5s,Ac.val.injEq,reduceCtorEq,true_and]at h
 case quo=>
  obtain⟨m,rfl⟩:=h
  have o:y≠0:=by simpa using m
  exact⟨_,by simp[binOp,Op.intDiv,o],.int⟩
 case rem=>
  obtain⟨m,rfl⟩:=h
  have o:y≠0:=by simpa using m
  exact⟨_,by simp[binOp,Op.intDiv,o],.int⟩
 all_goals subst h
 case add|sub|mul=>exact⟨_,by simp[binOp,Op.intArith],.int⟩
 case and|or|xor|andNot=>exact⟨_,by simp only[binOp,ite_not,A8];rfl,.int⟩
 all_goals exact⟨_,by simp[binOp,Op.intCmp],.bool⟩
theorem bb6(T:TypeId)(k m:IntKind)(x y:Int)(o:0<=y):(binOp .shl T (.int k x) (.int m y)).run Γ.P w=.ok (.int k (k.wrap (x*2^(min y.toNat k.bits)))) w:=by
 have:¬y<0:=by omega
 simp[binOp,Op.shift,this]
theorem bb7(T:TypeId)(k m:IntKind)(x y:Int)(o:0<=y):(binOp .shr T (.int k x) (.int m y)).run Γ.P w=.ok (.int k (x.fdiv (2^(min y.toNat k.bits)))) w:=by
 have:¬y<0:=by omega
 simp[binOp,Op.shift,this]
theorem bch(T:TypeId)(m:BinOp)(x y:Bn)(v:SV)(h:a7b m x y=.val true v):
 ∃u,(binOp m T (.string ⟨x.toArray⟩) (.string ⟨y.toArray⟩)).run Γ.P w=.ok u w/\SRep Γ.P D w ow μ st v u:=by
 cases m<;>simp only[a7b,Ac.val.injEq,reduceCtorEq,true_and]at h
 case add=>
  obtain⟨o,rfl⟩:=h
  have o:x.length+y.length<=aac:=by simpa using o
  refine⟨_,?_,.str (s:=x++y)⟩
  rw[binOp_string_add,run_string_add_sum _ _ _ (by show x.toArray.size+y.toArray.size<=_;grind[aac]),ByteArray.mk_append_mk]
 all_goals subst h
 all_goals exact⟨_,by simp[binOp,Op.stringOp,ByteArray.toList_mk],.bool⟩
theorem axe(d:Nat){T:TypeId}(m:Γ.P.underlying T=some .bool)(x y:Bool):(Op.equalIn (d+1) T (.bool x) (.bool y)).run Γ.P w=.ok (x==y) w:=by simp[Op.equalIn,run_underlying m]
theorem a4s(T:TypeId)(m:BinOp)(x y:Bool)(v:SV)(o:Γ.P.underlying T=some .bool)(h:atc m x y=.val true v):
 ∃u,(binOp m T (.bool x) (.bool y)).run Γ.P w=.ok u w/\SRep Γ.P D w ow μ st v u:=by
 have e:(Op.equal T (.bool x) (.bool y)).run Γ.P w=.ok (x==y) w:=by exact axe 9999 o x y
 cases m<;>simp only[atc,Ac.val.injEq,reduceCtorEq,true_and]at h
 all_goals subst h
 all_goals exact⟨_,by simp[binOp,e],.bool⟩
theorem aj8(T:TypeId)(t:BinOp)(a:Option Addr)(n c:Nat)(v:SV)(m:ajj Γ.P T=true)(b:Bool)(z:a.isNone=b)(h:ae4 t b=.val true v):
 ∃u,(binOp t T (.slice a n c) (.slice none 0 0)).run Γ.P w=.ok u w/\SRep Γ.P D w ow μ st v u:=by
 unfold ajj at m
 split at m
 case h_2=>cases m
 rename_i e G
 have o:∀d:Nat,(Op.equalIn (d+1) T (.slice a n c) (.slice none 0 0)).run Γ.P w=.ok b w:=λd=>by subst z;cases a<;>simp[Op.equalIn,run_underlying G]
 unfold ae4 at h
 split at h
 ·simp only[Ac.val.injEq,true_and]at h;subst h;exact⟨_,by simp[binOp,Op.equal,Op.maxDepth,o 9999],.bool⟩
 ·simp only[Ac.val.injEq,true_and]at h;subst h;exact⟨_,by simp[binOp,Op.equal,Op.maxDepth,o 9999],.bool⟩
 ·cases h
theorem a8g(T:TypeId)(z:BinOp)(x y:SV)(a b:Value)(v:SV)(G:SRep Γ.P D w ow μ st x a)(t:SRep Γ.P D w ow μ st y b)(h:azj Γ.P z T x y=.val true v)(J M:Operand):
 ∃u,(do eqGuard z T J M a b;binOp z T a b:Sem Value).run Γ.P w=.ok u w/\SRep Γ.P D w ow μ st v u:=by
 have o:∀p q:Value,(∀cs,p≠.agg cs)->p≠.nilIface->(eqGuard z T J M p q).run Γ.P w=.ok () w:=by intro p q I U;unfold eqGuard;simp_all
 unfold azj at h
 split at h
 ·rename_i k m H n;cases G;cases t;simp only[Sem.run_bind,o (.int k m) (.int H n) (by simp) (by simp),Result.andThen_ok];split at h
  ·simp only[Ac.val.injEq]at h;obtain⟨I,rfl⟩:=h;exact⟨_,bb6 T k H m n (by simpa using I),.int⟩
  ·simp only[Ac.val.injEq]at h;obtain⟨I,rfl⟩:=h;exact⟨_,bb7 T k H m n (by simpa using I),.int⟩
  ·cases O:decide (k=H)with
   |false=>grind
   |true=>
    rw[O]at h;have:k=H:=by simpa using O
    subst this;exact a9x T z k m n v h
 ·cases G;cases t;simp only[Sem.run_bind];rw[o _ _ (by simp) (by simp)];exact bch T z _ _ v h
 ·cases G;cases t;simp only[Sem.run_bind];rw[o _ _ (by simp) (by simp)];cases t:a0f Γ.P T with
  |false=>grind
  |true=>rw[t]at h;refine a4s T z _ _ v ?_ h;grind[a0f]
 ·rename_i E xs;cases G;cases t;simp only[Sem.run_bind];rw[o _ _ (by simp) (by simp)];cases t:ajj Γ.P T with
  |false=>grind
  |true=>rw[t]at h;exact aj8 T z _ _ _ v t false rfl h
 ·cases G;cases t;simp only[Sem.run_bind];rw[o _ _ (by simp) (by simp)];cases t:ajj Γ.P T with
  |false=>grind
  |true=>rw[t]at h;exact aj8 T z _ _ _ v t true rfl h
 ·exact ayz T z _ _ a b v G t h J M
theorem a0d(T:TypeId)(o:BinOp)(x:SV)(a:Value)(v:SV)(m:SRep Γ.P D w ow μ st x a)(U:aov Γ.P T=true)(h:ahn o x=.val true v)(V:Operand):
 ∃u,(do eqGuard o T V (.const .nilIface) a .nilIface;binOp o T a .nilIface:Sem Value).run Γ.P w=.ok u w/\SRep Γ.P D w ow μ st v u:=by
 unfold aov at U
 split at U
 case h_2=>cases U
 rename_i X W
 have H:∀d:Nat,(Op.equalIn (d+1) T .nilIface .nilIface).run Γ.P w=.ok true w:=λd=>by simp[Op.equalIn,run_underlying W]
 have G:∀(d:Nat)(t:TypeId)(z:Value),(Op.equalIn (d+1) T (.iface t z) .nilIface).run Γ.P w=.ok false w:=λd t z=>by simp[Op.equalIn,run_underlying W]
 have J:(eqGuard o T V (.const .nilIface) .nilIface .nilIface).run Γ.P w=.ok () w:=by rw[eqGuard_nil_constR];simp
 have I:∀(t:TypeId)(z:Value),(eqGuard o T V (.const .nilIface) (.iface t z) .nilIface).run Γ.P w=.ok () w:=λt z=>by unfold eqGuard;cases o<;>simp
 unfold ahn at h
 split at h
 ·rename_i b;simp only[Ac.val.injEq,true_and]at h;subst h;cases m with
  |eif M O=>
   cases b with
   |true=>rw[M rfl];refine⟨.bool true,?_,.bool⟩;simp only[Sem.run_bind,J,Result.andThen_ok,binOp];simp[Op.equal,Op.maxDepth,H 9999]
   |false=>obtain⟨t,u,rfl⟩:=O rfl;refine⟨.bool false,?_,.bool⟩;simp only[Sem.run_bind,I,Result.andThen_ok,binOp];simp[Op.equal,Op.maxDepth,G 9999]
 ·rename_i b;simp only[Ac.val.injEq,true_and]at h;subst h;cases m with
  |eif M O=>
   cases b with
   |true=>rw[M rfl];refine⟨.bool false,?_,.bool⟩;simp only[Sem.run_bind,J,Result.andThen_ok,binOp];simp[Op.equal,Op.maxDepth,H 9999]
   |false=>obtain⟨t,u,rfl⟩:=O rfl;refine⟨.bool true,?_,.bool⟩;simp only[Sem.run_bind,I,Result.andThen_ok,binOp];simp[Op.equal,Op.maxDepth,G 9999]
 ·simp only[Ac.val.injEq,true_and]at h;subst h;cases m;refine⟨.bool false,?_,.bool⟩;simp only[Sem.run_bind,I,Result.andThen_ok,binOp];simp[Op.equal,Op.maxDepth,G 9999]
 ·simp only[Ac.val.injEq,true_and]at h;subst h;cases m;refine⟨.bool true,?_,.bool⟩;simp only[Sem.run_bind,I,Result.andThen_ok,binOp];simp[Op.equal,Op.maxDepth,G 9999]
 ·simp only[Ac.val.injEq,true_and]at h;subst h;cases m;refine⟨.bool true,?_,.bool⟩;simp only[Sem.run_bind,J,Result.andThen_ok,binOp];simp[Op.equal,Op.maxDepth,H 9999]
 ·simp only[Ac.val.injEq,true_and]at h;subst h;cases m;refine⟨.bool false,?_,.bool⟩;simp only[Sem.run_bind,J,Result.andThen_ok,binOp];simp[Op.equal,Op.maxDepth,H 9999]
 ·simp at h
theorem bgc(o:UnOp)(x:SV)(a:Value)(v:SV)(m:SRep Γ.P D w ow μ st x a)(h:unAc o x=.val true v):∃u,(Op.unary o a).run Γ.P w=.ok u w/\SRep Γ.P D w ow μ st v u:=by
 unfold unAc at h;split at h
 ·cases m;simp only[Ac.val.injEq,true_and]at h;subst h;exact⟨_,by simp[Op.unary],.bool⟩
 ·cases m;simp only[Ac.val.injEq,true_and]at h;subst h;exact⟨_,by simp[Op.unary,Op.intArith],.int⟩
 ·cases m;simp only[Ac.val.injEq,true_and]at h;subst h;exact⟨_,by simp[Op.unary,Op.intBits,aer],.int⟩
 ·simp at h
theorem abv(b off j:Nat):(⟨b,off,none⟩:Addr).add j=⟨b,off+j,none⟩:=by grind[Addr.add]
theorem a4u:∀(m:List Int)(s:ByteArray),m.foldl (λr n=>r.push (UInt8.ofNat n.toNat)) s=⟨(s.data.toList++m.map λn=>UInt8.ofNat n.toNat).toArray⟩:=by
 intro m;induction m with
 |nil=>intro s;simp
 |cons n r o=>simp_all
theorem ag9{P:Program}{D:Dom}{w:World}{E o t:TypeId}{xs:List PV}{v:Value}(O:ad6 P o E=true)(V:P.underlying t=some .string)(h:SliceRep P D w E xs v):
 (convert o t v).run P w=.ok (.string ⟨(xs.map aa5).toArray⟩) w:=by
 unfold ad6 at O
 simp only[Ai]at O
 obtain⟨⟨h1,h2⟩,H⟩:=O
 have H:=Ag H
 have I:P.underlying E=some (.int .u8):=by grind[a9y]
 have W:P.underlying o=some (.slice E):=by grind[Nat.eq_of_beq_eq_true]
 cases h with
 |@nil a c Z=>
  rw[run_convert_bytes_string w o t E a 0 c W I V]
  cases a with
  |none=>simp[Conv.bytesToString];rfl
  |some a=>simp[Conv.bytesToString,loadCells,loadCellsFrom];rfl
 |@mk b off cap xs L hl Y hr hh=>
  rw[run_convert_bytes_string w o t E _ _ _ W I V]
  have J:L=(xs.map PV.asInt).map (Value.int .u8):=by
   rw[H,Nat.mul_one]at Y;apply List.ext_getElem?;intro i;by_cases hi:i<xs.length
   ·have X:xs[i]?=some xs[i]:=Ap hi;have:=hr i _ X;rw[H,Nat.mul_one]at this;have M:L[i]?=some L[i]:=Ap (by omega);have U:(L.drop i).take 1=[L[i]]:=by
     grind[List.take_one,List.head?_drop]
    rw[U]at this;rw[M];simp only[Bf,X,Option.map_some];generalize L[i]=c at this;generalize xs[i]=x at this;cases this with
    |int m=>rw[I]at m;cases m;rfl
    |bool m=>grind
    |str m=>grind
    |nil m=>grind
    |slice m=>grind
    |agg m=>grind
    |arr m=>grind
    |mapnil m=>grind
    |map _ _ m=>grind
    |raw m=>grind[rawT]
   grind
  have z:=run_loadCells_list (P:=P) w ⟨b,off,none⟩ L (λj v hj=>by rw[abv];exact(hh j v hj).2)
  have G:L.length=xs.length:=by grind
  rw[G]at z
  rw[run_bytesToString w ⟨b,off,none⟩ xs.length cap (xs.map PV.asInt) (by rw[z,J])]
  rw[a4u]
  simp[aa5,Function.comp_def]
theorem a5c(m H:TypeId)(x:SV)(a:Value)(v:SV)(o:SRep Γ.P D w ow μ st x a)(h:apu Γ.P m H x=.val true v):∃u,(convert m H a).run Γ.P w=.ok u w/\SRep Γ.P D w ow μ st v u:=by
 unfold apu at h;cases G:(Γ.P.underlying m).isSome with
 |false=>grind
 |true=>
 rw[G]at h;simp only[Ad]at h;obtain⟨d,I⟩:=Option.isSome_iff_exists.1 G;split at h
 ·rename_i k J n t;cases o;simp only[Ac.val.injEq,true_and]at h;subst h;exact⟨_,by simp[convert,run_underlying I,run_underlying t,Conv.intToInt],.int⟩
 ·rename_i s t;cases o;simp only[Ac.val.injEq,true_and]at h;subst h;exact⟨_,by simp[convert,run_underlying I,run_underlying t],.str⟩
 ·rename_i E xs t;cases z:ad6 Γ.P m E with
  |false=>grind
  |true=>
   rw[z]at h;simp only[Ad,Ac.val.injEq,true_and]at h;subst h;cases o with
   |slice o=>exact⟨_,ag9 z t o,.str⟩
 ·rename_i E xs t;cases z:ad6 Γ.P m E with
  |false=>grind
  |true=>
   rw[z]at h;simp only[Ad,Ac.val.injEq,true_and]at h;subst h;cases o with
   |acc o=>exact⟨_,ag9 z t o,.str⟩
 ·rename_i E xs t;cases z:ad6 Γ.P m E with
  |false=>grind
  |true=>
   rw[z]at h;simp only[Ad,Ac.val.injEq,true_and]at h;subst h;cases o with
   |lit o=>exact⟨_,ag9 z t o,.str⟩
 ·rename_i k n t;cases o;simp only[Ac.val.injEq,true_and]at h;subst h;exact⟨_,by simp[convert,run_underlying I,run_underlying t,Conv.intToString],.str⟩
 ·simp at h
end
end Go.Ab
