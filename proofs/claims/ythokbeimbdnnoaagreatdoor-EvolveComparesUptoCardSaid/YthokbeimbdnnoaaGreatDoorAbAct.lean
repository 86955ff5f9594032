/- Operations that touch no memory, or only read it. -/
import Derived.Test.YthokbeimbdnnoaaGreatDoorAbRead
import Derived.Laws.BytesString
set_option linter.unusedVariables false
set_option linter.unusedSimpArgs false
set_option linter.unnecessarySimpa false
namespace Go.Ab
open Go
def OpRes (Γ:Ctx) (D:Dom) (ow:Own) (μ:Nat->Nat) (st:List BX) (w:World) (r:Result Next) (v:SV) (st':List BX):Prop:=
 ∃ (u:Value) (w':World) (D':Dom) (h:Own) (o:Nat->Nat),(r=.ok (.value u) w'\/(r=.ok .skip w'/\u=Go.undef))/\WRel Γ D' h o st' w'/\Moves D w ow μ st D' w' h o st'/\SRep Γ.P D' w' h o st' v u
section
variable {Γ:Ctx}{D:Dom}{ow:Own}{μ:Nat->Nat}{st:List BX}{w:World}
theorem OpRes.still (z:WRel Γ D ow μ st w) {r:Result Next}{v:SV}{u:Value} (h:r=.ok (.value u) w) (o:SRep Γ.P D w ow μ st v u):OpRes Γ D ow μ st w r v st:=
 ⟨u,w,D,ow,μ,Or.inl h,z,Moves.refl _ _ _ _ _,o⟩
theorem OpRes.grew (O:WRel Γ D ow μ st w) {w':World}{D':Dom}{r:Result Next}{v:SV}{u:Value} (J:r=.ok (.value u) w') (g:Grew w w') (H:∀ b o,D b o->D' b o) (I:∀ b o,D' b o->D b o\/(w.heap.size<=b/\b<w'.heap.size))
 (M:Moves D w ow μ st D' w' ow μ st->SRep Γ.P D' w' ow μ st v u):OpRes Γ D ow μ st w r v st:=by
 obtain ⟨z,h⟩:=O.grew g H I
 exact ⟨u,w',D',ow,μ,Or.inl J,z,h,M h⟩
theorem ayh (T:TypeId) (H:BinOp) (k:IntKind) (x y:Int) (v:SV) (h:av2 H k x y=.val true v):
 ∃ u,(binOp H T (.int k x) (.int k y)).run Γ.P w=.ok u w/\SRep Γ.P D w ow μ st v u:=by
 cases H<;>simp only [av2,Ac.val.injEq,reduceCtorEq,true_and] at h
 case quo=>
  obtain ⟨o,rfl⟩:=h
  have z:y≠0:=by simpa using o
  exact ⟨_,by simp [binOp,Op.intDiv,z],.int⟩
 case rem=>
  obtain ⟨o,rfl⟩:=h
  have z:y≠0:=by simpa using o
  exact ⟨_,by simp [binOp,Op.intDiv,z],.int⟩
 all_goals subst h
 case add | sub | mul=>exact ⟨_,by simp [binOp,Op.intArith],.int⟩
 case and | or | xor | andNot=>exact ⟨_,by simp only [binOp,ite_not,Ba];rfl,.int⟩
 all_goals exact ⟨_,by simp [binOp,Op.intCmp],.bool⟩
theorem azv (T:TypeId) (k h:IntKind) (x y:Int) (o:0<=y):(binOp .shl T (.int k x) (.int h y)).run Γ.P w=.ok (.int k (k.wrap (x*2^(min y.toNat k.bits)))) w:=by
 have:¬y<0:=by omega
 simp [binOp,Op.shift,this]
theorem azw (T:TypeId) (k h:IntKind) (x y:Int) (o:0<=y):(binOp .shr T (.int k x) (.int h y)).run Γ.P w=.ok (.int k (x.fdiv (2^(min y.toNat k.bits)))) w:=by
 have:¬y<0:=by omega
 simp [binOp,Op.shift,this]
theorem az4 (T:TypeId) (z:BinOp) (x y:Bq) (v:SV) (h:awv z x y=.val true v):
 ∃ u,(binOp z T (.string ⟨x.toArray⟩) (.string ⟨y.toArray⟩)).run Γ.P w=.ok u w/\SRep Γ.P D w ow μ st v u:=by
 cases z<;>simp only [awv,Ac.val.injEq,reduceCtorEq,true_and] at h
 case add=>
  obtain ⟨o,rfl⟩:=h
  have o:x.length+y.length<=aan:=by simpa using o
  refine ⟨_,?_,.str (s:=x++y)⟩
  rw [binOp_string_add,run_string_add_sum _ _ _ (by show x.toArray.size+y.toArray.size<=_;simp;unfold aan at o;omega),ByteArray.mk_append_mk]
 all_goals subst h
 all_goals exact ⟨_,by simp [binOp,Op.stringOp,ByteArray.toList_mk],.bool⟩
theorem aqk (d:Nat) {T:TypeId} (h:Γ.P.underlying T=some .bool) (x y:Bool):(Op.equalIn (d+1) T (.bool x) (.bool y)).run Γ.P w=.ok (x==y) w:=by simp [Op.equalIn,run_underlying h]
theorem avd (T:TypeId) (o:BinOp) (x y:Bool) (v:SV) (z:Γ.P.underlying T=some .bool) (h:ank o x y=.val true v):
 ∃ u,(binOp o T (.bool x) (.bool y)).run Γ.P w=.ok u w/\SRep Γ.P D w ow μ st v u:=by
 have e:(Op.equal T (.bool x) (.bool y)).run Γ.P w=.ok (x==y) w:=by exact aqk 9999 z x y
 cases o<;>simp only [ank,Ac.val.injEq,reduceCtorEq,true_and] at h
 all_goals subst h
 all_goals exact ⟨_,by simp [binOp,e],.bool⟩
theorem ah3 (T:TypeId) (H:BinOp) (a:Option Addr) (n c:Nat) (v:SV) (o:ahj Γ.P T=true) (b:Bool) (I:a.isNone=b) (h:ad8 H b=.val true v):
 ∃ u,(binOp H T (.slice a n c) (.slice none 0 0)).run Γ.P w=.ok u w/\SRep Γ.P D w ow μ st v u:=by
 unfold ahj at o
 split at o
 case h_2=>cases o
 rename_i e J
 have z:∀ d:Nat,(Op.equalIn (d+1) T (.slice a n c) (.slice none 0 0)).run Γ.P w=.ok b w:=λd=>by subst I;cases a<;>simp [Op.equalIn,run_underlying J]
 unfold ad8 at h
 split at h
 ·simp only [Ac.val.injEq,true_and] at h;subst h;exact ⟨_,by simp [binOp,Op.equal,Op.maxDepth,z 9999],.bool⟩
 ·simp only [Ac.val.injEq,true_and] at h;subst h;exact ⟨_,by simp [binOp,Op.equal,Op.maxDepth,z 9999],.bool⟩
 ·cases h
theorem axl (T:TypeId) (H:BinOp) (x y:SV) (a b:Value) (v:SV) (I:SRep Γ.P D w ow μ st x a) (z:SRep Γ.P D w ow μ st y b) (h:ar5 Γ.P H T x y=.val true v) (Z oy:Operand):
 ∃ u,(do eqGuard H T Z oy a b;binOp H T a b:Sem Value).run Γ.P w=.ok u w/\SRep Γ.P D w ow μ st v u:=by
 have o:∀ p q:Value,(∀ cs,p≠.agg cs)->p≠.nilIface->(eqGuard H T Z oy p q).run Γ.P w=.ok () w:=by intro p q M h2;unfold eqGuard;cases H<;>simp<;>(split<;>simp_all)
 unfold ar5 at h
 split at h
 ·rename_i k m J n;cases I;cases z;simp only [Sem.run_bind,o (.int k m) (.int J n) (by simp) (by simp),Result.andThen_ok];split at h
  ·simp only [Ac.val.injEq] at h;obtain ⟨M,rfl⟩:=h;exact ⟨_,azv T k J m n (by simpa using M),.int⟩
  ·simp only [Ac.val.injEq] at h;obtain ⟨M,rfl⟩:=h;exact ⟨_,azw T k J m n (by simpa using M),.int⟩
  ·cases O:decide (k=J) with
   | false=>rw [O] at h;simp at h
   | true=>
    rw [O] at h;have:k=J:=by simpa using O
    subst this;exact ayh T H k m n v h
 ·cases I;cases z;simp only [Sem.run_bind];rw [o _ _ (by simp) (by simp)];exact az4 T H _ _ v h
 ·cases I;cases z;simp only [Sem.run_bind];rw [o _ _ (by simp) (by simp)];cases z:asw Γ.P T with
  | false=>rw [z] at h;simp at h
  | true=>
   rw [z] at h;refine avd T H _ _ v ?_ h;unfold asw at z;split at z
   ·assumption
   ·cases z
 ·rename_i E xs;cases I;cases z;simp only [Sem.run_bind];rw [o _ _ (by simp) (by simp)];cases z:ahj Γ.P T with
  | false=>rw [z] at h;simp at h
  | true=>rw [z] at h;exact ah3 T H _ _ _ v z false rfl h
 ·cases I;cases z;simp only [Sem.run_bind];rw [o _ _ (by simp) (by simp)];cases z:ahj Γ.P T with
  | false=>rw [z] at h;simp at h
  | true=>rw [z] at h;exact ah3 T H _ _ _ v z true rfl h
 ·exact aro T H _ _ a b v I z h Z oy
theorem ass (T:TypeId) (H:BinOp) (x:SV) (a:Value) (v:SV) (o:SRep Γ.P D w ow μ st x a) (hT:akz Γ.P T=true) (h:af0 H x=.val true v) (ox:Operand):
 ∃ u,(do eqGuard H T ox (.const .nilIface) a .nilIface;binOp H T a .nilIface:Sem Value).run Γ.P w=.ok u w/\SRep Γ.P D w ow μ st v u:=by
 unfold akz at hT
 split at hT
 case h_2=>cases hT
 rename_i ms hu
 have J:∀ d:Nat,(Op.equalIn (d+1) T .nilIface .nilIface).run Γ.P w=.ok true w:=λd=>by simp [Op.equalIn,run_underlying hu]
 have I:∀ (d:Nat) (t:TypeId) (z:Value),(Op.equalIn (d+1) T (.iface t z) .nilIface).run Γ.P w=.ok false w:=λd t z=>by simp [Op.equalIn,run_underlying hu]
 have O:(eqGuard H T ox (.const .nilIface) .nilIface .nilIface).run Γ.P w=.ok () w:=by rw [eqGuard_nil_constR];simp
 have M:∀ (t:TypeId) (z:Value),(eqGuard H T ox (.const .nilIface) (.iface t z) .nilIface).run Γ.P w=.ok () w:=λt z=>by unfold eqGuard;cases H<;>simp
 unfold af0 at h
 split at h
 ·rename_i b;simp only [Ac.val.injEq,true_and] at h;subst h;cases o with
  | eif Z h2=>
   cases b with
   | true=>rw [Z rfl];refine ⟨.bool true,?_,.bool⟩;simp only [Sem.run_bind,O,Result.andThen_ok,binOp];simp [Op.equal,Op.maxDepth,J 9999]
   | false=>obtain ⟨t,u,rfl⟩:=h2 rfl;refine ⟨.bool false,?_,.bool⟩;simp only [Sem.run_bind,M,Result.andThen_ok,binOp];simp [Op.equal,Op.maxDepth,I 9999]
 ·rename_i b;simp only [Ac.val.injEq,true_and] at h;subst h;cases o with
  | eif Z h2=>
   cases b with
   | true=>rw [Z rfl];refine ⟨.bool false,?_,.bool⟩;simp only [Sem.run_bind,O,Result.andThen_ok,binOp];simp [Op.equal,Op.maxDepth,J 9999]
   | false=>obtain ⟨t,u,rfl⟩:=h2 rfl;refine ⟨.bool true,?_,.bool⟩;simp only [Sem.run_bind,M,Result.andThen_ok,binOp];simp [Op.equal,Op.maxDepth,I 9999]
 ·simp only [Ac.val.injEq,true_and] at h;subst h;cases o;refine ⟨.bool false,?_,.bool⟩;simp only [Sem.run_bind,M,Result.andThen_ok,binOp];simp [Op.equal,Op.maxDepth,I 9999]
 ·simp only [Ac.val.injEq,true_and] at h;subst h;cases o;refine ⟨.bool true,?_,.bool⟩;simp only [Sem.run_bind,M,Result.andThen_ok,binOp];simp [Op.equal,Op.maxDepth,I 9999]
 ·simp only [Ac.val.injEq,true_and] at h;subst h;cases o;refine ⟨.bool true,?_,.bool⟩;simp only [Sem.run_bind,O,Result.andThen_ok,binOp];simp [Op.equal,Op.maxDepth,J 9999]
 ·simp only [Ac.val.injEq,true_and] at h;subst h;cases o;refine ⟨.bool false,?_,.bool⟩;simp only [Sem.run_bind,O,Result.andThen_ok,binOp];simp [Op.equal,Op.maxDepth,J 9999]
 ·simp at h
theorem a3n (z:UnOp) (x:SV) (a:Value) (v:SV) (o:SRep Γ.P D w ow μ st x a) (h:unAc z x=.val true v):∃ u,(Op.unary z a).run Γ.P w=.ok u w/\SRep Γ.P D w ow μ st v u:=by
 unfold unAc at h;split at h
 ·cases o;simp only [Ac.val.injEq,true_and] at h;subst h;exact ⟨_,by simp [Op.unary],.bool⟩
 ·cases o;simp only [Ac.val.injEq,true_and] at h;subst h;exact ⟨_,by simp [Op.unary,Op.intArith],.int⟩
 ·cases o;simp only [Ac.val.injEq,true_and] at h;subst h;exact ⟨_,by simp [Op.unary,Op.intBits,agi],.int⟩
 ·simp at h
theorem ab6 (b off j:Nat):(⟨b,off,none⟩:Addr).add j=⟨b,off+j,none⟩:=by unfold Addr.add;split<;>simp_all
theorem avf:∀ (h:List Int) (s:ByteArray),h.foldl (λr n=>r.push (UInt8.ofNat n.toNat)) s=⟨(s.data.toList++h.map λn=>UInt8.ofNat n.toNat).toArray⟩:=by
 intro h;induction h with
 | nil=>intro s;simp
 | cons n r o=>intro s;rw [List.foldl_cons,o];simp [ByteArray.push]
theorem afw {P:Program}{D:Dom}{w:World}{E H I:TypeId}{xs:List PV}{v:Value} (hb:ada P H E=true) (hd:P.underlying I=some .string) (h:SliceRep P D w E xs v):
 (convert H I v).run P w=.ok (.string ⟨(xs.map aax).toArray⟩) w:=by
 unfold ada at hb
 simp only [Ai] at hb
 obtain ⟨⟨h1,h2⟩,J⟩:=hb
 have J:=Aa J
 have z:P.underlying E=some (.int .u8):=by
  unfold ayi at h2;split at h2
  ·assumption
  ·cases h2
 have hs:P.underlying H=some (.slice E):=by
  split at h1
  ·rename_i E' he;rw [he,Aa h1]
  ·cases h1
 cases h with
 | @nil a c ad=>
  rw [run_convert_bytes_string w H I E a 0 c hs z hd]
  cases a with
  | none=>simp [Conv.bytesToString];rfl
  | some a=>simp [Conv.bytesToString,loadCells,loadCellsFrom];rfl
 | @mk b off cap xs L hl hL hr hh=>
  rw [run_convert_bytes_string w H I E _ _ _ hs z hd]
  have aa:L=(xs.map PV.asInt).map (Value.int .u8):=by
   rw [J,Nat.mul_one] at hL;apply List.ext_getElem?;intro i;by_cases hi:i<xs.length
   ·have hx:xs[i]?=some xs[i]:=Aq hi;have:=hr i _ hx;rw [J,Nat.mul_one] at this;have M:L[i]?=some L[i]:=Aq (by omega);have ab:(L.drop i).take 1=[L[i]]:=by
     rw [List.take_one,List.head?_drop,M];rfl
    rw [ab] at this;rw [M];simp only [Bf,hx,Option.map_some];generalize L[i]=c at this;generalize xs[i]=x at this;cases this with
    | int o=>rw [z] at o;cases o;rfl
    | bool o=>rw [z] at o;cases o
    | str o=>rw [z] at o;cases o
    | nil o=>rw [z] at o;cases o
    | slice o=>rw [z] at o;cases o
    | agg o=>rw [z] at o;cases o
    | arr o=>rw [z] at o;cases o
    | mapnil o=>rw [z] at o;cases o
    | map _ _ o=>rw [z] at o;cases o
    | raw o=>simp [rawT,z] at o
   ·rw [A4 (by omega),A4 (by simp;omega)]
  have O:=run_loadCells_list (P:=P) w ⟨b,off,none⟩ L (λj v hj=>by rw [ab6];exact (hh j v hj).2)
  have Z:L.length=xs.length:=by rw [hL,J,Nat.mul_one]
  rw [Z] at O
  rw [run_bytesToString w ⟨b,off,none⟩ xs.length cap (xs.map PV.asInt) (by rw [O,aa])]
  rw [avf]
  simp [aax,Function.comp_def]
theorem avj (o M:TypeId) (x:SV) (a:Value) (v:SV) (z:SRep Γ.P D w ow μ st x a) (h:ali Γ.P o M x=.val true v):∃ u,(convert o M a).run Γ.P w=.ok u w/\SRep Γ.P D w ow μ st v u:=by
 unfold ali at h;cases J:(Γ.P.underlying o).isSome with
 | false=>rw [J] at h;simp at h
 | true=>
 rw [J] at h;simp only [Af] at h;obtain ⟨d,O⟩:=Option.isSome_iff_exists.1 J;split at h
 ·rename_i k Z n I;cases z;simp only [Ac.val.injEq,true_and] at h;subst h;exact ⟨_,by simp [convert,run_underlying O,run_underlying I,Conv.intToInt],.int⟩
 ·rename_i s I;cases z;simp only [Ac.val.injEq,true_and] at h;subst h;exact ⟨_,by simp [convert,run_underlying O,run_underlying I],.str⟩
 ·rename_i E xs I;cases H:ada Γ.P o E with
  | false=>rw [H] at h;cases h
  | true=>
   rw [H] at h;simp only [Af,Ac.val.injEq,true_and] at h;subst h;cases z with
   | slice z=>exact ⟨_,afw H I z,.str⟩
 ·rename_i E xs I;cases H:ada Γ.P o E with
  | false=>rw [H] at h;cases h
  | true=>
   rw [H] at h;simp only [Af,Ac.val.injEq,true_and] at h;subst h;cases z with
   | acc z=>exact ⟨_,afw H I z,.str⟩
 ·rename_i E xs I;cases H:ada Γ.P o E with
  | false=>rw [H] at h;cases h
  | true=>
   rw [H] at h;simp only [Af,Ac.val.injEq,true_and] at h;subst h;cases z with
   | lit z=>exact ⟨_,afw H I z,.str⟩
 ·rename_i k n I;cases z;simp only [Ac.val.injEq,true_and] at h;subst h;exact ⟨_,by simp [convert,run_underlying O,run_underlying I,Conv.intToString],.str⟩
 ·simp at h
end
end Go.Ab
