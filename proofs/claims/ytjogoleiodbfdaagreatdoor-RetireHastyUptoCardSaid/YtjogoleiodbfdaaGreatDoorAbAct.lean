/- Operations that touch no memory, or only read it. -/
import Derived.Test.YtjogoleiodbfdaaGreatDoorAbRead
import Derived.Laws.BytesString
set_option linter.unusedVariables false
set_option linter.unusedSimpArgs false
set_option linter.unnecessarySimpa false
namespace Go.Ab
open Go
def OpRes (Γ:Ctx) (D:Dom) (ow:Own) (μ:Nat->Nat) (st:List BX) (w:World) (r:Result Next) (v:SV) (st':List BX):Prop:=
 ∃ (u:Value) (w':World) (D':Dom) (h:Own) (o:Nat->Nat),(r=.ok (.value u) w'\/(r=.ok .skip w'/\u=Go.undef))/\WRel Γ D' h o st' w'/\Moves D w ow μ st D' w' h o st'/\SRep Γ.P D' w' h o st' v u
section
variable {Γ:Ctx}{D:Dom}{ow:Own}{μ:Nat->Nat}{st:List BX}{w:World}
theorem OpRes.still (H:WRel Γ D ow μ st w) {r:Result Next}{v:SV}{u:Value} (h:r=.ok (.value u) w) (o:SRep Γ.P D w ow μ st v u):OpRes Γ D ow μ st w r v st:=
 ⟨u,w,D,ow,μ,Or.inl h,H,Moves.refl _ _ _ _ _,o⟩
theorem OpRes.grew (Z:WRel Γ D ow μ st w) {w':World}{D':Dom}{r:Result Next}{v:SV}{u:Value} (M:r=.ok (.value u) w') (g:Grew w w') (I:∀ b o,D b o->D' b o) (J:∀ b o,D' b o->D b o\/(w.heap.size<=b/\b<w'.heap.size))
 (O:Moves D w ow μ st D' w' ow μ st->SRep Γ.P D' w' ow μ st v u):OpRes Γ D ow μ st w r v st:=by
 obtain ⟨H,h⟩:=Z.grew g I J
 exact ⟨u,w',D',ow,μ,Or.inl M,H,h,O h⟩
theorem a0i (T:TypeId) (op:BinOp) (k:IntKind) (x y:Int) (v:SV) (h:axv op k x y=.val true v):
 ∃ u,(binOp op T (.int k x) (.int k y)).run Γ.P w=.ok u w/\SRep Γ.P D w ow μ st v u:=by
 cases op<;>simp only [axv,Ac.val.injEq,reduceCtorEq,true_and] at h
 case quo=>
  obtain ⟨o,rfl⟩:=h
  have H:y≠0:=by simpa using o
  exact ⟨_,by simp [binOp,Op.intDiv,H],.int⟩
 case rem=>
  obtain ⟨o,rfl⟩:=h
  have H:y≠0:=by simpa using o
  exact ⟨_,by simp [binOp,Op.intDiv,H],.int⟩
 all_goals subst h
 case add | sub | mul=>exact ⟨_,by simp [binOp,Op.intArith],.int⟩
 case and | or | xor | andNot=>exact ⟨_,by simp only [binOp,ite_not,A9];rfl,.int⟩
 all_goals exact ⟨_,by simp [binOp,Op.intCmp],.bool⟩
theorem a1z (T:TypeId) (k h:IntKind) (x y:Int) (o:0<=y):(binOp .shl T (.int k x) (.int h y)).run Γ.P w=.ok (.int k (k.wrap (x*2^(min y.toNat k.bits)))) w:=by
 have:¬y<0:=by omega
 simp [binOp,Op.shift,this]
theorem a2a (T:TypeId) (k h:IntKind) (x y:Int) (o:0<=y):(binOp .shr T (.int k x) (.int h y)).run Γ.P w=.ok (.int k (x.fdiv (2^(min y.toNat k.bits)))) w:=by
 have:¬y<0:=by omega
 simp [binOp,Op.shift,this]
theorem a2g (T:TypeId) (op:BinOp) (x y:Bt) (v:SV) (h:ayt op x y=.val true v):
 ∃ u,(binOp op T (.string ⟨x.toArray⟩) (.string ⟨y.toArray⟩)).run Γ.P w=.ok u w/\SRep Γ.P D w ow μ st v u:=by
 cases op<;>simp only [ayt,Ac.val.injEq,reduceCtorEq,true_and] at h
 case add=>
  obtain ⟨o,rfl⟩:=h
  have o:x.length+y.length<=aao:=by simpa using o
  refine ⟨_,?_,.str (s:=x++y)⟩
  rw [binOp_string_add,run_string_add_sum _ _ _ (by show x.toArray.size+y.toArray.size<=_;grind [aao]),ByteArray.mk_append_mk]
 all_goals subst h
 all_goals exact ⟨_,by simp [binOp,Op.stringOp,ByteArray.toList_mk],.bool⟩
theorem arq (d:Nat) {T:TypeId} (h:Γ.P.underlying T=some .bool) (x y:Bool):(Op.equalIn (d+1) T (.bool x) (.bool y)).run Γ.P w=.ok (x==y) w:=by simp [Op.equalIn,run_underlying h]
theorem aw5 (T:TypeId) (op:BinOp) (x y:Bool) (v:SV) (o:Γ.P.underlying T=some .bool) (h:aom op x y=.val true v):
 ∃ u,(binOp op T (.bool x) (.bool y)).run Γ.P w=.ok u w/\SRep Γ.P D w ow μ st v u:=by
 have e:(Op.equal T (.bool x) (.bool y)).run Γ.P w=.ok (x==y) w:=by exact arq 9999 o x y
 cases op<;>simp only [aom,Ac.val.injEq,reduceCtorEq,true_and] at h
 all_goals subst h
 all_goals exact ⟨_,by simp [binOp,e],.bool⟩
theorem aim (T:TypeId) (op:BinOp) (a:Option Addr) (n c:Nat) (v:SV) (o:ah1 Γ.P T=true) (b:Bool) (I:a.isNone=b) (h:aei op b=.val true v):
 ∃ u,(binOp op T (.slice a n c) (.slice none 0 0)).run Γ.P w=.ok u w/\SRep Γ.P D w ow μ st v u:=by
 unfold ah1 at o
 split at o
 case h_2=>cases o
 rename_i e J
 have H:∀ d:Nat,(Op.equalIn (d+1) T (.slice a n c) (.slice none 0 0)).run Γ.P w=.ok b w:=λd=>by subst I;cases a<;>simp [Op.equalIn,run_underlying J]
 unfold aei at h
 split at h
 ·simp only [Ac.val.injEq,true_and] at h;subst h;exact ⟨_,by simp [binOp,Op.equal,Op.maxDepth,H 9999],.bool⟩
 ·simp only [Ac.val.injEq,true_and] at h;subst h;exact ⟨_,by simp [binOp,Op.equal,Op.maxDepth,H 9999],.bool⟩
 ·cases h
theorem azi (T:TypeId) (op:BinOp) (x y:SV) (a b:Value) (v:SV) (I:SRep Γ.P D w ow μ st x a) (H:SRep Γ.P D w ow μ st y b) (h:ath Γ.P op T x y=.val true v) (Z oy:Operand):
 ∃ u,(do eqGuard op T Z oy a b;binOp op T a b:Sem Value).run Γ.P w=.ok u w/\SRep Γ.P D w ow μ st v u:=by
 have o:∀ p q:Value,(∀ cs,p≠.agg cs)->p≠.nilIface->(eqGuard op T Z oy p q).run Γ.P w=.ok () w:=by intro p q M h2;unfold eqGuard;cases op<;>simp<;>(split<;>simp_all)
 unfold ath at h
 split at h
 ·rename_i k m J n;cases I;cases H;simp only [Sem.run_bind,o (.int k m) (.int J n) (by simp) (by simp),Result.andThen_ok];split at h
  ·simp only [Ac.val.injEq] at h;obtain ⟨M,rfl⟩:=h;exact ⟨_,a1z T k J m n (by simpa using M),.int⟩
  ·simp only [Ac.val.injEq] at h;obtain ⟨M,rfl⟩:=h;exact ⟨_,a2a T k J m n (by simpa using M),.int⟩
  ·cases O:decide (k=J) with
   | false=>rw [O] at h;simp at h
   | true=>
    rw [O] at h;have:k=J:=by simpa using O
    subst this;exact a0i T op k m n v h
 ·cases I;cases H;simp only [Sem.run_bind];rw [o _ _ (by simp) (by simp)];exact a2g T op _ _ v h
 ·cases I;cases H;simp only [Sem.run_bind];rw [o _ _ (by simp) (by simp)];cases H:at8 Γ.P T with
  | false=>rw [H] at h;simp at h
  | true=>
   rw [H] at h;refine aw5 T op _ _ v ?_ h;unfold at8 at H;split at H
   ·assumption
   ·cases H
 ·rename_i E xs;cases I;cases H;simp only [Sem.run_bind];rw [o _ _ (by simp) (by simp)];cases H:ah1 Γ.P T with
  | false=>rw [H] at h;simp at h
  | true=>rw [H] at h;exact aim T op _ _ _ v H false rfl h
 ·cases I;cases H;simp only [Sem.run_bind];rw [o _ _ (by simp) (by simp)];cases H:ah1 Γ.P T with
  | false=>rw [H] at h;simp at h
  | true=>rw [H] at h;exact aim T op _ _ _ v H true rfl h
 ·exact asz T op _ _ a b v I H h Z oy
theorem at5 (T:TypeId) (op:BinOp) (x:SV) (a:Value) (v:SV) (o:SRep Γ.P D w ow μ st x a) (hT:alw Γ.P T=true) (h:agf op x=.val true v) (ox:Operand):
 ∃ u,(do eqGuard op T ox (.const .nilIface) a .nilIface;binOp op T a .nilIface:Sem Value).run Γ.P w=.ok u w/\SRep Γ.P D w ow μ st v u:=by
 unfold alw at hT
 split at hT
 case h_2=>cases hT
 rename_i ms hu
 have I:∀ d:Nat,(Op.equalIn (d+1) T .nilIface .nilIface).run Γ.P w=.ok true w:=λd=>by simp [Op.equalIn,run_underlying hu]
 have H:∀ (d:Nat) (t:TypeId) (z:Value),(Op.equalIn (d+1) T (.iface t z) .nilIface).run Γ.P w=.ok false w:=λd t z=>by simp [Op.equalIn,run_underlying hu]
 have M:(eqGuard op T ox (.const .nilIface) .nilIface .nilIface).run Γ.P w=.ok () w:=by rw [eqGuard_nil_constR];simp
 have J:∀ (t:TypeId) (z:Value),(eqGuard op T ox (.const .nilIface) (.iface t z) .nilIface).run Γ.P w=.ok () w:=λt z=>by unfold eqGuard;cases op<;>simp
 unfold agf at h
 split at h
 ·rename_i b;simp only [Ac.val.injEq,true_and] at h;subst h;cases o with
  | eif O Z=>
   cases b with
   | true=>rw [O rfl];refine ⟨.bool true,?_,.bool⟩;simp only [Sem.run_bind,M,Result.andThen_ok,binOp];simp [Op.equal,Op.maxDepth,I 9999]
   | false=>obtain ⟨t,u,rfl⟩:=Z rfl;refine ⟨.bool false,?_,.bool⟩;simp only [Sem.run_bind,J,Result.andThen_ok,binOp];simp [Op.equal,Op.maxDepth,H 9999]
 ·rename_i b;simp only [Ac.val.injEq,true_and] at h;subst h;cases o with
  | eif O Z=>
   cases b with
   | true=>rw [O rfl];refine ⟨.bool false,?_,.bool⟩;simp only [Sem.run_bind,M,Result.andThen_ok,binOp];simp [Op.equal,Op.maxDepth,I 9999]
   | false=>obtain ⟨t,u,rfl⟩:=Z rfl;refine ⟨.bool true,?_,.bool⟩;simp only [Sem.run_bind,J,Result.andThen_ok,binOp];simp [Op.equal,Op.maxDepth,H 9999]
 ·simp only [Ac.val.injEq,true_and] at h;subst h;cases o;refine ⟨.bool false,?_,.bool⟩;simp only [Sem.run_bind,J,Result.andThen_ok,binOp];simp [Op.equal,Op.maxDepth,H 9999]
 ·simp only [Ac.val.injEq,true_and] at h;subst h;cases o;refine ⟨.bool true,?_,.bool⟩;simp only [Sem.run_bind,J,Result.andThen_ok,binOp];simp [Op.equal,Op.maxDepth,H 9999]
 ·simp only [Ac.val.injEq,true_and] at h;subst h;cases o;refine ⟨.bool true,?_,.bool⟩;simp only [Sem.run_bind,M,Result.andThen_ok,binOp];simp [Op.equal,Op.maxDepth,I 9999]
 ·simp only [Ac.val.injEq,true_and] at h;subst h;cases o;refine ⟨.bool false,?_,.bool⟩;simp only [Sem.run_bind,M,Result.andThen_ok,binOp];simp [Op.equal,Op.maxDepth,I 9999]
 ·simp at h
theorem a6j (op:UnOp) (x:SV) (a:Value) (v:SV) (o:SRep Γ.P D w ow μ st x a) (h:unAc op x=.val true v):∃ u,(Op.unary op a).run Γ.P w=.ok u w/\SRep Γ.P D w ow μ st v u:=by
 unfold unAc at h;split at h
 ·cases o;simp only [Ac.val.injEq,true_and] at h;subst h;exact ⟨_,by simp [Op.unary],.bool⟩
 ·cases o;simp only [Ac.val.injEq,true_and] at h;subst h;exact ⟨_,by simp [Op.unary,Op.intArith],.int⟩
 ·cases o;simp only [Ac.val.injEq,true_and] at h;subst h;exact ⟨_,by simp [Op.unary,Op.intBits,agw],.int⟩
 ·simp at h
theorem acb (b off j:Nat):(⟨b,off,none⟩:Addr).add j=⟨b,off+j,none⟩:=by grind [Addr.add]
theorem aw7:∀ (h:List Int) (s:ByteArray),h.foldl (λr n=>r.push (UInt8.ofNat n.toNat)) s=⟨(s.data.toList++h.map λn=>UInt8.ofNat n.toNat).toArray⟩:=by
 intro h;induction h with
 | nil=>intro s;simp
 | cons n r o=>simp_all
theorem af9 {P:Program}{D:Dom}{w:World}{E H I:TypeId}{xs:List PV}{v:Value} (hb:adn P H E=true) (hd:P.underlying I=some .string) (h:SliceRep P D w E xs v):
 (convert H I v).run P w=.ok (.string ⟨(xs.map aa0).toArray⟩) w:=by
 unfold adn at hb
 simp only [Aj] at hb
 obtain ⟨⟨h1,h2⟩,O⟩:=hb
 have O:=Ae O
 have Z:P.underlying E=some (.int .u8):=by grind [a0j]
 have hs:P.underlying H=some (.slice E):=by grind [Nat.eq_of_beq_eq_true]
 cases h with
 | @nil a c ae=>
  rw [run_convert_bytes_string w H I E a 0 c hs Z hd]
  cases a with
  | none=>simp [Conv.bytesToString];rfl
  | some a=>simp [Conv.bytesToString,loadCells,loadCellsFrom];rfl
 | @mk b off cap xs L hl hL hr hh=>
  rw [run_convert_bytes_string w H I E _ _ _ hs Z hd]
  have aa:L=(xs.map PV.asInt).map (Value.int .u8):=by
   rw [O,Nat.mul_one] at hL;apply List.ext_getElem?;intro i;by_cases hi:i<xs.length
   ·have hx:xs[i]?=some xs[i]:=As hi;have:=hr i _ hx;rw [O,Nat.mul_one] at this;have ab:L[i]?=some L[i]:=As (by omega);have ad:(L.drop i).take 1=[L[i]]:=by
     grind [List.take_one,List.head?_drop]
    rw [ad] at this;rw [ab];simp only [Bj,hx,Option.map_some];generalize L[i]=c at this;generalize xs[i]=x at this;cases this with
    | int o=>rw [Z] at o;cases o;rfl
    | bool o=>grind
    | str o=>grind
    | nil o=>grind
    | slice o=>grind
    | agg o=>grind
    | arr o=>grind
    | mapnil o=>grind
    | map _ _ o=>grind
    | raw o=>grind [rawT]
   grind
  have J:=run_loadCells_list (P:=P) w ⟨b,off,none⟩ L (λj v hj=>by rw [acb];exact (hh j v hj).2)
  have M:L.length=xs.length:=by grind
  rw [M] at J
  rw [run_bytesToString w ⟨b,off,none⟩ xs.length cap (xs.map PV.asInt) (by rw [J,aa])]
  rw [aw7]
  simp [aa0,Function.comp_def]
theorem axb (o O:TypeId) (x:SV) (a:Value) (v:SV) (H:SRep Γ.P D w ow μ st x a) (h:ame Γ.P o O x=.val true v):∃ u,(convert o O a).run Γ.P w=.ok u w/\SRep Γ.P D w ow μ st v u:=by
 unfold ame at h;cases M:(Γ.P.underlying o).isSome with
 | false=>grind
 | true=>
 rw [M] at h;simp only [Af] at h;obtain ⟨d,Z⟩:=Option.isSome_iff_exists.1 M;split at h
 ·rename_i k k' n I;cases H;simp only [Ac.val.injEq,true_and] at h;subst h;exact ⟨_,by simp [convert,run_underlying Z,run_underlying I,Conv.intToInt],.int⟩
 ·rename_i s I;cases H;simp only [Ac.val.injEq,true_and] at h;subst h;exact ⟨_,by simp [convert,run_underlying Z,run_underlying I],.str⟩
 ·rename_i E xs I;cases J:adn Γ.P o E with
  | false=>grind
  | true=>
   rw [J] at h;simp only [Af,Ac.val.injEq,true_and] at h;subst h;cases H with
   | slice H=>exact ⟨_,af9 J I H,.str⟩
 ·rename_i E xs I;cases J:adn Γ.P o E with
  | false=>grind
  | true=>
   rw [J] at h;simp only [Af,Ac.val.injEq,true_and] at h;subst h;cases H with
   | acc H=>exact ⟨_,af9 J I H,.str⟩
 ·rename_i E xs I;cases J:adn Γ.P o E with
  | false=>grind
  | true=>
   rw [J] at h;simp only [Af,Ac.val.injEq,true_and] at h;subst h;cases H with
   | lit H=>exact ⟨_,af9 J I H,.str⟩
 ·rename_i k n I;cases H;simp only [Ac.val.injEq,true_and] at h;subst h;exact ⟨_,by simp [convert,run_underlying Z,run_underlying I,Conv.intToString],.str⟩
 ·simp at h
end
end Go.Ab
