/- Operations that touch no memory, or only read it. -/
import Derived.Test.YtodichgnoiaanaaGreatDoorAbRead
import Derived.Laws.BytesString
set_option linter.unusedVariables false
set_option linter.unusedSimpArgs false
set_option linter.unnecessarySimpa false
namespace Go.Ab
open Go
def OpRes (Γ:Ctx) (D:Dom) (ow:Own) (μ:Nat->Nat) (st:List BX) (w:World) (r:Result Next) (v:SV) (st':List BX):Prop:=
 ∃ (u:Value) (w':World) (D':Dom) (h:Own) (o:Nat->Nat),(r=.ok (.value u) w'\/(r=.ok .skip w'/\u=Go.undef))/\WRel Γ D' h o st' w'/\Moves D w ow μ st D' w' h o st'/\SRep Γ.P D' w' h o st' v u
section
variable {Γ:Ctx}{D:Dom}{ow:Own}{μ:Nat->Nat}{st:List BX}{w:World}
theorem OpRes.still (z:WRel Γ D ow μ st w) {r:Result Next}{v:SV}{u:Value} (h:r=.ok (.value u) w) (o:SRep Γ.P D w ow μ st v u):OpRes Γ D ow μ st w r v st:=
 ⟨u,w,D,ow,μ,Or.inl h,z,Moves.refl _ _ _ _ _,o⟩
theorem OpRes.grew (O:WRel Γ D ow μ st w) {w':World}{D':Dom}{r:Result Next}{v:SV}{u:Value} (J:r=.ok (.value u) w') (g:Grew w w') (H:∀ b o,D b o->D' b o) (I:∀ b o,D' b o->D b o\/(w.heap.size<=b/\b<w'.heap.size))
 (M:Moves D w ow μ st D' w' ow μ st->SRep Γ.P D' w' ow μ st v u):OpRes Γ D ow μ st w r v st:=by
 obtain ⟨z,h⟩:=O.grew g H I
 exact ⟨u,w',D',ow,μ,Or.inl J,z,h,M h⟩
theorem a3r (T:TypeId) (op:BinOp) (k:IntKind) (x y:Int) (v:SV) (h:a0c op k x y=.val true v):
 ∃ u,(binOp op T (.int k x) (.int k y)).run Γ.P w=.ok u w/\SRep Γ.P D w ow μ st v u:=by
 cases op<;>simp only [a0c,Ac.val.injEq,reduceCtorEq,true_and] at h
 case quo=>
  obtain ⟨o,rfl⟩:=h
  have z:y≠0:=by simpa using o
  exact ⟨_,by simp [binOp,Op.intDiv,z],.int⟩
 case rem=>
  obtain ⟨o,rfl⟩:=h
  have z:y≠0:=by simpa using o
  exact ⟨_,by simp [binOp,Op.intDiv,z],.int⟩
 all_goals subst h
 case add | sub | mul=>exact ⟨_,by simp [binOp,Op.intArith],.int⟩
 case and | or | xor | andNot=>exact ⟨_,by simp only [binOp,ite_not,A9];rfl,.int⟩
 all_goals exact ⟨_,by simp [binOp,Op.intCmp],.bool⟩
theorem a5w (T:TypeId) (k h:IntKind) (x y:Int) (o:0<=y):(binOp .shl T (.int k x) (.int h y)).run Γ.P w=.ok (.int k (k.wrap (x*2^(min y.toNat k.bits)))) w:=by
 have:¬y<0:=by omega
 simp [binOp,Op.shift,this]
theorem a5x (T:TypeId) (k h:IntKind) (x y:Int) (o:0<=y):(binOp .shr T (.int k x) (.int h y)).run Γ.P w=.ok (.int k (x.fdiv (2^(min y.toNat k.bits)))) w:=by
 have:¬y<0:=by omega
 simp [binOp,Op.shift,this]
theorem a6d (T:TypeId) (op:BinOp) (x y:Bo) (v:SV) (h:a09 op x y=.val true v):
 ∃ u,(binOp op T (.string ⟨x.toArray⟩) (.string ⟨y.toArray⟩)).run Γ.P w=.ok u w/\SRep Γ.P D w ow μ st v u:=by
 cases op<;>simp only [a09,Ac.val.injEq,reduceCtorEq,true_and] at h
 case add=>
  obtain ⟨o,rfl⟩:=h
  have o:x.length+y.length<=aam:=by simpa using o
  refine ⟨_,?_,.str (s:=x++y)⟩
  rw [binOp_string_add,run_string_add_sum _ _ _ (by show x.toArray.size+y.toArray.size<=_;grind [aam]),ByteArray.mk_append_mk]
 all_goals subst h
 all_goals exact ⟨_,by simp [binOp,Op.stringOp,ByteArray.toList_mk],.bool⟩
theorem ats (d:Nat) {T:TypeId} (h:Γ.P.underlying T=some .bool) (x y:Bool):(Op.equalIn (d+1) T (.bool x) (.bool y)).run Γ.P w=.ok (x==y) w:=by simp [Op.equalIn,run_underlying h]
theorem azm (T:TypeId) (op:BinOp) (x y:Bool) (v:SV) (o:Γ.P.underlying T=some .bool) (h:aqa op x y=.val true v):
 ∃ u,(binOp op T (.bool x) (.bool y)).run Γ.P w=.ok u w/\SRep Γ.P D w ow μ st v u:=by
 have e:(Op.equal T (.bool x) (.bool y)).run Γ.P w=.ok (x==y) w:=by exact ats 9999 o x y
 cases op<;>simp only [aqa,Ac.val.injEq,reduceCtorEq,true_and] at h
 all_goals subst h
 all_goals exact ⟨_,by simp [binOp,e],.bool⟩
theorem ai9 (T:TypeId) (op:BinOp) (a:Option Addr) (n c:Nat) (v:SV) (o:aik Γ.P T=true) (b:Bool) (H:a.isNone=b) (h:aet op b=.val true v):
 ∃ u,(binOp op T (.slice a n c) (.slice none 0 0)).run Γ.P w=.ok u w/\SRep Γ.P D w ow μ st v u:=by
 unfold aik at o
 split at o
 case h_2=>cases o
 rename_i e I
 have z:∀ d:Nat,(Op.equalIn (d+1) T (.slice a n c) (.slice none 0 0)).run Γ.P w=.ok b w:=λd=>by subst H;cases a<;>simp [Op.equalIn,run_underlying I]
 unfold aet at h
 split at h
 ·simp only [Ac.val.injEq,true_and] at h;subst h;exact ⟨_,by simp [binOp,Op.equal,Op.maxDepth,z 9999],.bool⟩
 ·simp only [Ac.val.injEq,true_and] at h;subst h;exact ⟨_,by simp [binOp,Op.equal,Op.maxDepth,z 9999],.bool⟩
 ·cases h
theorem a2b (T:TypeId) (op:BinOp) (x y:SV) (a b:Value) (v:SV) (H:SRep Γ.P D w ow μ st x a) (z:SRep Γ.P D w ow μ st y b) (h:avy Γ.P op T x y=.val true v) (M O:Operand):
 ∃ u,(do eqGuard op T M O a b;binOp op T a b:Sem Value).run Γ.P w=.ok u w/\SRep Γ.P D w ow μ st v u:=by
 have o:∀ p q:Value,(∀ cs,p≠.agg cs)->p≠.nilIface->(eqGuard op T M O p q).run Γ.P w=.ok () w:=by intro p q J h2;unfold eqGuard;simp_all
 unfold avy at h
 split at h
 ·rename_i k m I n;cases H;cases z;simp only [Sem.run_bind,o (.int k m) (.int I n) (by simp) (by simp),Result.andThen_ok];split at h
  ·simp only [Ac.val.injEq] at h;obtain ⟨J,rfl⟩:=h;exact ⟨_,a5w T k I m n (by simpa using J),.int⟩
  ·simp only [Ac.val.injEq] at h;obtain ⟨J,rfl⟩:=h;exact ⟨_,a5x T k I m n (by simpa using J),.int⟩
  ·cases Z:decide (k=I) with
   | false=>grind
   | true=>
    rw [Z] at h;have:k=I:=by simpa using Z
    subst this;exact a3r T op k m n v h
 ·cases H;cases z;simp only [Sem.run_bind];rw [o _ _ (by simp) (by simp)];exact a6d T op _ _ v h
 ·cases H;cases z;simp only [Sem.run_bind];rw [o _ _ (by simp) (by simp)];cases z:awp Γ.P T with
  | false=>grind
  | true=>rw [z] at h;refine azm T op _ _ v ?_ h;grind [awp]
 ·rename_i E xs;cases H;cases z;simp only [Sem.run_bind];rw [o _ _ (by simp) (by simp)];cases z:aik Γ.P T with
  | false=>grind
  | true=>rw [z] at h;exact ai9 T op _ _ _ v z false rfl h
 ·cases H;cases z;simp only [Sem.run_bind];rw [o _ _ (by simp) (by simp)];cases z:aik Γ.P T with
  | false=>grind
  | true=>rw [z] at h;exact ai9 T op _ _ _ v z true rfl h
 ·exact avc T op _ _ a b v H z h M O
theorem awl (T:TypeId) (op:BinOp) (x:SV) (a:Value) (v:SV) (o:SRep Γ.P D w ow μ st x a) (hT:am2 Γ.P T=true) (h:ag2 op x=.val true v) (ox:Operand):
 ∃ u,(do eqGuard op T ox (.const .nilIface) a .nilIface;binOp op T a .nilIface:Sem Value).run Γ.P w=.ok u w/\SRep Γ.P D w ow μ st v u:=by
 unfold am2 at hT
 split at hT
 case h_2=>cases hT
 rename_i ms hu
 have I:∀ d:Nat,(Op.equalIn (d+1) T .nilIface .nilIface).run Γ.P w=.ok true w:=λd=>by simp [Op.equalIn,run_underlying hu]
 have H:∀ (d:Nat) (t:TypeId) (z:Value),(Op.equalIn (d+1) T (.iface t z) .nilIface).run Γ.P w=.ok false w:=λd t z=>by simp [Op.equalIn,run_underlying hu]
 have M:(eqGuard op T ox (.const .nilIface) .nilIface .nilIface).run Γ.P w=.ok () w:=by rw [eqGuard_nil_constR];simp
 have J:∀ (t:TypeId) (z:Value),(eqGuard op T ox (.const .nilIface) (.iface t z) .nilIface).run Γ.P w=.ok () w:=λt z=>by unfold eqGuard;cases op<;>simp
 unfold ag2 at h
 split at h
 ·rename_i b;simp only [Ac.val.injEq,true_and] at h;subst h;cases o with
  | eif O Z=>
   cases b with
   | true=>rw [O rfl];refine ⟨.bool true,?_,.bool⟩;simp only [Sem.run_bind,M,Result.andThen_ok,binOp];simp [Op.equal,Op.maxDepth,I 9999]
   | false=>obtain ⟨t,u,rfl⟩:=Z rfl;refine ⟨.bool false,?_,.bool⟩;simp only [Sem.run_bind,J,Result.andThen_ok,binOp];simp [Op.equal,Op.maxDepth,H 9999]
 ·rename_i b;simp only [Ac.val.injEq,true_and] at h;subst h;cases o with
  | eif O Z=>
   cases b with
   | true=>rw [O rfl];refine ⟨.bool false,?_,.bool⟩;simp only [Sem.run_bind,M,Result.andThen_ok,binOp];simp [Op.equal,Op.maxDepth,I 9999]
   | false=>obtain ⟨t,u,rfl⟩:=Z rfl;refine ⟨.bool true,?_,.bool⟩;simp only [Sem.run_bind,J,Result.andThen_ok,binOp];simp [Op.equal,Op.maxDepth,H 9999]
 ·simp only [Ac.val.injEq,true_and] at h;subst h;cases o;refine ⟨.bool false,?_,.bool⟩;simp only [Sem.run_bind,J,Result.andThen_ok,binOp];simp [Op.equal,Op.maxDepth,H 9999]
 ·simp only [Ac.val.injEq,true_and] at h;subst h;cases o;refine ⟨.bool true,?_,.bool⟩;simp only [Sem.run_bind,J,Result.andThen_ok,binOp];simp [Op.equal,Op.maxDepth,H 9999]
 ·simp only [Ac.val.injEq,true_and] at h;subst h;cases o;refine ⟨.bool true,?_,.bool⟩;simp only [Sem.run_bind,M,Result.andThen_ok,binOp];simp [Op.equal,Op.maxDepth,I 9999]
 ·simp only [Ac.val.injEq,true_and] at h;subst h;cases o;refine ⟨.bool false,?_,.bool⟩;simp only [Sem.run_bind,M,Result.andThen_ok,binOp];simp [Op.equal,Op.maxDepth,I 9999]
 ·simp at h
theorem bas (op:UnOp) (x:SV) (a:Value) (v:SV) (o:SRep Γ.P D w ow μ st x a) (h:unAc op x=.val true v):∃ u,(Op.unary op a).run Γ.P w=.ok u w/\SRep Γ.P D w ow μ st v u:=by
 unfold unAc at h;split at h
 ·cases o;simp only [Ac.val.injEq,true_and] at h;subst h;exact ⟨_,by simp [Op.unary],.bool⟩
 ·cases o;simp only [Ac.val.injEq,true_and] at h;subst h;exact ⟨_,by simp [Op.unary,Op.intArith],.int⟩
 ·cases o;simp only [Ac.val.injEq,true_and] at h;subst h;exact ⟨_,by simp [Op.unary,Op.intBits,ahg],.int⟩
 ·simp at h
theorem abo (b off j:Nat):(⟨b,off,none⟩:Addr).add j=⟨b,off+j,none⟩:=by grind [Addr.add]
theorem azo:∀ (h:List Int) (s:ByteArray),h.foldl (λr n=>r.push (UInt8.ofNat n.toNat)) s=⟨(s.data.toList++h.map λn=>UInt8.ofNat n.toNat).toArray⟩:=by
 intro h;induction h with
 | nil=>intro s;simp
 | cons n r o=>simp_all
theorem agu {P:Program}{D:Dom}{w:World}{E z H:TypeId}{xs:List PV}{v:Value} (hb:adx P z E=true) (hd:P.underlying H=some .string) (h:SliceRep P D w E xs v):
 (convert z H v).run P w=.ok (.string ⟨(xs.map aay).toArray⟩) w:=by
 unfold adx at hb
 simp only [Aj] at hb
 obtain ⟨⟨h1,h2⟩,M⟩:=hb
 have M:=Ae M
 have O:P.underlying E=some (.int .u8):=by grind [a3s]
 have hs:P.underlying z=some (.slice E):=by grind [Nat.eq_of_beq_eq_true]
 cases h with
 | @nil a c ad=>
  rw [run_convert_bytes_string w z H E a 0 c hs O hd]
  cases a with
  | none=>simp [Conv.bytesToString];rfl
  | some a=>simp [Conv.bytesToString,loadCells,loadCellsFrom];rfl
 | @mk b off cap xs L hl hL hr hh=>
  rw [run_convert_bytes_string w z H E _ _ _ hs O hd]
  have Z:L=(xs.map PV.asInt).map (Value.int .u8):=by
   rw [M,Nat.mul_one] at hL;apply List.ext_getElem?;intro i;by_cases hi:i<xs.length
   ·have hx:xs[i]?=some xs[i]:=Am hi;have:=hr i _ hx;rw [M,Nat.mul_one] at this;have aa:L[i]?=some L[i]:=Am (by omega);have ab:(L.drop i).take 1=[L[i]]:=by
     grind [List.take_one,List.head?_drop]
    rw [ab] at this;rw [aa];simp only [Bh,hx,Option.map_some];generalize L[i]=c at this;generalize xs[i]=x at this;cases this with
    | int o=>rw [O] at o;cases o;rfl
    | bool o=>grind
    | str o=>grind
    | nil o=>grind
    | slice o=>grind
    | agg o=>grind
    | arr o=>grind
    | mapnil o=>grind
    | map _ _ o=>grind
    | raw o=>grind [rawT]
   grind
  have I:=run_loadCells_list (P:=P) w ⟨b,off,none⟩ L (λj v hj=>by rw [abo];exact (hh j v hj).2)
  have J:L.length=xs.length:=by grind
  rw [J] at I
  rw [run_bytesToString w ⟨b,off,none⟩ xs.length cap (xs.map PV.asInt) (by rw [I,Z])]
  rw [azo]
  simp [aay,Function.comp_def]
theorem azt (o M:TypeId) (x:SV) (a:Value) (v:SV) (z:SRep Γ.P D w ow μ st x a) (h:ans Γ.P o M x=.val true v):∃ u,(convert o M a).run Γ.P w=.ok u w/\SRep Γ.P D w ow μ st v u:=by
 unfold ans at h;cases J:(Γ.P.underlying o).isSome with
 | false=>grind
 | true=>
 rw [J] at h;simp only [Af] at h;obtain ⟨d,O⟩:=Option.isSome_iff_exists.1 J;split at h
 ·rename_i k Z n H;cases z;simp only [Ac.val.injEq,true_and] at h;subst h;exact ⟨_,by simp [convert,run_underlying O,run_underlying H,Conv.intToInt],.int⟩
 ·rename_i s H;cases z;simp only [Ac.val.injEq,true_and] at h;subst h;exact ⟨_,by simp [convert,run_underlying O,run_underlying H],.str⟩
 ·rename_i E xs H;cases I:adx Γ.P o E with
  | false=>grind
  | true=>
   rw [I] at h;simp only [Af,Ac.val.injEq,true_and] at h;subst h;cases z with
   | slice z=>exact ⟨_,agu I H z,.str⟩
 ·rename_i E xs H;cases I:adx Γ.P o E with
  | false=>grind
  | true=>
   rw [I] at h;simp only [Af,Ac.val.injEq,true_and] at h;subst h;cases z with
   | acc z=>exact ⟨_,agu I H z,.str⟩
 ·rename_i E xs H;cases I:adx Γ.P o E with
  | false=>grind
  | true=>
   rw [I] at h;simp only [Af,Ac.val.injEq,true_and] at h;subst h;cases z with
   | lit z=>exact ⟨_,agu I H z,.str⟩
 ·rename_i k n H;cases z;simp only [Ac.val.injEq,true_and] at h;subst h;exact ⟨_,by simp [convert,run_underlying O,run_underlying H,Conv.intToString],.str⟩
 ·simp at h
end
end Go.Ab
