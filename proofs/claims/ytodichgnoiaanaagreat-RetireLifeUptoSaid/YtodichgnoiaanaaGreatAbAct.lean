/- Operations that touch no memory, or only read it. -/
import Derived.Test.YtodichgnoiaanaaGreatAbRead
import Derived.Laws.BytesString
set_option linter.unusedVariables false
set_option linter.unusedSimpArgs false
set_option linter.unnecessarySimpa false
namespace Go.Ab
open Go
def OpRes (Γ:Ctx) (D:Dom) (ow:Own) (μ:Nat->Nat) (st:List BX) (w:World) (r:Result Next) (v:SV) (st':List BX):Prop:=
 ∃ (u:Value) (w':World) (D':Dom) (ow':Own) (μ':Nat->Nat),(r=.ok (.value u) w'∨(r=.ok .skip w'/\u=Go.undef))/\WRel Γ D' ow' μ' st' w'/\Moves D w ow μ st D' w' ow' μ' st'/\SRep Γ.P D' w' ow' μ' st' v u
section
variable {Γ:Ctx}{D:Dom}{ow:Own}{μ:Nat->Nat}{st:List BX}{w:World}
theorem OpRes.still (hw:WRel Γ D ow μ st w) {r:Result Next}{v:SV}{u:Value} (hr:r=.ok (.value u) w) (hs:SRep Γ.P D w ow μ st v u):OpRes Γ D ow μ st w r v st:=
 ⟨u,w,D,ow,μ,Or.inl hr,hw,Moves.refl _ _ _ _ _,hs⟩
theorem OpRes.grew (hw:WRel Γ D ow μ st w) {w':World}{D':Dom}{r:Result Next}{v:SV}{u:Value} (hr:r=.ok (.value u) w') (g:Grew w w') (hD:∀ b o,D b o->D' b o) (hN:∀ b o,D' b o->D b o∨(w.heap.size<=b/\b<w'.heap.size))
 (hs:Moves D w ow μ st D' w' ow μ st->SRep Γ.P D' w' ow μ st v u):OpRes Γ D ow μ st w r v st:=by
 obtain ⟨h1,h2⟩:=hw.grew g hD hN
 exact ⟨u,w',D',ow,μ,Or.inl hr,h1,h2,hs h2⟩
theorem azl (T:TypeId) (op:BinOp) (k:IntKind) (x y:Int) (v:SV) (h:aw3 op k x y=.val true v):
 ∃ u,(binOp op T (.int k x) (.int k y)).run Γ.P w=.ok u w/\SRep Γ.P D w ow μ st v u:=by
 cases op<;>simp only [aw3,Ac.val.injEq,reduceCtorEq,true_and] at h
 case quo=>
  obtain ⟨h1,rfl⟩:=h
  have hy:y≠0:=by simpa using h1
  exact ⟨_,by simp [binOp,Op.intDiv,hy],.int⟩
 case rem=>
  obtain ⟨h1,rfl⟩:=h
  have hy:y≠0:=by simpa using h1
  exact ⟨_,by simp [binOp,Op.intDiv,hy],.int⟩
 all_goals subst h
 case add | sub | mul=>exact ⟨_,by simp [binOp,Op.intArith],.int⟩
 case and | or | xor | andNot=>exact ⟨_,by simp only [binOp,ite_not,if_true];rfl,.int⟩
 all_goals exact ⟨_,by simp [binOp,Op.intCmp],.bool⟩
theorem a09 (T:TypeId) (k k':IntKind) (x y:Int) (hy:0<=y):(binOp .shl T (.int k x) (.int k' y)).run Γ.P w=.ok (.int k (k.wrap (x*2^(min y.toNat k.bits)))) w:=by
 have:¬y<0:=by omega
 simp [binOp,Op.shift,this]
theorem a1a (T:TypeId) (k k':IntKind) (x y:Int) (hy:0<=y):(binOp .shr T (.int k x) (.int k' y)).run Γ.P w=.ok (.int k (x.fdiv (2^(min y.toNat k.bits)))) w:=by
 have:¬y<0:=by omega
 simp [binOp,Op.shift,this]
theorem a1f (T:TypeId) (op:BinOp) (x y:List UInt8) (v:SV) (h:ax0 op x y=.val true v):
 ∃ u,(binOp op T (.string ⟨x.toArray⟩) (.string ⟨y.toArray⟩)).run Γ.P w=.ok u w/\SRep Γ.P D w ow μ st v u:=by
 cases op<;>simp only [ax0,Ac.val.injEq,reduceCtorEq,true_and] at h
 case add=>
  obtain ⟨h1,rfl⟩:=h
  have h1:x.length+y.length<=aad:=by simpa using h1
  refine ⟨_,?_,.str (s:=x++y)⟩
  rw [binOp_string_add,run_string_add_sum _ _ _ (by show x.toArray.size+y.toArray.size<=_;simp;unfold aad at h1;omega),ByteArray.mk_append_mk]
 all_goals subst h
 all_goals exact ⟨_,by simp [binOp,Op.stringOp,ByteArray.toList_mk],.bool⟩
theorem aq5 (d:Nat) {T:TypeId} (hT:Γ.P.underlying T=some .bool) (x y:Bool):(Op.equalIn (d+1) T (.bool x) (.bool y)).run Γ.P w=.ok (x==y) w:=by
 simp [Op.equalIn,run_underlying hT]
theorem awk (T:TypeId) (op:BinOp) (x y:Bool) (v:SV) (hT:Γ.P.underlying T=some .bool) (h:an7 op x y=.val true v):
 ∃ u,(binOp op T (.bool x) (.bool y)).run Γ.P w=.ok u w/\SRep Γ.P D w ow μ st v u:=by
 have e:(Op.equal T (.bool x) (.bool y)).run Γ.P w=.ok (x==y) w:=by
  exact aq5 9999 hT x y
 cases op<;>simp only [an7,Ac.val.injEq,reduceCtorEq,true_and] at h
 all_goals subst h
 all_goals exact ⟨_,by simp [binOp,e],.bool⟩
theorem ahw (T:TypeId) (op:BinOp) (a:Option Addr) (n c:Nat) (v:SV) (hT:ahb Γ.P T=true) (b:Bool) (hb:a.isNone=b) (h:ad5 op b=.val true v):
 ∃ u,(binOp op T (.slice a n c) (.slice none 0 0)).run Γ.P w=.ok u w/\SRep Γ.P D w ow μ st v u:=by
 unfold ahb at hT
 split at hT
 case h_2=>cases hT
 rename_i e hu
 have eN:∀ d:Nat,(Op.equalIn (d+1) T (.slice a n c) (.slice none 0 0)).run Γ.P w=.ok b w:=fun d=>by
  subst hb
  cases a<;>simp [Op.equalIn,run_underlying hu]
 unfold ad5 at h
 split at h
 ·simp only [Ac.val.injEq,true_and] at h;subst h
  exact ⟨_,by simp [binOp,Op.equal,Op.maxDepth,eN 9999],.bool⟩
 ·simp only [Ac.val.injEq,true_and] at h;subst h
  exact ⟨_,by simp [binOp,Op.equal,Op.maxDepth,eN 9999],.bool⟩
 ·cases h
theorem ayn (T:TypeId) (op:BinOp) (x y:SV) (a b:Value) (v:SV) (ha:SRep Γ.P D w ow μ st x a) (hb:SRep Γ.P D w ow μ st y b) (h:as2 Γ.P op T x y=.val true v) (ox oy:Operand):
 ∃ u,(do eqGuard op T ox oy a b;binOp op T a b:Sem Value).run Γ.P w=.ok u w/\SRep Γ.P D w ow μ st v u:=by
 have guard:∀ p q:Value,(∀ cs,p≠.agg cs)->p≠.nilIface->(eqGuard op T ox oy p q).run Γ.P w=.ok () w:=by
  intro p q h1 h2
  unfold eqGuard
  cases op<;>simp<;>(split<;>simp_all)
 unfold as2 at h
 split at h
 ·rename_i k m k' n
  cases ha;cases hb
  simp only [Sem.run_bind,guard (.int k m) (.int k' n) (by simp) (by simp),Result.andThen_ok]
  split at h
  ·simp only [Ac.val.injEq] at h;obtain ⟨h1,rfl⟩:=h
   exact ⟨_,a09 T k k' m n (by simpa using h1),.int⟩
  ·simp only [Ac.val.injEq] at h;obtain ⟨h1,rfl⟩:=h
   exact ⟨_,a1a T k k' m n (by simpa using h1),.int⟩
  ·cases hk:decide (k=k') with
   | false=>rw [hk] at h;simp at h
   | true=>
    rw [hk] at h
    have:k=k':=by simpa using hk
    subst this
    exact azl T op k m n v h
 ·cases ha;cases hb
  simp only [Sem.run_bind]
  rw [guard _ _ (by simp) (by simp)]
  exact a1f T op _ _ v h
 ·cases ha;cases hb
  simp only [Sem.run_bind]
  rw [guard _ _ (by simp) (by simp)]
  cases hb:atl Γ.P T with
  | false=>rw [hb] at h;simp at h
  | true=>
   rw [hb] at h
   refine awk T op _ _ v ?_ h
   unfold atl at hb
   split at hb
   ·assumption
   ·cases hb
 ·rename_i E xs
  cases ha;cases hb
  simp only [Sem.run_bind]
  rw [guard _ _ (by simp) (by simp)]
  cases hb:ahb Γ.P T with
  | false=>rw [hb] at h;simp at h
  | true=>rw [hb] at h;exact ahw T op _ _ _ v hb false rfl h
 ·cases ha;cases hb
  simp only [Sem.run_bind]
  rw [guard _ _ (by simp) (by simp)]
  cases hb:ahb Γ.P T with
  | false=>rw [hb] at h;simp at h
  | true=>rw [hb] at h;exact ahw T op _ _ _ v hb true rfl h
 ·exact ask T op _ _ a b v ha hb h ox oy
theorem ati (T:TypeId) (op:BinOp) (x:SV) (a:Value) (v:SV) (ha:SRep Γ.P D w ow μ st x a) (hT:ak7 Γ.P T=true) (h:afw op x=.val true v) (ox:Operand):
 ∃ u,(do eqGuard op T ox (.const .nilIface) a .nilIface;binOp op T a .nilIface:Sem Value).run Γ.P w=.ok u w/\SRep Γ.P D w ow μ st v u:=by
 unfold ak7 at hT
 split at hT
 case h_2=>cases hT
 rename_i ms hu
 have eN:∀ d:Nat,(Op.equalIn (d+1) T .nilIface .nilIface).run Γ.P w=.ok true w:=fun d=>by simp [Op.equalIn,run_underlying hu]
 have eI:∀ (d:Nat) (t:TypeId) (z:Value),(Op.equalIn (d+1) T (.iface t z) .nilIface).run Γ.P w=.ok false w:=fun d t z=>by simp [Op.equalIn,run_underlying hu]
 have gN:(eqGuard op T ox (.const .nilIface) .nilIface .nilIface).run Γ.P w=.ok () w:=by rw [eqGuard_nil_constR];simp
 have gI:∀ (t:TypeId) (z:Value),(eqGuard op T ox (.const .nilIface) (.iface t z) .nilIface).run Γ.P w=.ok () w:=fun t z=>by
  unfold eqGuard
  cases op<;>simp
 unfold afw at h
 split at h
 ·rename_i b
  simp only [Ac.val.injEq,true_and] at h;subst h
  cases ha with
  | eif h1 h2=>
   cases b with
   | true=>
    rw [h1 rfl]
    refine ⟨.bool true,?_,.bool⟩
    simp only [Sem.run_bind,gN,Result.andThen_ok,binOp]
    simp [Op.equal,Op.maxDepth,eN 9999]
   | false=>
    obtain ⟨t,u,rfl⟩:=h2 rfl
    refine ⟨.bool false,?_,.bool⟩
    simp only [Sem.run_bind,gI,Result.andThen_ok,binOp]
    simp [Op.equal,Op.maxDepth,eI 9999]
 ·rename_i b
  simp only [Ac.val.injEq,true_and] at h;subst h
  cases ha with
  | eif h1 h2=>
   cases b with
   | true=>
    rw [h1 rfl]
    refine ⟨.bool false,?_,.bool⟩
    simp only [Sem.run_bind,gN,Result.andThen_ok,binOp]
    simp [Op.equal,Op.maxDepth,eN 9999]
   | false=>
    obtain ⟨t,u,rfl⟩:=h2 rfl
    refine ⟨.bool true,?_,.bool⟩
    simp only [Sem.run_bind,gI,Result.andThen_ok,binOp]
    simp [Op.equal,Op.maxDepth,eI 9999]
 ·simp only [Ac.val.injEq,true_and] at h;subst h
  cases ha
  refine ⟨.bool false,?_,.bool⟩
  simp only [Sem.run_bind,gI,Result.andThen_ok,binOp]
  simp [Op.equal,Op.maxDepth,eI 9999]
 ·simp only [Ac.val.injEq,true_and] at h;subst h
  cases ha
  refine ⟨.bool true,?_,.bool⟩
  simp only [Sem.run_bind,gI,Result.andThen_ok,binOp]
  simp [Op.equal,Op.maxDepth,eI 9999]
 ·simp only [Ac.val.injEq,true_and] at h;subst h
  cases ha
  refine ⟨.bool true,?_,.bool⟩
  simp only [Sem.run_bind,gN,Result.andThen_ok,binOp]
  simp [Op.equal,Op.maxDepth,eN 9999]
 ·simp only [Ac.val.injEq,true_and] at h;subst h
  cases ha
  refine ⟨.bool false,?_,.bool⟩
  simp only [Sem.run_bind,gN,Result.andThen_ok,binOp]
  simp [Op.equal,Op.maxDepth,eN 9999]
 ·simp at h
theorem a3w (op:UnOp) (x:SV) (a:Value) (v:SV) (ha:SRep Γ.P D w ow μ st x a) (h:unAc op x=.val true v):∃ u,(Op.unary op a).run Γ.P w=.ok u w/\SRep Γ.P D w ow μ st v u:=by
 unfold unAc at h
 split at h
 ·cases ha;simp only [Ac.val.injEq,true_and] at h;subst h
  exact ⟨_,by simp [Op.unary],.bool⟩
 ·cases ha;simp only [Ac.val.injEq,true_and] at h;subst h
  exact ⟨_,by simp [Op.unary,Op.intArith],.int⟩
 ·cases ha;simp only [Ac.val.injEq,true_and] at h;subst h
  exact ⟨_,by simp [Op.unary,Op.intBits,a1w],.int⟩
 ·simp at h
theorem ab6 (b off j:Nat):(⟨b,off,none⟩:Addr).add j=⟨b,off+j,none⟩:=by
 unfold Addr.add;split<;>simp_all
theorem awm:∀ (ns:List Int) (s:ByteArray),ns.foldl (fun r n=>r.push (UInt8.ofNat n.toNat)) s=⟨(s.data.toList++ns.map fun n=>UInt8.ofNat n.toNat).toArray⟩:=by
 intro ns
 induction ns with
 | nil=>intro s;simp
 | cons n r ih=>
  intro s
  rw [List.foldl_cons,ih]
  simp [ByteArray.push]
theorem afr {P:Program}{D:Dom}{w:World}{E src dst:TypeId}{xs:List PV}{v:Value} (hb:adb P src E=true) (hd:P.underlying dst=some .string) (h:SliceRep P D w E xs v):
 (convert src dst v).run P w=.ok (.string ⟨(xs.map acl).toArray⟩) w:=by
 unfold adb at hb
 simp only [Bool.and_eq_true] at hb
 obtain ⟨⟨h1,h2⟩,h3⟩:=hb
 have h3:=Nat.eq_of_beq_eq_true h3
 have hE:P.underlying E=some (.int .u8):=by
  unfold azm at h2
  split at h2
  ·assumption
  ·cases h2
 have hs:P.underlying src=some (.slice E):=by
  split at h1
  ·rename_i E' he;rw [he,Nat.eq_of_beq_eq_true h1]
  ·cases h1
 cases h with
 | @nil a c hac=>
  rw [run_convert_bytes_string w src dst E a 0 c hs hE hd]
  cases a with
  | none=>simp [Conv.bytesToString];rfl
  | some a=>simp [Conv.bytesToString,loadCells,loadCellsFrom];rfl
 | @mk b off cap xs L hl hL hr hh=>
  rw [run_convert_bytes_string w src dst E _ _ _ hs hE hd]
  have hLe:L=(xs.map PV.asInt).map (Value.int .u8):=by
   rw [h3,Nat.mul_one] at hL
   apply List.ext_getElem?
   intro i
   by_cases hi:i<xs.length
   ·have hx:xs[i]?=some xs[i]:=List.getElem?_eq_getElem hi
    have:=hr i _ hx
    rw [h3,Nat.mul_one] at this
    have hLi:L[i]?=some L[i]:=List.getElem?_eq_getElem (by omega)
    have htk:(L.drop i).take 1=[L[i]]:=by
     rw [List.take_one,List.head?_drop,hLi];rfl
    rw [htk] at this
    rw [hLi]
    simp only [List.getElem?_map,hx,Option.map_some]
    generalize L[i]=c at this
    generalize xs[i]=x at this
    cases this with
    | int hT=>rw [hE] at hT;cases hT;rfl
    | bool hT=>rw [hE] at hT;cases hT
    | str hT=>rw [hE] at hT;cases hT
    | nil hT=>rw [hE] at hT;cases hT
    | slice hT=>rw [hE] at hT;cases hT
    | agg hT=>rw [hE] at hT;cases hT
    | arr hT=>rw [hE] at hT;cases hT
    | mapnil hT=>rw [hE] at hT;cases hT
    | map _ _ hT=>rw [hE] at hT;cases hT
    | raw hT=>simp [rawT,hE] at hT
   ·rw [List.getElem?_eq_none (by omega),List.getElem?_eq_none (by simp;omega)]
  have hlc:=run_loadCells_list (P:=P) w ⟨b,off,none⟩ L (fun j v hj=>by
   rw [ab6];exact (hh j v hj).2)
  have hlen:L.length=xs.length:=by rw [hL,h3,Nat.mul_one]
  rw [hlen] at hlc
  rw [run_bytesToString w ⟨b,off,none⟩ xs.length cap (xs.map PV.asInt) (by rw [hlc,hLe])]
  rw [awm]
  simp [acl,Function.comp_def]
theorem awp (src dst:TypeId) (x:SV) (a:Value) (v:SV) (ha:SRep Γ.P D w ow μ st x a) (h:alr Γ.P src dst x=.val true v):∃ u,(convert src dst a).run Γ.P w=.ok u w/\SRep Γ.P D w ow μ st v u:=by
 unfold alr at h
 cases hsrc:(Γ.P.underlying src).isSome with
 | false=>rw [hsrc] at h;simp at h
 | true=>
 rw [hsrc] at h
 simp only [cond_true] at h
 obtain ⟨d,hs⟩:=Option.isSome_iff_exists.1 hsrc
 split at h
 ·rename_i k k' n hd
  cases ha;simp only [Ac.val.injEq,true_and] at h;subst h
  exact ⟨_,by simp [convert,run_underlying hs,run_underlying hd,Conv.intToInt],.int⟩
 ·rename_i s hd
  cases ha;simp only [Ac.val.injEq,true_and] at h;subst h
  exact ⟨_,by simp [convert,run_underlying hs,run_underlying hd],.str⟩
 ·rename_i E xs hd
  cases hb:adb Γ.P src E with
  | false=>rw [hb] at h;cases h
  | true=>
   rw [hb] at h
   simp only [cond_true,Ac.val.injEq,true_and] at h;subst h
   cases ha with
   | slice ha=>exact ⟨_,afr hb hd ha,.str⟩
 ·rename_i E xs hd
  cases hb:adb Γ.P src E with
  | false=>rw [hb] at h;cases h
  | true=>
   rw [hb] at h
   simp only [cond_true,Ac.val.injEq,true_and] at h;subst h
   cases ha with
   | acc ha=>exact ⟨_,afr hb hd ha,.str⟩
 ·rename_i E xs hd
  cases hb:adb Γ.P src E with
  | false=>rw [hb] at h;cases h
  | true=>
   rw [hb] at h
   simp only [cond_true,Ac.val.injEq,true_and] at h;subst h
   cases ha with
   | lit ha=>exact ⟨_,afr hb hd ha,.str⟩
 ·rename_i k n hd
  cases ha;simp only [Ac.val.injEq,true_and] at h;subst h
  exact ⟨_,by simp [convert,run_underlying hs,run_underlying hd,Conv.intToString],.str⟩
 ·simp at h
end
end Go.Ab
