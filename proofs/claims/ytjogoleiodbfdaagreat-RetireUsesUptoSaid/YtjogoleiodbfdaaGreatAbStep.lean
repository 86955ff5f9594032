/- One operation: what the evaluator says of it, the model does. -/
import Derived.Test.YtjogoleiodbfdaaGreatAbBuild
import Derived.Test.YtjogoleiodbfdaaGreatAbIter
set_option linter.unusedVariables false
set_option linter.unusedSimpArgs false
set_option linter.unnecessarySimpa false
namespace Go.Ab
open Go
section
variable {Γ:Ctx}{D:Dom}{ow:Own}{μ:Nat->Nat}{st:List BX}{w:World}{η:Operand->Value}{ρ ρt ρf:Operand->SV}
theorem OpRes.lift {r:Result Next}{v:SV}{st':List BX}{s:Sem Value}{u:Value}{w':World} (hs:s.run Γ.P w=.ok u w') (h:OpRes Γ D ow μ st w (.ok (.value u) w') v st') (hr:r=(do pure (.value (<-s)):Sem Next).run Γ.P w):OpRes Γ D ow μ st w r v st':=by
 rw [hr]
 simp only [Sem.run_bind,hs,Result.andThen_ok,Sem.run_pure]
 exact h
theorem OpRes.lift0 (hw:WRel Γ D ow μ st w) {r:Result Next}{v:SV}{s:Sem Value} (h:∃ u,s.run Γ.P w=.ok u w/\SRep Γ.P D w ow μ st v u) (hr:r=(do pure (.value (<-s)):Sem Next).run Γ.P w):OpRes Γ D ow μ st w r v st:=by
 obtain ⟨u,h1,h2⟩:=h
 exact OpRes.lift h1 (OpRes.still hw rfl h2) hr
theorem OpRes.liftU {r:Result Next}{v:SV}{st':List BX}{s:Sem Unit}{w':World} (hs:s.run Γ.P w=.ok () w') (h:OpRes Γ D ow μ st w (.ok .skip w') v st') (hr:r=(do s;pure .skip:Sem Next).run Γ.P w):OpRes Γ D ow μ st w r v st':=by
 rw [hr]
 simp only [Sem.run_bind,hs,Result.andThen_ok,Sem.run_pure]
 exact h
theorem aoj {b:Bool}{x:Ac}{v:SV} (h:x≠.val true v):(bif b then x else .fail)≠.val true v:=by cases b<;>simp [h]
theorem ajq (P:Program) (st:List BX) (T:TypeId) (x y:SV) (c:Bool) (v:SV):acf P st T x y≠.val c v:=by
 unfold acf
 intro h
 simp only [cond_eq_ite] at h
 repeat' split at h
 all_goals simp at h
theorem adw (P:Program) (T:TypeId) (st:List BX) (a x:SV) (v:SV):act P T st a x≠.val true v:=by
 unfold act
 intro h
 simp only [cond_eq_ite] at h
 repeat' split at h
 all_goals simp at h
theorem ale (P:Program) (T:TypeId) (st:List BX) (a x:SV) (v:SV):ada P T st a x≠.val true v:=by
 intro h
 unfold ada at h
 split at h
 ·split at h
  ·split at h
   ·simp only [cond_eq_ite] at h
    split at h
    ·cases h
    ·exact adw _ _ _ _ _ _ h
   ·cases h
  ·exact adw _ _ _ _ _ _ h
 ·exact adw _ _ _ _ _ _ h
theorem adu (P:Program) (T:TypeId) (st:List BX) (m k x:SV) (v:SV):abh P T st m k x≠.val true v:=by
 unfold abh
 intro h
 simp only [cond_eq_ite] at h
 repeat' split at h
 all_goals simp at h
theorem ah5 (P:Program) (T:TypeId) (st:List BX) (m k:SV) (v:SV):abu P T st m k≠.val true v:=by
 unfold abu
 intro h
 simp only [cond_eq_ite] at h
 repeat' split at h
 all_goals simp at h
theorem ags (P:Program) (T:TypeId) (st:List BX) (m k x:SV) (v:SV):abk P T st m k x≠.val true v:=by
 unfold abk
 intro h
 simp only [cond_eq_ite] at h
 repeat' split at h
 all_goals simp at h
theorem apf (hρ:∀ x,SRep Γ.P D w ow μ st (ρ x) (η x)) (ps:Array (Nat×Operand)):(ps.toList.map fun (i,x)=>(i,ρ x)).length=(ps.map fun (i,x)=>(i,η x)).size/\
 ∀ (n i:Nat) (s:SV) (j:Nat) (u:Value),(ps.toList.map fun (i,x)=>(i,ρ x))[n]?=some (i,s)->(ps.map fun (i,x)=>(i,η x))[n]?=some (j,u)->i=j/\SRep Γ.P D w ow μ st s u:=by
 refine ⟨by simp,fun n i s j u h1 h2=>?_⟩
 rw [List.getElem?_map] at h1
 rw [Array.getElem?_map] at h2
 cases hp:ps[n]? with
 | none=>rw [hp] at h2;simp at h2
 | some p=>
  obtain ⟨k,x⟩:=p
  have:ps.toList[n]?=some (k,x):=by simpa using hp
  rw [this] at h1;rw [hp] at h2
  simp at h1 h2
  obtain ⟨rfl,rfl⟩:=h1
  obtain ⟨rfl,rfl⟩:=h2
  exact ⟨rfl,hρ x⟩
theorem aq4 (mx:Bool):∀ (ss:List SV) (us:List Value) (k:IntKind) (a n:Int),ss.length=us.length->(∀ (i:Nat) (s:SV) (u:Value),ss[i]?=some s->us[i]?=some u->SRep Γ.P D w ow μ st s u)->agd mx a ss=some n->
 (us.foldlM (if mx then Builtin.max2 else Builtin.min2) (.int k a):Sem Value).run Γ.P w=.ok (.int k n) w:=by
 intro ss
 induction ss with
 | nil=>
  intro us k a n hl _ h
  have:us=[]:=List.eq_nil_of_length_eq_zero (by simpa using hl.symm)
  subst this
  simp [agd] at h;subst h
  simp
 | cons x r ih=>
  intro us k a n hl hall h
  cases us with
  | nil=>simp at hl
  | cons u q=>
   have hx:=hall 0 x u rfl rfl
   cases x with
   | int kb b=>
    generalize hu:u=uu at hx
    cases hx
    simp only [agd] at h
    have:=ih q k _ n (by simpa using hl) (fun i s v h1 h2=>hall (i+1) s v (by simpa using h1) (by simpa using h2)) h
    cases mx
    ·simp only [cond_false,Bool.false_eq_true,if_false] at this ⊢
     simp only [List.foldlM_cons,Builtin.min2,pure_bind]
     exact this
    ·simp only [cond_true,if_true] at this ⊢
     simp only [List.foldlM_cons,Builtin.max2,pure_bind]
     exact this
   | _=>simp [agd] at h
theorem aji (mx:Bool) (ss:List SV) (us:List Value) (hl:ss.length=us.length) (hall:∀ (i:Nat) (s:SV) (u:Value),ss[i]?=some s->us[i]?=some u->SRep Γ.P D w ow μ st s u) (v:SV) (h:ac2 mx ss=.val true v):
 ∃ (x:Value) (q:List Value) (u:Value),us=x::q/\(q.foldlM (if mx then Builtin.max2 else Builtin.min2) x:Sem Value).run Γ.P w=.ok u w/\SRep Γ.P D w ow μ st v u:=by
 unfold ac2 at h
 split at h
 ·rename_i k a r
  cases us with
  | nil=>simp at hl
  | cons x q=>
   have hx:=hall 0 _ x rfl rfl
   generalize hu:x=xx at hx
   cases hx
   split at h
   ·rename_i n hf
    simp only [Ac.val.injEq,true_and] at h;subst h
    exact ⟨_,q,_,rfl,aq4 mx r q k a n (by simpa using hl) (fun i s v h1 h2=>hall (i+1) s v (by simpa using h1) (by simpa using h2)) hf,.int⟩
   ·cases h
 ·cases h
theorem adx (hw:WRel Γ D ow μ st w) (hρ:∀ x,SRep Γ.P D w ow μ st (ρ x) (η x)) (o:Oper)
 (hpick:∀ c x y,o.op=.pick c x y->(η c=.bool true->SRep Γ.P D w ow μ st (ρt x) (η x))/\(η c=.bool false->SRep Γ.P D w ow μ st (ρf y) (η y)))
 (v:SV) (h:ac Γ.P o.op ρ ρt ρf st=.val true v):OpRes Γ D ow μ st w ((execOp η o).run Γ.P w) v st:=by
 cases hop:o.op with
 | move x=>
  rw [hop] at h;simp only [ac,Ac.val.injEq,true_and] at h;subst h
  exact OpRes.still hw (by simp only [execOp,hop,Sem.run_pure]) (hρ x)
 | assign x=>
  rw [hop] at h;simp only [ac,Ac.val.injEq,true_and] at h;subst h
  exact OpRes.still hw (by simp only [execOp,hop,Sem.run_pure]) (hρ x)
 | pick c x y=>
  rw [hop] at h;simp only [ac] at h
  obtain ⟨h1,h2⟩:=hpick c x y hop
  split at h
  ·rename_i b p q hc hx hy
   simp only [Ac.val.injEq,true_and] at h;subst h
   have hcv:=hρ c
   rw [hc] at hcv
   generalize hcc:η c=cv at hcv
   cases hcv
   have run:(execOp η o).run Γ.P w=.ok (.value (if b then η x else η y)) w:=by
    simp only [execOp,hop,hcc,asBool,Sem.run_bind,Sem.run_pure,Result.andThen_ok]
   rw [run]
   cases b with
   | true=>
    have:=h1 hcc;rw [hx] at this
    exact OpRes.still hw rfl this
   | false=>
    have:=h2 hcc;rw [hy] at this
    exact OpRes.still hw rfl this
  ·simp at h
 | build T ps=>
  rw [hop] at h;simp only [ac] at h
  obtain ⟨q1,q2⟩:=apf (Γ:=Γ) hρ ps
  exact OpRes.lift0 hw (aqh T _ _ v q1 q2 h) (by simp only [execOp,hop])
 | buildSlice T n ps=>
  rw [hop] at h;simp only [ac] at h
  obtain ⟨q1,q2⟩:=apf (Γ:=Γ) hρ ps
  obtain ⟨u,w',r1,r2⟩:=ajr hw T n _ _ v q1 q2 h
  exact OpRes.lift r1 r2 (by simp only [execOp,hop])
 | load T a=>
  rw [hop] at h;simp only [ac] at h
  exact OpRes.lift0 hw (at9 hw T _ _ v (hρ a) h) (by simp only [execOp,hop])
 | nilCheck x=>
  rw [hop] at h;simp only [ac] at h
  have hx:=hρ x
  split at h
  ·rename_i k p T he
   simp only [Ac.val.injEq,true_and] at h;subst h
   rw [he] at hx
   generalize hcc:η x=cv at hx
   have h':=hx
   cases hx
   exact OpRes.still hw (by simp only [execOp,hop,hcc,Sem.run_pure]) h'
  ·rename_i T pv he
   simp only [Ac.val.injEq,true_and] at h;subst h
   rw [he] at hx
   generalize hcc:η x=cv at hx
   have h':=hx
   cases hx
   exact OpRes.still hw (by simp only [execOp,hop,hcc,Sem.run_pure]) h'
  ·rename_i f cs he
   simp only [Ac.val.injEq,true_and] at h;subst h
   rw [he] at hx
   generalize hcc:η x=cv at hx
   have h':=hx
   cases hx
   exact OpRes.still hw (by simp only [execOp,hop,hcc,Sem.run_pure]) h'
  ·rename_i k T he
   simp only [Ac.val.injEq,true_and] at h;subst h
   rw [he] at hx
   generalize hcc:η x=cv at hx
   have h':=hx
   cases hx
   exact OpRes.still hw (by simp only [execOp,hop,hcc,Sem.run_pure]) h'
  ·rename_i k g i E p T he
   cases hg:adc st k g with
   | false=>rw [hg] at h;cases h
   | true=>
    rw [hg] at h
    simp only [cond_true,Ac.val.injEq,true_and] at h;subst h
    rw [he] at hx
    generalize hcc:η x=cv at hx
    have h':=hx
    cases hx with
    | arefOld hk hlt _=>unfold adc at hg;rw [hk] at hg;have:=Nat.eq_of_beq_eq_true hg;omega
    | aref=>exact OpRes.still hw (by simp only [execOp,hop,hcc,Sem.run_pure]) h'
  ·simp at h
 | binOp b T x y T2=>
  rw [hop] at h;simp only [ac] at h
  unfold akb at h
  cases hN:(av1 y&&ajx Γ.P T) with
  | false=>
   rw [hN] at h
   exact OpRes.lift0 hw (avc T b _ _ _ _ v (hρ x) (hρ y) h x y) (by simp only [execOp,hop])
  | true=>
   rw [hN] at h
   simp only [cond_true] at h
   simp only [Bool.and_eq_true] at hN
   split at h
   ·rename_i hb
    have hy:=hρ y
    rw [hb] at hy
    have hcc:η y=.nilIface:=by
     generalize η y=cv at hy
     cases hy with
     | eif h1 _=>exact h1 rfl
    have hyc:y=.const .nilIface:=by
     have:=hN.1
     unfold av1 at this
     split at this
     ·rfl
     ·cases this
    subst hyc
    have:=aqs (Γ:=Γ) (D:=D) (w:=w) T b _ _ v (hρ x) hN.2 h x
    rw [<-hcc] at this
    have e:(do eqGuard b T x (.const (η (.const .nilIface))) (η x) (η (.const .nilIface));binOp b T (η x) (η (.const .nilIface)):Sem Value)=(do eqGuard b T x (.const .nilIface) (η x) (η (.const .nilIface));binOp b T (η x) (η (.const .nilIface))):=by rw [hcc]
    rw [e] at this
    exact OpRes.lift0 hw this (by simp only [execOp,hop])
   ·simp at h
 | unOp u T x=>
  rw [hop] at h;simp only [ac] at h
  exact OpRes.lift0 hw (ayv u _ _ v (hρ x) h) (by simp only [execOp,hop])
 | convert s d x=>
  rw [hop] at h;simp only [ac] at h
  exact OpRes.lift0 hw (aok hw s d _ _ v (hρ x) h) (by simp only [execOp,hop])
 | makeFunc fn first cs=>
  rw [hop] at h;simp only [ac] at h
  unfold adl at h
  split at h
  ·rename_i f
   simp only [Ac.val.injEq,true_and] at h;subst h
   refine OpRes.still hw (u:=.func (.func f) (first.map η) (cs.map η)) (by simp [execOp,hop,Instr.makeFunc]) (.fn (by simp) (by simp) (fun i s v hi hv=>?_))
   rw [<-List.map_append,List.getElem?_map] at hi
   rw [<-Array.map_append,Array.getElem?_map] at hv
   cases hp:(first++cs)[i]? with
   | none=>rw [hp] at hv;simp at hv
   | some p=>
    have:(first.toList++cs.toList)[i]?=some p:=by rw [<-Array.toList_append,Array.getElem?_toList];exact hp
    rw [this] at hi;rw [hp] at hv
    simp at hi hv
    subst hi;subst hv
    exact hρ p
  ·simp at h
 | slice T x lo hi mx=>
  rw [hop] at h;simp only [ac] at h
  refine OpRes.lift0 hw (arq T _ _ _ _ _ (lo.map η) (hi.map η) (mx.map η) v (hρ x) ?_ (by simp) ?_ (by simp) (by simp) h) (by simp only [execOp,hop])
  ·intro s u h1 h2
   cases lo with
   | none=>simp at h1
   | some l=>simp at h1 h2;subst h1;subst h2;exact hρ l
  ·intro s u h1 h2
   cases hi with
   | none=>simp at h1
   | some l=>simp at h1 h2;subst h1;subst h2;exact hρ l
 | fieldAddr S x i=>
  rw [hop] at h;simp only [ac] at h
  exact OpRes.lift0 hw (akj S i _ _ v (hρ x) h) (by simp only [execOp,hop])
 | field S x i=>
  rw [hop] at h;simp only [ac] at h
  exact OpRes.lift0 hw (aqn S i _ _ v (hρ x) h) (by simp only [execOp,hop])
 | indexAddr T x i=>
  rw [hop] at h;simp only [ac] at h
  exact OpRes.lift0 hw (ako T _ _ _ _ v (hρ x) (hρ i) h) (by simp only [execOp,hop])
 | index T x i=>
  rw [hop] at h;simp only [ac] at h
  exact OpRes.lift0 hw (aqt T _ _ _ _ v (hρ x) (hρ i) h) (by simp only [execOp,hop])
 | lookup T m k ok=>
  rw [hop] at h;simp only [ac] at h
  exact OpRes.lift0 hw (ao8 hw T _ _ _ _ ok v (hρ m) (hρ k) h) (by simp only [execOp,hop])
 | extract t i=>
  rw [hop] at h;simp only [ac] at h
  have hx:=hρ t
  unfold afp at h
  split at h
  ·rename_i vs he
   split at h
   ·rename_i s hs
    simp only [Ac.val.injEq,true_and] at h;subst h
    rw [he] at hx
    generalize hcc:η t=cv at hx
    cases hx with
    | @tup _ us hsz hall=>
     have hlt:i<us.size:=by rw [hsz];exact (List.getElem?_eq_some_iff.1 hs).1
     have hu:us[i]?=some us[i]:=Array.getElem?_eq_getElem hlt
     exact OpRes.still hw (u:=us[i]) (by simp [execOp,hop,hcc,Instr.extract,hu]) (hall i _ _ hs hu)
   ·simp at h
  ·rename_i b p c he
   rw [he] at hx
   generalize hcc:η t=cv at hx
   cases hx with
   | nx h1 h2=>
    split at h
    ·simp only [Ac.val.injEq,true_and] at h;subst h
     cases b with
     | true=>have:=h1 rfl;subst this;exact OpRes.still hw (u:=.bool true) (by simp [execOp,hop,hcc,Instr.extract]) .bool
     | false=>have:=h2 rfl;subst this;exact OpRes.still hw (u:=.bool false) (by simp [execOp,hop,hcc,Instr.extract]) .bool
    ·simp only [Ac.val.injEq] at h
     obtain ⟨hb,rfl⟩:=h
     have:=h1 hb;subst this
     exact OpRes.still hw (u:=.int .i64 p) (by simp [execOp,hop,hcc,Instr.extract]) .int
    ·simp only [Ac.val.injEq] at h
     obtain ⟨hb,rfl⟩:=h
     have:=h1 hb;subst this
     exact OpRes.still hw (u:=.int .i32 c) (by simp [execOp,hop,hcc,Instr.extract]) .int
    ·cases h
  ·simp at h
 | call c=>
  rw [hop] at h
  simp only [ac] at h
  unfold agy at h
  split at h
  ·simp at h
  ·split at h<;>simp at h
  ·rename_i hc
   split at h
   ·rename_i x T hx hT
    have ha:c.args=#[x]:=by rw [<-Array.toArray_toList (xs:=c.args),hx]
    have hat:c.argTypes=#[T]:=by rw [<-Array.toArray_toList (xs:=c.argTypes),hT]
    refine OpRes.lift0 hw (awf hw T _ _ v (hρ x) h o.type) ?_
    simp [execOp,hop,resolve,hc,invoke,builtin,ha,hat]
   ·simp at h
  ·split at h
   ·exact absurd h (aoj (ajq _ _ _ _ _ _ _))
   ·simp at h
  ·rename_i hc
   obtain ⟨x,q,u,e1,e2,e3⟩:=aji (Γ:=Γ) (D:=D) (w:=w) (ow:=ow) (μ:=μ) (st:=st) false _ (c.args.map η).toList (by simp) (fun i s u h1 h2=>by
    rw [List.getElem?_map] at h1
    rw [Array.toList_map,List.getElem?_map] at h2
    cases hp:c.args.toList[i]? with
    | none=>rw [hp] at h1;cases h1
    | some p=>rw [hp] at h1 h2;cases h1;cases h2;exact hρ p) v h
   refine OpRes.lift0 hw ⟨u,e2,e3⟩ ?_
   simp only [execOp,hop,resolve,hc,invoke,builtin,Builtin.min_,Sem.run_bind,Sem.run_pure,Result.andThen_ok,e1]
   simp
  ·rename_i hc
   obtain ⟨x,q,u,e1,e2,e3⟩:=aji (Γ:=Γ) (D:=D) (w:=w) (ow:=ow) (μ:=μ) (st:=st) true _ (c.args.map η).toList (by simp) (fun i s u h1 h2=>by
    rw [List.getElem?_map] at h1
    rw [Array.toList_map,List.getElem?_map] at h2
    cases hp:c.args.toList[i]? with
    | none=>rw [hp] at h1;cases h1
    | some p=>rw [hp] at h1 h2;cases h1;cases h2;exact hρ p) v h
   refine OpRes.lift0 hw ⟨u,e2,e3⟩ ?_
   simp only [execOp,hop,resolve,hc,invoke,builtin,Builtin.max_,Sem.run_bind,Sem.run_pure,Result.andThen_ok,e1]
   simp
  ·simp at h
 | makeInterface T x=>
  rw [hop] at h;simp only [ac,afy] at h
  split at h
  ·cases h
  ·cases h
  ·rename_i d hni hT
   simp only [Ac.val.injEq,true_and] at h;subst h
   refine OpRes.lift0 hw (s:=Instr.makeInterface T (η x)) ⟨.iface T (η x),?_,.ifc (hρ x)⟩ (by simp only [execOp,hop])
   unfold Instr.makeInterface
   simp only [Sem.run_bind,run_underlying hT,Result.andThen_ok]
   exact Sem.run_pure ..
 | panic x=>rw [hop] at h;simp only [ac,ak4] at h;split at h<;>simp at h
 | alloc T=>rw [hop] at h;simp only [ac,afn,cond_eq_ite] at h;repeat' split at h
            all_goals cases h
 | box T x=>rw [hop] at h;simp only [ac,aoh,cond_eq_ite] at h;repeat' split at h
            all_goals cases h
 | makeSlice T n c=>rw [hop] at h;simp only [ac,ack,ads,cond_eq_ite] at h;repeat' split at h
                    all_goals cases h
 | store T a x=>rw [hop] at h;simp only [ac] at h;exact absurd h (ale _ _ _ _ _ _)
 | insert T m k x=>rw [hop] at h;simp only [ac] at h;exact absurd h (adu _ _ _ _ _ _ _)
 | mapUpdate T m k x=>rw [hop] at h;simp only [ac] at h;exact absurd h (adu _ _ _ _ _ _ _)
 | mapEntry T m k=>rw [hop] at h;simp only [ac] at h;exact absurd h (ah5 _ _ _ _ _ _)
 | entryStore T m k x=>rw [hop] at h;simp only [ac] at h;exact absurd h (ags _ _ _ _ _ _ _)
 | makeMap T r=>rw [hop] at h;simp only [ac] at h;unfold ac4 at h;split at h<;>simp at h
 | range T x=>rw [hop] at h;simp only [ac] at h;unfold ahi at h;split at h<;>first | (simp at h;done) | (simp only [cond_eq_ite] at h;split at h<;>simp at h)
 | next x b=>
  rw [hop] at h;simp only [ac] at h;unfold ak1 at h;repeat' split at h
  all_goals simp at h
 | entry x=>
  rw [hop] at h;simp only [ac] at h
  have hx:=hρ x
  unfold ait at h
  split at h
  ·rename_i k he
   split at h
   ·rename_i K E e es hk
    simp only [Ac.val.injEq,true_and] at h;subst h
    rw [he] at hx
    generalize hcc:η x=cv at hx
    cases hx with
    | mitr _=>
     obtain ⟨_,_,m,since,c0,seen,q3,_,q5⟩:=hw.obj k _ hk
     obtain ⟨r,ents,ent,kc,vc,rfl,a2,a3,a4,a5,a6,a7,a8,a9⟩:=q5 e rfl
     refine OpRes.still hw (u:=.tuple #[ent.key,ent.val]) ?_ (.tup rfl fun i s v hs hv=>?_)
     ·simp [execOp,hop,hcc,Instr.entry,getObj,Sem.run,q3,a3,a4,a5]
     ·match i,hs,hv with
      | 0,hs,hv=>simp at hs hv;subst hs;subst hv;rw [a8];exact a6.ofPV
      | 1,hs,hv=>simp at hs hv;subst hs;subst hv;rw [a9];exact a7.ofPV
   ·cases h
  ·cases h
 | _=>rw [hop] at h;simp [ac] at h
end
end Go.Ab
namespace Go.Ab
open Go
section
variable {Γ:Ctx}{D:Dom}{ow:Own}{μ:Nat->Nat}{st:List BX}{w:World}{η:Operand->Value}{ρ ρt ρf:Operand->SV}
def abq (x:Ac):Prop:=∀ c v s,x≠.upd c v s
def auz (x:Ac):Prop:=∀ f as,x≠.call f as
theorem aap {c:Bool}{v:SV}:abq (.val c v):=fun _ _ _ h=>by cases h
theorem aaj:abq .fail:=fun _ _ _ h=>by cases h
theorem ax9 (op:BinOp) (k:IntKind) (x y:Int):abq (at4 op k x y):=by cases op<;>first | exact aap | exact aaj
theorem ayt (op:BinOp) (x y:List UInt8):abq (aus op x y):=by cases op<;>first | exact aap | exact aaj
theorem ave (op:BinOp) (x y:Bool):abq (ama op x y):=by cases op<;>first | exact aap | exact aaj
theorem abr {b:Bool}{x:Ac} (h:abq x):abq (bif b then x else .fail):=by cases b;exact aaj;exact h
theorem axz {b:Bool}{x:Ac} (h:abq x):abq (bif b then .fail else x):=by cases b;exact h;exact aaj
theorem aq7 (op:BinOp) (x:SV):abq (ae6 op x):=by
 unfold ae6
 repeat' split
 all_goals (intro c v st' h;simp at h)
theorem ary (P:Program) (op:BinOp) (T:TypeId) (x y:SV):abq (adh P op T x y):=by
 unfold adh
 split
 ·refine abr ?_;split<;>first | exact aap | exact aaj
 ·exact aaj
theorem arw (P:Program) (op:BinOp) (T:TypeId) (x y:SV):auz (adh P op T x y):=by
 unfold adh
 intro f as h
 simp only [cond_eq_ite] at h
 repeat' split at h
 all_goals cases h
theorem axu (P:Program) (op:BinOp) (T:TypeId) (x y:SV):abq (aqe P op T x y):=by
 unfold aqe
 split
 ·split
  ·exact aap
  ·exact aap
  ·exact abr (ax9 _ _ _ _)
 ·exact ayt _ _ _
 ·exact abr (ave _ _ _)
 ·exact abr (by cases op<;>first | exact aap | exact aaj)
 ·exact abr (by cases op<;>first | exact aap | exact aaj)
 ·exact ary _ _ _ _ _
theorem az5 (op:UnOp) (x:SV):abq (unAc op x):=by unfold unAc;split<;>first | exact aap | exact aaj
theorem avk (P:Program) (s d:TypeId) (x:SV):abq (akf P s d x):=by
 unfold akf;refine abr ?_;split<;>first | exact aap | exact aaj | exact abr aap
theorem aqk (P:Program) (st:List BX) (s d:TypeId) (x:SV):abq (adz P st s d x):=by
 unfold adz;split
 ·split
  ·exact abr aap
  ·exact aaj
 ·exact avk _ _ _ _
theorem ato (P:Program) (T:TypeId) (ps:List (Nat×SV)):abq (ag7 P T ps):=by
 unfold ag7;split
 ·exact abr aap
 ·refine abr ?_;split<;>first | exact aap | exact aaj
 ·exact aaj
theorem akc (P:Program) (T:TypeId) (n:Nat) (ps:List (Nat×SV)):abq (ab5 P T n ps):=by
 unfold ab5;split
 ·exact abr aap
 ·exact aaj
theorem awh (P:Program) (T:TypeId) (st:List BX) (a:SV):abq (ad3 P T st a):=by
 intro c v s h
 unfold ad3 at h
 simp only [cond_eq_ite] at h
 repeat' split at h
 all_goals cases h
theorem alp (P:Program) (st:List BX) (S:TypeId) (i:Nat) (a:SV):abq (ab6 P st S i a):=by
 unfold ab6;split
 ·split
  ·refine axz ?_;split<;>first | exact abr aap | exact aaj
  ·exact aaj
 ·exact aaj
theorem atv (P:Program) (S:TypeId) (i:Nat) (a:SV):abq (ahb P S i a):=by
 unfold ahb;split
 ·split
  ·refine abr ?_;split
   ·exact abr aap
   ·refine abr ?_;split<;>first | exact aap | exact aaj
   ·exact aaj
  ·exact aaj
 ·exact aaj
theorem alq (P:Program) (T:TypeId) (st:List BX) (x i:SV):abq (ab7 P T st x i):=by
 intro c v s h
 unfold ab7 at h
 simp only [cond_eq_ite] at h
 repeat' split at h
 all_goals cases h
theorem at2 (P:Program) (T:TypeId) (x i:SV):abq (ahd P T x i):=by
 unfold ahd;split<;>first | exact aap | exact abr aap | exact aaj
theorem aup (P:Program) (T:TypeId) (x:SV) (lo hi mx:Option SV):abq (ahl P T x lo hi mx):=by
 unfold ahl;split
 ·exact aaj
 ·split
  ·exact aap
  ·split
   ·split<;>first | exact aap | exact aaj
   ·split
    ·split<;>first | exact abr aap | exact aaj
    ·exact aaj
   ·exact aaj
theorem aqx (P:Program) (T:TypeId) (st:List BX) (m k:SV) (ok:Bool):abq (aca P T st m k ok):=by
 unfold aca;split
 ·refine abr ?_;split
  ·exact abr aap
  ·split
   ·exact abr aap
   ·exact aaj
  ·exact aaj
 ·exact aaj
theorem ayd (P:Program) (T:TypeId) (st:List BX) (x:SV):abq (ank P T st x):=by
 unfold ank;split<;>first | exact aap | exact aaj | (split<;>first | exact aap | exact aaj)
theorem ak0 (mx:Bool) (ss:List SV):abq (ac2 mx ss):=by
 unfold ac2;split
 ·split<;>first | exact aap | exact aaj
 ·exact aaj
theorem aky (mx:Bool) (ss:List SV):auz (ac2 mx ss):=by
 unfold ac2;intro f as h
 split at h
 ·split at h<;>cases h
 ·cases h
theorem ann (fn:Fn) (first cs:List SV):abq (adl fn first cs):=by unfold adl;split<;>first | exact aap | exact aaj
theorem ax0 {b:Bool}{x:Ac}{v:SV}{s:List BX} (h:(bif b then x else .fail)=.upd true v s):b=true/\x=.upd true v s:=by
 cases b
 ·simp at h
 ·exact ⟨rfl,h⟩
theorem ajb (hw:WRel Γ D ow μ st w) (hρ:∀ x,SRep Γ.P D w ow μ st (ρ x) (η x)) (o:Oper) (v:SV) (st':List BX) (h:ac Γ.P o.op ρ ρt ρf st=.upd true v st'):OpRes Γ D ow μ st w ((execOp η o).run Γ.P w) v st':=by
 cases hop:o.op with
 | alloc T=>
  rw [hop] at h;simp only [ac] at h
  obtain ⟨u,w',r1,r2⟩:=ap9 hw T h
  exact OpRes.lift r1 r2 (by simp only [execOp,hop])
 | box T x=>
  rw [hop] at h;simp only [ac] at h
  obtain ⟨u,w',r1,r2⟩:=aqg hw T _ _ (hρ x) h
  exact OpRes.lift r1 r2 (by simp only [execOp,hop])
 | makeSlice T n c=>
  rw [hop] at h;simp only [ac] at h
  cases hz:av4 n with
  | true=>
   rw [hz] at h;simp only [cond_true] at h
   obtain ⟨u,w',r1,r2⟩:=akx hw T _ _ _ _ v st' (hρ n) (hρ c) h
   exact OpRes.lift r1 r2 (by simp only [execOp,hop])
  | false=>
   rw [hz] at h;simp only [cond_false] at h
   obtain ⟨u,w',r1,r2⟩:=anp hw T _ _ _ _ v st' (hρ n) (hρ c) h
   exact OpRes.lift r1 r2 (by simp only [execOp,hop])
 | store T a x=>
  rw [hop] at h;simp only [ac] at h
  obtain ⟨w',r1,r2⟩:=an5 hw T _ _ _ _ v st' (hρ a) (hρ x) h
  exact OpRes.liftU r1 r2 (by simp only [execOp,hop])
 | insert T m k x=>
  rw [hop] at h;simp only [ac] at h
  obtain ⟨w',r1,r2⟩:=afz hw T _ _ _ _ _ _ v st' (hρ m) (hρ k) (hρ x) h
  exact OpRes.liftU r1 r2 (by simp only [execOp,hop])
 | mapUpdate T m k x=>
  rw [hop] at h;simp only [ac] at h
  obtain ⟨w',r1,r2⟩:=afz hw T _ _ _ _ _ _ v st' (hρ m) (hρ k) (hρ x) h
  exact OpRes.liftU r1 r2 (by simp only [execOp,hop])
 | mapEntry T m k=>
  rw [hop] at h;simp only [ac] at h
  obtain ⟨u,w',r1,r2⟩:=alt hw T _ _ _ _ v st' (hρ m) (hρ k) h
  exact OpRes.lift r1 r2 (by simp only [execOp,hop])
 | entryStore T m k x=>
  rw [hop] at h;simp only [ac] at h
  obtain ⟨w',r1,r2⟩:=ajt hw T _ _ _ _ _ _ v st' (hρ m) (hρ k) (hρ x) h
  exact OpRes.liftU r1 r2 (by simp only [execOp,hop])
 | makeMap T r=>
  rw [hop] at h;simp only [ac] at h
  unfold ac4 at h
  split at h
  ·rename_i K E hT
   simp only [Ac.upd.injEq,true_and] at h
   obtain ⟨rfl,rfl⟩:=h
   obtain ⟨u,w',r1,r2⟩:=ano hw T K E
   exact OpRes.lift r1 r2 (by simp only [execOp,hop];rfl)
  ·simp at h
 | call c=>
  rw [hop] at h;simp only [ac] at h
  unfold agy at h
  split at h
  ·simp at h
  ·split at h<;>simp at h
  ·split at h
   ·exact absurd h (ayd _ _ _ _ _ _ _)
   ·simp at h
  ·rename_i hc
   split at h
   ·rename_i x y T T' hx hT
    obtain ⟨h1,h2⟩:=ax0 h
    have:=Nat.eq_of_beq_eq_true h1;subst this
    have ha:c.args=#[x,y]:=by rw [<-Array.toArray_toList (xs:=c.args),hx]
    have hat:c.argTypes=#[T,T]:=by rw [<-Array.toArray_toList (xs:=c.argTypes),hT]
    obtain ⟨u,w',r1,r2⟩:=aoe hw T o.type _ _ _ _ v st' (hρ x) (hρ y) h2
    refine OpRes.lift r1 r2 ?_
    simp [execOp,hop,resolve,hc,invoke,builtin,ha,hat]
   ·simp at h
  ·exact absurd h (ak0 _ _ _ _ _)
  ·exact absurd h (ak0 _ _ _ _ _)
  ·simp at h
 | move x=>rw [hop] at h;simp [ac] at h
 | assign x=>rw [hop] at h;simp [ac] at h
 | pick c x y=>rw [hop] at h;simp only [ac] at h;split at h<;>simp at h
 | build T ps=>rw [hop] at h;exact absurd h (ato _ _ _ _ _ _)
 | buildSlice T n ps=>rw [hop] at h;exact absurd h (akc _ _ _ _ _ _ _)
 | load T a=>rw [hop] at h;exact absurd h (awh _ _ _ _ _ _ _)
 | nilCheck x=>rw [hop] at h;simp only [ac,cond_eq_ite] at h;repeat' split at h
               all_goals cases h
 | binOp b T x y T2=>
  rw [hop] at h;simp only [ac,akb,cond_eq_ite] at h
  split at h
  ·split at h
   ·exact absurd h (aq7 _ _ _ _ _)
   ·simp at h
  ·exact absurd h (axu _ _ _ _ _ _ _ _)
 | unOp u T x=>rw [hop] at h;exact absurd h (az5 _ _ _ _ _)
 | convert s d x=>rw [hop] at h;exact absurd h (aqk _ _ _ _ _ _ _ _)
 | makeFunc fn first cs=>rw [hop] at h;exact absurd h (ann _ _ _ _ _ _)
 | slice T x lo hi mx=>rw [hop] at h;exact absurd h (aup _ _ _ _ _ _ _ _ _)
 | fieldAddr S x i=>rw [hop] at h;exact absurd h (alp _ _ _ _ _ _ _ _)
 | field S x i=>rw [hop] at h;exact absurd h (atv _ _ _ _ _ _ _)
 | indexAddr T x i=>rw [hop] at h;exact absurd h (alq _ _ _ _ _ _ _ _)
 | index T x i=>rw [hop] at h;exact absurd h (at2 _ _ _ _ _ _ _)
 | lookup T m k ok=>rw [hop] at h;exact absurd h (aqx _ _ _ _ _ _ _ _ _)
 | extract t i=>rw [hop] at h;simp only [ac] at h;unfold afp at h;split at h<;>first | (simp at h;done) | (split at h<;>simp at h)
 | range T x=>
  rw [hop] at h;simp only [ac] at h
  obtain ⟨u,w',r1,r2⟩:=ara hw T _ _ v st' (hρ x) h
  exact OpRes.lift r1 r2 (by simp only [execOp,hop])
 | next x b=>
  rw [hop] at h;simp only [ac] at h
  obtain ⟨u,w',r1,r2⟩:=aue hw _ _ b o.type v st' (hρ x) h
  exact OpRes.lift r1 r2 (by simp only [execOp,hop])
 | entry x=>
  rw [hop] at h;simp only [ac] at h;unfold ait at h;repeat' split at h
  all_goals simp at h
 | makeInterface T x=>rw [hop] at h;simp only [ac,afy] at h;split at h<;>simp at h
 | panic x=>rw [hop] at h;simp only [ac,ak4] at h;split at h<;>simp at h
 | _=>rw [hop] at h;simp [ac] at h
theorem abj (hρ:∀ x,SRep Γ.P D w ow μ st (ρ x) (η x)) (hη:∀ f,η (.func f)=.func (.func f) #[] #[]) (o:Oper) (f:FuncId) (args:List SV) (h:ac Γ.P o.op ρ ρt ρf st=.call f args):
 ∃ vals:Array Value,(execOp η o).run Γ.P w=(callFunc f vals).run Γ.P w/\vals.size=args.length/\∀ (i:Nat) (s:SV) (v:Value),args[i]?=some s->vals[i]?=some v->SRep Γ.P D w ow μ st s v:=by
 have argsOk:∀ xs:Array Operand,∀ (i:Nat) (s:SV) (v:Value),(xs.toList.map ρ)[i]?=some s->(xs.map η)[i]?=some v->SRep Γ.P D w ow μ st s v:=by
  intro xs i s v hs hv
  rw [List.getElem?_map] at hs
  rw [Array.getElem?_map] at hv
  cases hp:xs[i]? with
  | none=>rw [hp] at hv;simp at hv
  | some p=>
   have:xs.toList[i]?=some p:=by simpa using hp
   rw [this] at hs;rw [hp] at hv
   simp at hs hv
   subst hs;subst hv
   exact hρ p
 cases hop:o.op with
 | call c=>
  rw [hop] at h;simp only [ac] at h
  unfold agy at h
  split at h
  ·rename_i g hc
   simp only [Ac.call.injEq] at h
   obtain ⟨rfl,rfl⟩:=h
   refine ⟨c.args.map η,?_,by simp,argsOk c.args⟩
   simp [execOp,hop,resolve,hc,hη,Deferred.ofValue,invoke]
  ·rename_i x hne hc
   have hx:=hρ x
   split at h
   ·rename_i g n caps he
    simp only [Ac.call.injEq] at h
    obtain ⟨rfl,rfl⟩:=h
    rw [he] at hx
    generalize hcc:η x=cv at hx
    cases hx with
    | @fn _ _ _ us vs hn hsz hall=>
     have hle:n<=caps.length:=by rw [<-hsz,<-hn];simp
     have htn:(caps.take n).length=us.size:=by rw [List.length_take,hn];omega
     refine ⟨us++c.args.map η++vs,?_,by simp at hsz ⊢;omega,fun i s v hs hv=>?_⟩
     ·simp [execOp,hop,resolve,hc,hcc,Deferred.ofValue,invoke]
     ·rw [Array.append_assoc] at hv
      by_cases hi:i<us.size
      ·rw [List.getElem?_append_left (by omega),List.getElem?_take_of_lt (by omega)] at hs
       rw [Array.getElem?_append_left hi] at hv
       exact hall i s v hs (by rw [Array.getElem?_append_left hi];exact hv)
      ·rw [List.getElem?_append_right (by omega),htn] at hs
       rw [Array.getElem?_append_right (by omega)] at hv
       by_cases hi2:i-us.size<c.args.size
       ·rw [List.getElem?_append_left (by simpa using hi2)] at hs
        rw [Array.getElem?_append_left (by simpa using hi2)] at hv
        exact argsOk c.args _ s v hs hv
       ·rw [List.getElem?_append_right (by simp;omega),List.getElem?_drop] at hs
        rw [Array.getElem?_append_right (by simp;omega)] at hv
        simp only [List.length_map,Array.length_toList,Array.size_map] at hs hv
        refine hall _ s v hs ?_
        rw [Array.getElem?_append_right (by omega)]
        rw [show n+(i-us.size-c.args.size)-us.size=i-us.size-c.args.size by omega]
        exact hv
   ·simp at h
  ·split at h
   ·unfold ank at h;split at h<;>first | (simp at h;done) | (split at h<;>simp at h)
   ·simp at h
  ·split at h
   ·simp only [cond_eq_ite] at h
    split at h
    ·unfold acf at h
     simp only [cond_eq_ite] at h
     repeat' split at h
     all_goals simp at h
    ·simp at h
   ·simp at h
  ·exact absurd h (aky _ _ _ _)
  ·exact absurd h (aky _ _ _ _)
  ·simp at h
 | move x=>rw [hop] at h;simp [ac] at h
 | assign x=>rw [hop] at h;simp [ac] at h
 | pick c x y=>rw [hop] at h;simp only [ac] at h;split at h<;>simp at h
 | alloc T=>rw [hop] at h;simp only [ac,afn,cond_eq_ite] at h;repeat' split at h
            all_goals cases h
 | box T x=>rw [hop] at h;simp only [ac,aoh,cond_eq_ite] at h;repeat' split at h
            all_goals cases h
 | makeSlice T n c=>rw [hop] at h;simp only [ac,ack,ads,cond_eq_ite] at h;repeat' split at h
                    all_goals cases h
 | store T a x=>rw [hop] at h;simp only [ac,ada,act,cond_eq_ite] at h;repeat' split at h
                all_goals simp at h
 | insert T m k x=>rw [hop] at h;simp only [ac,abh,cond_eq_ite] at h;repeat' split at h
                   all_goals simp at h
 | mapUpdate T m k x=>rw [hop] at h;simp only [ac,abh,cond_eq_ite] at h;repeat' split at h
                      all_goals simp at h
 | mapEntry T m k=>rw [hop] at h;simp only [ac,abu,cond_eq_ite] at h;repeat' split at h
                   all_goals simp at h
 | entryStore T m k x=>rw [hop] at h;simp only [ac,abk,cond_eq_ite] at h;repeat' split at h
                       all_goals simp at h
 | makeMap T r=>rw [hop] at h;simp only [ac,ac4] at h;split at h<;>simp at h
 | build T ps=>rw [hop] at h;simp only [ac,ag7,cond_eq_ite] at h;repeat' split at h
               all_goals simp at h
 | buildSlice T n ps=>rw [hop] at h;simp only [ac,ab5,cond_eq_ite] at h;repeat' split at h
                      all_goals simp at h
 | load T a=>rw [hop] at h;simp only [ac,ad3,cond_eq_ite] at h;repeat' split at h
             all_goals simp at h
 | nilCheck x=>rw [hop] at h;simp only [ac,cond_eq_ite] at h;repeat' split at h
               all_goals cases h
 | binOp b T x y T2=>
  rw [hop] at h;simp only [ac,akb,ae6,aqe,cond_eq_ite] at h;repeat' split at h
  all_goals first
   | (exact absurd h (arw _ _ _ _ _ _ _))
   | (simp at h;done)
   | (cases b<;>simp [at4] at h;done)
   | (cases b<;>simp [aus] at h;done)
   | (cases b<;>simp [ama] at h;done)
   | (cases b<;>simp [adm] at h;done)
 | unOp u T x=>rw [hop] at h;simp only [ac,unAc] at h;repeat' split at h
               all_goals simp at h
 | convert s d x=>rw [hop] at h;simp only [ac,adz,akf,cond_eq_ite] at h;repeat' split at h
                  all_goals simp at h
 | makeFunc fn first cs=>rw [hop] at h;simp only [ac,adl] at h;split at h<;>simp at h
 | slice T x lo hi mx=>rw [hop] at h;simp only [ac,ahl,cond_eq_ite] at h;repeat' split at h
                       all_goals simp at h
 | fieldAddr S x i=>rw [hop] at h;simp only [ac,ab6,cond_eq_ite] at h;repeat' split at h
                    all_goals simp at h
 | field S x i=>rw [hop] at h;simp only [ac,ahb,cond_eq_ite] at h;repeat' split at h
                all_goals simp at h
 | indexAddr T x i=>rw [hop] at h;simp only [ac,ab7,cond_eq_ite] at h;repeat' split at h
                    all_goals simp at h
 | index T x i=>rw [hop] at h;simp only [ac,ahd,cond_eq_ite] at h;repeat' split at h
                all_goals simp at h
 | lookup T m k ok=>rw [hop] at h;simp only [ac,aca,cond_eq_ite] at h;repeat' split at h
                    all_goals simp at h
 | extract t i=>rw [hop] at h;simp only [ac] at h;unfold afp at h;split at h<;>first | (simp at h;done) | (split at h<;>simp at h)
 | range T x=>rw [hop] at h;simp only [ac] at h;unfold ahi at h;split at h<;>first | (simp at h;done) | (simp only [cond_eq_ite] at h;split at h<;>simp at h)
 | next x b=>
  rw [hop] at h;simp only [ac] at h;unfold ak1 at h;repeat' split at h
  all_goals simp at h
 | entry x=>
  rw [hop] at h;simp only [ac] at h;unfold ait at h;repeat' split at h
  all_goals simp at h
 | makeInterface T x=>rw [hop] at h;simp only [ac,afy] at h;split at h<;>simp at h
 | panic x=>rw [hop] at h;simp only [ac,ak4] at h;split at h<;>simp at h
 | _=>rw [hop] at h;simp [ac] at h
theorem arx (P:Program) (op:BinOp) (T:TypeId) (x y:SV) (v:SV):adh P op T x y≠.pan v:=by
 unfold adh
 simp only [cond_eq_ite]
 repeat' split
 all_goals simp
theorem akz (mx:Bool) (ss:List SV) (v:SV):ac2 mx ss≠.pan v:=by
 unfold ac2
 split
 ·split<;>simp
 ·simp
theorem aod (hρ:∀ x,SRep Γ.P D w ow μ st (ρ x) (η x)) (o:Oper) (s:SV) (h:ac Γ.P o.op ρ ρt ρf st=.pan s):∃ u,(execOp η o).run Γ.P w=.halt (.panic u) w/\SRep Γ.P D w ow μ st s u:=by
 cases hop:o.op with
 | panic x=>
  rw [hop] at h;simp only [ac,ak4] at h
  split at h
  ·rename_i T y hx
   simp only [Ac.pan.injEq] at h;subst h
   have hv:=hρ x
   rw [hx] at hv
   generalize hcc:η x=cv at hv
   refine ⟨cv,?_,hv⟩
   cases hv with
   | ifc hv=>simp [execOp,hop,hcc,Instr.panic,goPanic]
  ·cases h
 | call c=>
  rw [hop] at h;simp only [ac] at h
  unfold agy at h
  split at h
  ·cases h
  ·split at h<;>cases h
  ·split at h
   ·unfold ank at h;split at h<;>first | (simp at h;done) | (split at h<;>simp at h)
   ·cases h
  ·split at h
   ·simp only [cond_eq_ite] at h
    split at h
    ·unfold acf at h
     simp only [cond_eq_ite] at h
     repeat' split at h
     all_goals cases h
    ·cases h
   ·cases h
  ·exact absurd h (akz _ _ _)
  ·exact absurd h (akz _ _ _)
  ·cases h
 | move x=>rw [hop] at h;simp [ac] at h
 | assign x=>rw [hop] at h;simp [ac] at h
 | pick c x y=>rw [hop] at h;simp only [ac] at h;split at h<;>simp at h
 | alloc T=>rw [hop] at h;simp only [ac,afn,cond_eq_ite] at h;repeat' split at h
            all_goals cases h
 | box T x=>rw [hop] at h;simp only [ac,aoh,cond_eq_ite] at h;repeat' split at h
            all_goals cases h
 | makeSlice T n c=>rw [hop] at h;simp only [ac,ack,ads,cond_eq_ite] at h;repeat' split at h
                    all_goals cases h
 | store T a x=>rw [hop] at h;simp only [ac,ada,act,cond_eq_ite] at h;repeat' split at h
                all_goals simp at h
 | insert T m k x=>rw [hop] at h;simp only [ac,abh,cond_eq_ite] at h;repeat' split at h
                   all_goals simp at h
 | mapUpdate T m k x=>rw [hop] at h;simp only [ac,abh,cond_eq_ite] at h;repeat' split at h
                      all_goals simp at h
 | mapEntry T m k=>rw [hop] at h;simp only [ac,abu,cond_eq_ite] at h;repeat' split at h
                   all_goals simp at h
 | entryStore T m k x=>rw [hop] at h;simp only [ac,abk,cond_eq_ite] at h;repeat' split at h
                       all_goals simp at h
 | makeMap T r=>rw [hop] at h;simp only [ac,ac4] at h;split at h<;>simp at h
 | build T ps=>rw [hop] at h;simp only [ac,ag7,cond_eq_ite] at h;repeat' split at h
               all_goals simp at h
 | buildSlice T n ps=>rw [hop] at h;simp only [ac,ab5,cond_eq_ite] at h;repeat' split at h
                      all_goals simp at h
 | load T a=>rw [hop] at h;simp only [ac,ad3,cond_eq_ite] at h;repeat' split at h
             all_goals simp at h
 | nilCheck x=>rw [hop] at h;simp only [ac,cond_eq_ite] at h;repeat' split at h
               all_goals cases h
 | binOp b T x y T2=>
  rw [hop] at h;simp only [ac,akb,ae6,aqe,cond_eq_ite] at h;repeat' split at h
  all_goals first
   | (exact absurd h (arx _ _ _ _ _ _))
   | (simp at h;done)
   | (cases b<;>simp [at4] at h;done)
   | (cases b<;>simp [aus] at h;done)
   | (cases b<;>simp [ama] at h;done)
   | (cases b<;>simp [adm] at h;done)
 | unOp u T x=>rw [hop] at h;simp only [ac,unAc] at h;repeat' split at h
               all_goals simp at h
 | convert s d x=>rw [hop] at h;simp only [ac,adz,akf,cond_eq_ite] at h;repeat' split at h
                  all_goals simp at h
 | makeFunc fn first cs=>rw [hop] at h;simp only [ac,adl] at h;split at h<;>simp at h
 | slice T x lo hi mx=>rw [hop] at h;simp only [ac,ahl,cond_eq_ite] at h;repeat' split at h
                       all_goals simp at h
 | fieldAddr S x i=>rw [hop] at h;simp only [ac,ab6,cond_eq_ite] at h;repeat' split at h
                    all_goals simp at h
 | field S x i=>rw [hop] at h;simp only [ac,ahb,cond_eq_ite] at h;repeat' split at h
                all_goals simp at h
 | indexAddr T x i=>rw [hop] at h;simp only [ac,ab7,cond_eq_ite] at h;repeat' split at h
                    all_goals simp at h
 | index T x i=>rw [hop] at h;simp only [ac,ahd,cond_eq_ite] at h;repeat' split at h
                all_goals simp at h
 | lookup T m k ok=>rw [hop] at h;simp only [ac,aca,cond_eq_ite] at h;repeat' split at h
                    all_goals simp at h
 | extract t i=>rw [hop] at h;simp only [ac] at h;unfold afp at h;split at h<;>first | (simp at h;done) | (split at h<;>simp at h)
 | range T x=>rw [hop] at h;simp only [ac] at h;unfold ahi at h;split at h<;>first | (simp at h;done) | (simp only [cond_eq_ite] at h;split at h<;>simp at h)
 | next x b=>
  rw [hop] at h;simp only [ac] at h;unfold ak1 at h;repeat' split at h
  all_goals simp at h
 | entry x=>
  rw [hop] at h;simp only [ac] at h;unfold ait at h;repeat' split at h
  all_goals simp at h
 | makeInterface T x=>rw [hop] at h;simp only [ac,afy] at h;split at h<;>simp at h
 | _=>rw [hop] at h;simp [ac] at h
end
end Go.Ab
