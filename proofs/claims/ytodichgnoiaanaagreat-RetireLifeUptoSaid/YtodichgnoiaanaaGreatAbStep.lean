/- One operation: what the evaluator says of it, the model does. -/
import Derived.Test.YtodichgnoiaanaaGreatAbBuild
import Derived.Test.YtodichgnoiaanaaGreatAbIter
set_option linter.unusedVariables false
set_option linter.unusedSimpArgs false
set_option linter.unnecessarySimpa false
namespace Go.Ab
open Go
section
variable {Γ:Ctx}{D:Dom}{ow:Own}{μ:Nat->Nat}{st:List BX}{w:World}{η:Operand->Value}{ρ ρt ρf:Operand->SV}
theorem OpRes.lift {r:Result Next}{v:SV}{st':List BX}{s:Sem Value}{u:Value}{w':World} (hs:s.run Γ.P w=.ok u w') (h:OpRes Γ D ow μ st w (.ok (.value u) w') v st') (hr:r=(do pure (.value (<-s)):Sem Next).run Γ.P w):OpRes Γ D ow μ st w r v st':=by
 rw [hr]
 simp only [Sem.run_bind,hs,Result.andThen_ok,Sem.run_pure]
 exact h
theorem OpRes.lift0 (hw:WRel Γ D ow μ st w) {r:Result Next}{v:SV}{s:Sem Value} (h:∃ u,s.run Γ.P w=.ok u w/\SRep Γ.P D w ow μ st v u) (hr:r=(do pure (.value (<-s)):Sem Next).run Γ.P w):OpRes Γ D ow μ st w r v st:=by
 obtain ⟨u,h1,h2⟩:=h
 exact OpRes.lift h1 (OpRes.still hw rfl h2) hr
theorem OpRes.liftU {r:Result Next}{v:SV}{st':List BX}{s:Sem Unit}{w':World} (hs:s.run Γ.P w=.ok () w') (h:OpRes Γ D ow μ st w (.ok .skip w') v st') (hr:r=(do s;pure .skip:Sem Next).run Γ.P w):OpRes Γ D ow μ st w r v st':=by
 rw [hr]
 simp only [Sem.run_bind,hs,Result.andThen_ok,Sem.run_pure]
 exact h
theorem aqu {b:Bool}{x:Ac}{v:SV} (h:x≠.val true v):(bif b then x else .fail)≠.val true v:=by cases b<;>simp [h]
theorem akx (P:Program) (st:List BX) (T:TypeId) (x y:SV) (c:Bool) (v:SV):acw P st T x y≠.val c v:=by
 unfold acw
 intro h
 simp only [cond_eq_ite] at h
 repeat' split at h
 all_goals simp at h
theorem aei (P:Program) (T:TypeId) (st:List BX) (a x:SV) (v:SV):adc P T st a x≠.val true v:=by
 unfold adc
 intro h
 simp only [cond_eq_ite] at h
 repeat' split at h
 all_goals simp at h
theorem am3 (P:Program) (T:TypeId) (st:List BX) (a x:SV) (v:SV):ads P T st a x≠.val true v:=by
 intro h
 unfold ads at h
 split at h
 ·split at h
  ·split at h
   ·simp only [cond_eq_ite] at h
    split at h
    ·cases h
    ·exact aei _ _ _ _ _ _ h
   ·cases h
  ·exact aei _ _ _ _ _ _ h
 ·exact aei _ _ _ _ _ _ h
theorem aee (P:Program) (T:TypeId) (st:List BX) (m k x:SV) (v:SV):abp P T st m k x≠.val true v:=by
 unfold abp
 intro h
 simp only [cond_eq_ite] at h
 repeat' split at h
 all_goals simp at h
theorem ai6 (P:Program) (T:TypeId) (st:List BX) (m k:SV) (v:SV):ab4 P T st m k≠.val true v:=by
 unfold ab4
 intro h
 simp only [cond_eq_ite] at h
 repeat' split at h
 all_goals simp at h
theorem ahn (P:Program) (T:TypeId) (st:List BX) (m k x:SV) (v:SV):abu P T st m k x≠.val true v:=by
 unfold abu
 intro h
 simp only [cond_eq_ite] at h
 repeat' split at h
 all_goals simp at h
theorem arw (hρ:∀ x,SRep Γ.P D w ow μ st (ρ x) (η x)) (ps:Array (Nat×Operand)):(ps.toList.map fun (i,x)=>(i,ρ x)).length=(ps.map fun (i,x)=>(i,η x)).size/\
 ∀ (n i:Nat) (s:SV) (j:Nat) (u:Value),(ps.toList.map fun (i,x)=>(i,ρ x))[n]?=some (i,s)->(ps.map fun (i,x)=>(i,η x))[n]?=some (j,u)->i=j/\SRep Γ.P D w ow μ st s u:=by
 refine ⟨by simp,fun n i s j u h1 h2=>?_⟩
 rw [List.getElem?_map] at h1
 rw [Array.getElem?_map] at h2
 cases hp:ps[n]? with
 | none=>rw [hp] at h2;simp at h2
 | some p=>
  obtain ⟨k,x⟩:=p
  have:ps.toList[n]?=some (k,x):=by simpa using hp
  rw [this] at h1;rw [hp] at h2
  simp at h1 h2
  obtain ⟨rfl,rfl⟩:=h1
  obtain ⟨rfl,rfl⟩:=h2
  exact ⟨rfl,hρ x⟩
theorem atw (mx:Bool):∀ (ss:List SV) (us:List Value) (k:IntKind) (a n:Int),ss.length=us.length->(∀ (i:Nat) (s:SV) (u:Value),ss[i]?=some s->us[i]?=some u->SRep Γ.P D w ow μ st s u)->ag9 mx a ss=some n->
 (us.foldlM (if mx then Builtin.max2 else Builtin.min2) (.int k a):Sem Value).run Γ.P w=.ok (.int k n) w:=by
 intro ss
 induction ss with
 | nil=>
  intro us k a n hl _ h
  have:us=[]:=List.eq_nil_of_length_eq_zero (by simpa using hl.symm)
  subst this
  simp [ag9] at h;subst h
  simp
 | cons x r ih=>
  intro us k a n hl hall h
  cases us with
  | nil=>simp at hl
  | cons u q=>
   have hx:=hall 0 x u rfl rfl
   cases x with
   | int kb b=>
    generalize hu:u=uu at hx
    cases hx
    simp only [ag9] at h
    have:=ih q k _ n (by simpa using hl) (fun i s v h1 h2=>hall (i+1) s v (by simpa using h1) (by simpa using h2)) h
    cases mx
    ·simp only [cond_false,Bool.false_eq_true,if_false] at this ⊢
     simp only [List.foldlM_cons,Builtin.min2,pure_bind]
     exact this
    ·simp only [cond_true,if_true] at this ⊢
     simp only [List.foldlM_cons,Builtin.max2,pure_bind]
     exact this
   | _=>simp [ag9] at h
theorem akq (mx:Bool) (ss:List SV) (us:List Value) (hl:ss.length=us.length) (hall:∀ (i:Nat) (s:SV) (u:Value),ss[i]?=some s->us[i]?=some u->SRep Γ.P D w ow μ st s u) (v:SV) (h:adj mx ss=.val true v):
 ∃ (x:Value) (q:List Value) (u:Value),us=x::q/\(q.foldlM (if mx then Builtin.max2 else Builtin.min2) x:Sem Value).run Γ.P w=.ok u w/\SRep Γ.P D w ow μ st v u:=by
 unfold adj at h
 split at h
 ·rename_i k a r
  cases us with
  | nil=>simp at hl
  | cons x q=>
   have hx:=hall 0 _ x rfl rfl
   generalize hu:x=xx at hx
   cases hx
   split at h
   ·rename_i n hf
    simp only [Ac.val.injEq,true_and] at h;subst h
    exact ⟨_,q,_,rfl,atw mx r q k a n (by simpa using hl) (fun i s v h1 h2=>hall (i+1) s v (by simpa using h1) (by simpa using h2)) hf,.int⟩
   ·cases h
 ·cases h
theorem aej (hw:WRel Γ D ow μ st w) (hρ:∀ x,SRep Γ.P D w ow μ st (ρ x) (η x)) (o:Oper)
 (hpick:∀ c x y,o.op=.pick c x y->(η c=.bool true->SRep Γ.P D w ow μ st (ρt x) (η x))/\(η c=.bool false->SRep Γ.P D w ow μ st (ρf y) (η y)))
 (v:SV) (h:ac Γ.P o.op ρ ρt ρf st=.val true v):OpRes Γ D ow μ st w ((execOp η o).run Γ.P w) v st:=by
 cases hop:o.op with
 | move x=>
  rw [hop] at h;simp only [ac,Ac.val.injEq,true_and] at h;subst h
  exact OpRes.still hw (by simp only [execOp,hop,Sem.run_pure]) (hρ x)
 | assign x=>
  rw [hop] at h;simp only [ac,Ac.val.injEq,true_and] at h;subst h
  exact OpRes.still hw (by simp only [execOp,hop,Sem.run_pure]) (hρ x)
 | pick c x y=>
  rw [hop] at h;simp only [ac] at h
  obtain ⟨h1,h2⟩:=hpick c x y hop
  split at h
  ·rename_i b p q hc hx hy
   simp only [Ac.val.injEq,true_and] at h;subst h
   have hcv:=hρ c
   rw [hc] at hcv
   generalize hcc:η c=cv at hcv
   cases hcv
   have run:(execOp η o).run Γ.P w=.ok (.value (if b then η x else η y)) w:=by
    simp only [execOp,hop,hcc,asBool,Sem.run_bind,Sem.run_pure,Result.andThen_ok]
   rw [run]
   cases b with
   | true=>
    have:=h1 hcc;rw [hx] at this
    exact OpRes.still hw rfl this
   | false=>
    have:=h2 hcc;rw [hy] at this
    exact OpRes.still hw rfl this
  ·simp at h
 | build T ps=>
  rw [hop] at h;simp only [ac] at h
  obtain ⟨q1,q2⟩:=arw (Γ:=Γ) hρ ps
  exact OpRes.lift0 hw (as5 T _ _ v q1 q2 h) (by simp only [execOp,hop])
 | buildSlice T n ps=>
  rw [hop] at h;simp only [ac] at h
  obtain ⟨q1,q2⟩:=arw (Γ:=Γ) hρ ps
  obtain ⟨u,w',r1,r2⟩:=aky hw T n _ _ v q1 q2 h
  exact OpRes.lift r1 r2 (by simp only [execOp,hop])
 | load T a=>
  rw [hop] at h;simp only [ac] at h
  exact OpRes.lift0 hw (axc hw T _ _ v (hρ a) h) (by simp only [execOp,hop])
 | nilCheck x=>
  rw [hop] at h;simp only [ac] at h
  have hx:=hρ x
  split at h
  ·rename_i k p T he
   simp only [Ac.val.injEq,true_and] at h;subst h
   rw [he] at hx
   generalize hcc:η x=cv at hx
   have h':=hx
   cases hx
   exact OpRes.still hw (by simp only [execOp,hop,hcc,Sem.run_pure]) h'
  ·rename_i T pv he
   simp only [Ac.val.injEq,true_and] at h;subst h
   rw [he] at hx
   generalize hcc:η x=cv at hx
   have h':=hx
   cases hx
   exact OpRes.still hw (by simp only [execOp,hop,hcc,Sem.run_pure]) h'
  ·rename_i f cs he
   simp only [Ac.val.injEq,true_and] at h;subst h
   rw [he] at hx
   generalize hcc:η x=cv at hx
   have h':=hx
   cases hx
   exact OpRes.still hw (by simp only [execOp,hop,hcc,Sem.run_pure]) h'
  ·rename_i k T he
   simp only [Ac.val.injEq,true_and] at h;subst h
   rw [he] at hx
   generalize hcc:η x=cv at hx
   have h':=hx
   cases hx
   exact OpRes.still hw (by simp only [execOp,hop,hcc,Sem.run_pure]) h'
  ·rename_i k g i E p T he
   cases hg:adv st k g with
   | false=>rw [hg] at h;cases h
   | true=>
    rw [hg] at h
    simp only [cond_true,Ac.val.injEq,true_and] at h;subst h
    rw [he] at hx
    generalize hcc:η x=cv at hx
    have h':=hx
    cases hx with
    | arefOld hk hlt _=>unfold adv at hg;rw [hk] at hg;have:=Nat.eq_of_beq_eq_true hg;omega
    | aref=>exact OpRes.still hw (by simp only [execOp,hop,hcc,Sem.run_pure]) h'
  ·simp at h
 | binOp b T x y T2=>
  rw [hop] at h;simp only [ac] at h
  unfold alm at h
  cases hN:(azn y&&ak7 Γ.P T) with
  | false=>
   rw [hN] at h
   exact OpRes.lift0 hw (ayn T b _ _ _ _ v (hρ x) (hρ y) h x y) (by simp only [execOp,hop])
  | true=>
   rw [hN] at h
   simp only [cond_true] at h
   simp only [Bool.and_eq_true] at hN
   split at h
   ·rename_i hb
    have hy:=hρ y
    rw [hb] at hy
    have hcc:η y=.nilIface:=by
     generalize η y=cv at hy
     cases hy with
     | eif h1 _=>exact h1 rfl
    have hyc:y=.const .nilIface:=by
     have:=hN.1
     unfold azn at this
     split at this
     ·rfl
     ·cases this
    subst hyc
    have:=ati (Γ:=Γ) (D:=D) (w:=w) T b _ _ v (hρ x) hN.2 h x
    rw [<-hcc] at this
    have e:(do eqGuard b T x (.const (η (.const .nilIface))) (η x) (η (.const .nilIface));binOp b T (η x) (η (.const .nilIface)):Sem Value)=(do eqGuard b T x (.const .nilIface) (η x) (η (.const .nilIface));binOp b T (η x) (η (.const .nilIface))):=by rw [hcc]
    rw [e] at this
    exact OpRes.lift0 hw this (by simp only [execOp,hop])
   ·simp at h
 | unOp u T x=>
  rw [hop] at h;simp only [ac] at h
  exact OpRes.lift0 hw (a3w u _ _ v (hρ x) h) (by simp only [execOp,hop])
 | convert s d x=>
  rw [hop] at h;simp only [ac] at h
  exact OpRes.lift0 hw (aqv hw s d _ _ v (hρ x) h) (by simp only [execOp,hop])
 | makeFunc fn first cs=>
  rw [hop] at h;simp only [ac] at h
  unfold ad4 at h
  split at h
  ·rename_i f
   simp only [Ac.val.injEq,true_and] at h;subst h
   refine OpRes.still hw (u:=.func (.func f) (first.map η) (cs.map η)) (by simp [execOp,hop,Instr.makeFunc]) (.fn (by simp) (by simp) (fun i s v hi hv=>?_))
   rw [<-List.map_append,List.getElem?_map] at hi
   rw [<-Array.map_append,Array.getElem?_map] at hv
   cases hp:(first++cs)[i]? with
   | none=>rw [hp] at hv;simp at hv
   | some p=>
    have:(first.toList++cs.toList)[i]?=some p:=by rw [<-Array.toList_append,Array.getElem?_toList];exact hp
    rw [this] at hi;rw [hp] at hv
    simp at hi hv
    subst hi;subst hv
    exact hρ p
  ·simp at h
 | slice T x lo hi mx=>
  rw [hop] at h;simp only [ac] at h
  refine OpRes.lift0 hw (aum T _ _ _ _ _ (lo.map η) (hi.map η) (mx.map η) v (hρ x) ?_ (by simp) ?_ (by simp) (by simp) h) (by simp only [execOp,hop])
  ·intro s u h1 h2
   cases lo with
   | none=>simp at h1
   | some l=>simp at h1 h2;subst h1;subst h2;exact hρ l
  ·intro s u h1 h2
   cases hi with
   | none=>simp at h1
   | some l=>simp at h1 h2;subst h1;subst h2;exact hρ l
 | fieldAddr S x i=>
  rw [hop] at h;simp only [ac] at h
  exact OpRes.lift0 hw (alx S i _ _ v (hρ x) h) (by simp only [execOp,hop])
 | field S x i=>
  rw [hop] at h;simp only [ac] at h
  exact OpRes.lift0 hw (atb S i _ _ v (hρ x) h) (by simp only [execOp,hop])
 | indexAddr T x i=>
  rw [hop] at h;simp only [ac] at h
  exact OpRes.lift0 hw (al3 T _ _ _ _ v (hρ x) (hρ i) h) (by simp only [execOp,hop])
 | index T x i=>
  rw [hop] at h;simp only [ac] at h
  exact OpRes.lift0 hw (atj T _ _ _ _ v (hρ x) (hρ i) h) (by simp only [execOp,hop])
 | lookup T m k ok=>
  rw [hop] at h;simp only [ac] at h
  exact OpRes.lift0 hw (ark hw T _ _ _ _ ok v (hρ m) (hρ k) h) (by simp only [execOp,hop])
 | extract t i=>
  rw [hop] at h;simp only [ac] at h
  have hx:=hρ t
  unfold agl at h
  split at h
  ·rename_i vs he
   split at h
   ·rename_i s hs
    simp only [Ac.val.injEq,true_and] at h;subst h
    rw [he] at hx
    generalize hcc:η t=cv at hx
    cases hx with
    | @tup _ us hsz hall=>
     have hlt:i<us.size:=by rw [hsz];exact (List.getElem?_eq_some_iff.1 hs).1
     have hu:us[i]?=some us[i]:=Array.getElem?_eq_getElem hlt
     exact OpRes.still hw (u:=us[i]) (by simp [execOp,hop,hcc,Instr.extract,hu]) (hall i _ _ hs hu)
   ·simp at h
  ·rename_i b p c he
   rw [he] at hx
   generalize hcc:η t=cv at hx
   cases hx with
   | nx h1 h2=>
    split at h
    ·simp only [Ac.val.injEq,true_and] at h;subst h
     cases b with
     | true=>have:=h1 rfl;subst this;exact OpRes.still hw (u:=.bool true) (by simp [execOp,hop,hcc,Instr.extract]) .bool
     | false=>have:=h2 rfl;subst this;exact OpRes.still hw (u:=.bool false) (by simp [execOp,hop,hcc,Instr.extract]) .bool
    ·simp only [Ac.val.injEq] at h
     obtain ⟨hb,rfl⟩:=h
     have:=h1 hb;subst this
     exact OpRes.still hw (u:=.int .i64 p) (by simp [execOp,hop,hcc,Instr.extract]) .int
    ·simp only [Ac.val.injEq] at h
     obtain ⟨hb,rfl⟩:=h
     have:=h1 hb;subst this
     exact OpRes.still hw (u:=.int .i32 c) (by simp [execOp,hop,hcc,Instr.extract]) .int
    ·cases h
  ·simp at h
 | call c=>
  rw [hop] at h
  simp only [ac] at h
  unfold aht at h
  split at h
  ·simp at h
  ·split at h<;>simp at h
  ·rename_i hc
   split at h
   ·rename_i x T hx hT
    have ha:c.args=#[x]:=by rw [<-Array.toArray_toList (xs:=c.args),hx]
    have hat:c.argTypes=#[T]:=by rw [<-Array.toArray_toList (xs:=c.argTypes),hT]
    refine OpRes.lift0 hw (az4 hw T _ _ v (hρ x) h o.type) ?_
    simp [execOp,hop,resolve,hc,invoke,builtin,ha,hat]
   ·simp at h
  ·split at h
   ·exact absurd h (aqu (akx _ _ _ _ _ _ _))
   ·simp at h
  ·rename_i hc
   obtain ⟨x,q,u,e1,e2,e3⟩:=akq (Γ:=Γ) (D:=D) (w:=w) (ow:=ow) (μ:=μ) (st:=st) false _ (c.args.map η).toList (by simp) (fun i s u h1 h2=>by
    rw [List.getElem?_map] at h1
    rw [Array.toList_map,List.getElem?_map] at h2
    cases hp:c.args.toList[i]? with
    | none=>rw [hp] at h1;cases h1
    | some p=>rw [hp] at h1 h2;cases h1;cases h2;exact hρ p) v h
   refine OpRes.lift0 hw ⟨u,e2,e3⟩ ?_
   simp only [execOp,hop,resolve,hc,invoke,builtin,Builtin.min_,Sem.run_bind,Sem.run_pure,Result.andThen_ok,e1]
   simp
  ·rename_i hc
   obtain ⟨x,q,u,e1,e2,e3⟩:=akq (Γ:=Γ) (D:=D) (w:=w) (ow:=ow) (μ:=μ) (st:=st) true _ (c.args.map η).toList (by simp) (fun i s u h1 h2=>by
    rw [List.getElem?_map] at h1
    rw [Array.toList_map,List.getElem?_map] at h2
    cases hp:c.args.toList[i]? with
    | none=>rw [hp] at h1;cases h1
    | some p=>rw [hp] at h1 h2;cases h1;cases h2;exact hρ p) v h
   refine OpRes.lift0 hw ⟨u,e2,e3⟩ ?_
   simp only [execOp,hop,resolve,hc,invoke,builtin,Builtin.max_,Sem.run_bind,Sem.run_pure,Result.andThen_ok,e1]
   simp
  ·simp at h
 | makeInterface T x=>
  rw [hop] at h;simp only [ac,agp] at h
  split at h
  ·cases h
  ·cases h
  ·rename_i d hni hT
   simp only [Ac.val.injEq,true_and] at h;subst h
   refine OpRes.lift0 hw (s:=Instr.makeInterface T (η x)) ⟨.iface T (η x),?_,.ifc (hρ x)⟩ (by simp only [execOp,hop])
   unfold Instr.makeInterface
   simp only [Sem.run_bind,run_underlying hT,Result.andThen_ok]
   exact Sem.run_pure ..
 | panic x=>rw [hop] at h;simp only [ac,amj] at h;split at h<;>simp at h
 | alloc T=>rw [hop] at h;simp only [ac,agd,cond_eq_ite] at h;repeat' split at h
            all_goals cases h
 | box T x=>rw [hop] at h;simp only [ac,aqq,cond_eq_ite] at h;repeat' split at h
            all_goals cases h
 | makeSlice T n c=>rw [hop] at h;simp only [ac,ac0,aec,cond_eq_ite] at h;repeat' split at h
                    all_goals cases h
 | store T a x=>rw [hop] at h;simp only [ac] at h;exact absurd h (am3 _ _ _ _ _ _)
 | insert T m k x=>rw [hop] at h;simp only [ac] at h;exact absurd h (aee _ _ _ _ _ _ _)
 | mapUpdate T m k x=>rw [hop] at h;simp only [ac] at h;exact absurd h (aee _ _ _ _ _ _ _)
 | mapEntry T m k=>rw [hop] at h;simp only [ac] at h;exact absurd h (ai6 _ _ _ _ _ _)
 | entryStore T m k x=>rw [hop] at h;simp only [ac] at h;exact absurd h (ahn _ _ _ _ _ _ _)
 | makeMap T r=>rw [hop] at h;simp only [ac] at h;unfold adk at h;split at h<;>simp at h
 | range T x=>rw [hop] at h;simp only [ac] at h;unfold aic at h;split at h<;>first | (simp at h;done) | (simp only [cond_eq_ite] at h;split at h<;>simp at h)
 | next x b=>
  rw [hop] at h;simp only [ac] at h;unfold amf at h;repeat' split at h
  all_goals simp at h
 | entry x=>
  rw [hop] at h;simp only [ac] at h
  have hx:=hρ x
  unfold aj4 at h
  split at h
  ·rename_i k he
   split at h
   ·rename_i K E e es hk
    simp only [Ac.val.injEq,true_and] at h;subst h
    rw [he] at hx
    generalize hcc:η x=cv at hx
    cases hx with
    | mitr _=>
     obtain ⟨_,_,m,since,c0,seen,q3,_,q5⟩:=hw.obj k _ hk
     obtain ⟨r,ents,ent,kc,vc,rfl,a2,a3,a4,a5,a6,a7,a8,a9⟩:=q5 e rfl
     refine OpRes.still hw (u:=.tuple #[ent.key,ent.val]) ?_ (.tup rfl fun i s v hs hv=>?_)
     ·simp [execOp,hop,hcc,Instr.entry,getObj,Sem.run,q3,a3,a4,a5]
     ·match i,hs,hv with
      | 0,hs,hv=>simp at hs hv;subst hs;subst hv;rw [a8];exact a6.ofPV
      | 1,hs,hv=>simp at hs hv;subst hs;subst hv;rw [a9];exact a7.ofPV
   ·cases h
  ·cases h
 | _=>rw [hop] at h;simp [ac] at h
end
end Go.Ab
namespace Go.Ab
open Go
section
variable {Γ:Ctx}{D:Dom}{ow:Own}{μ:Nat->Nat}{st:List BX}{w:World}{η:Operand->Value}{ρ ρt ρf:Operand->SV}
def ab1 (x:Ac):Prop:=∀ c v s,x≠.upd c v s
def aya (x:Ac):Prop:=∀ f as,x≠.call f as
theorem aaq {c:Bool}{v:SV}:ab1 (.val c v):=fun _ _ _ h=>by cases h
theorem aak:ab1 .fail:=fun _ _ _ h=>by cases h
theorem a2u (op:BinOp) (k:IntKind) (x y:Int):ab1 (aw3 op k x y):=by cases op<;>first | exact aaq | exact aak
theorem a3q (op:BinOp) (x y:List UInt8):ab1 (ax0 op x y):=by cases op<;>first | exact aaq | exact aak
theorem ayp (op:BinOp) (x y:Bool):ab1 (an7 op x y):=by cases op<;>first | exact aaq | exact aak
theorem ab2 {b:Bool}{x:Ac} (h:ab1 x):ab1 (bif b then x else .fail):=by cases b;exact aak;exact h
theorem a2d {b:Bool}{x:Ac} (h:ab1 x):ab1 (bif b then .fail else x):=by cases b;exact h;exact aak
theorem atz (op:BinOp) (x:SV):ab1 (afw op x):=by
 unfold afw
 repeat' split
 all_goals (intro c v st' h;simp at h)
theorem aut (P:Program) (op:BinOp) (T:TypeId) (x y:SV):ab1 (adz P op T x y):=by
 unfold adz
 split
 ·refine ab2 ?_;split<;>first | exact aaq | exact aak
 ·exact aak
theorem aur (P:Program) (op:BinOp) (T:TypeId) (x y:SV):aya (adz P op T x y):=by
 unfold adz
 intro f as h
 simp only [cond_eq_ite] at h
 repeat' split at h
 all_goals cases h
theorem a1v (P:Program) (op:BinOp) (T:TypeId) (x y:SV):ab1 (as2 P op T x y):=by
 unfold as2
 split
 ·split
  ·exact aaq
  ·exact aaq
  ·exact ab2 (a2u _ _ _ _)
 ·exact a3q _ _ _
 ·exact ab2 (ayp _ _ _)
 ·exact ab2 (by cases op<;>first | exact aaq | exact aak)
 ·exact ab2 (by cases op<;>first | exact aaq | exact aak)
 ·exact aut _ _ _ _ _
theorem a6h (op:UnOp) (x:SV):ab1 (unAc op x):=by unfold unAc;split<;>first | exact aaq | exact aak
theorem ayv (P:Program) (s d:TypeId) (x:SV):ab1 (alr P s d x):=by
 unfold alr;refine ab2 ?_;split<;>first | exact aaq | exact aak | exact ab2 aaq
theorem as8 (P:Program) (st:List BX) (s d:TypeId) (x:SV):ab1 (ael P st s d x):=by
 unfold ael;split
 ·split
  ·exact ab2 aaq
  ·exact aak
 ·exact ayv _ _ _ _
theorem awl (P:Program) (T:TypeId) (ps:List (Nat×SV)):ab1 (ah2 P T ps):=by
 unfold ah2;split
 ·exact ab2 aaq
 ·refine ab2 ?_;split<;>first | exact aaq | exact aak
 ·exact aak
theorem aln (P:Program) (T:TypeId) (n:Nat) (ps:List (Nat×SV)):ab1 (ach P T n ps):=by
 unfold ach;split
 ·exact ab2 aaq
 ·exact aak
theorem az8 (P:Program) (T:TypeId) (st:List BX) (a:SV):ab1 (aep P T st a):=by
 intro c v s h
 unfold aep at h
 simp only [cond_eq_ite] at h
 repeat' split at h
 all_goals cases h
theorem anh (P:Program) (st:List BX) (S:TypeId) (i:Nat) (a:SV):ab1 (aci P st S i a):=by
 unfold aci;split
 ·split
  ·refine a2d ?_;split<;>first | exact ab2 aaq | exact aak
  ·exact aak
 ·exact aak
theorem awt (P:Program) (S:TypeId) (i:Nat) (a:SV):ab1 (ah5 P S i a):=by
 unfold ah5;split
 ·split
  ·refine ab2 ?_;split
   ·exact ab2 aaq
   ·refine ab2 ?_;split<;>first | exact aaq | exact aak
   ·exact aak
  ·exact aak
 ·exact aak
theorem anj (P:Program) (T:TypeId) (st:List BX) (x i:SV):ab1 (acj P T st x i):=by
 intro c v s h
 unfold acj at h
 simp only [cond_eq_ite] at h
 repeat' split at h
 all_goals cases h
theorem aw2 (P:Program) (T:TypeId) (x i:SV):ab1 (ah7 P T x i):=by
 unfold ah7;split<;>first | exact aaq | exact ab2 aaq | exact aak
theorem axy (P:Program) (T:TypeId) (x:SV) (lo hi mx:Option SV):ab1 (aii P T x lo hi mx):=by
 unfold aii;split
 ·exact aak
 ·split
  ·exact aaq
  ·split
   ·split<;>first | exact aaq | exact aak
   ·split
    ·split<;>first | exact ab2 aaq | exact aak
    ·exact aak
   ·exact aak
theorem atq (P:Program) (T:TypeId) (st:List BX) (m k:SV) (ok:Bool):ab1 (acm P T st m k ok):=by
 unfold acm;split
 ·refine ab2 ?_;split
  ·exact ab2 aaq
  ·split
   ·exact ab2 aaq
   ·exact aak
  ·exact aak
 ·exact aak
theorem a3b (P:Program) (T:TypeId) (st:List BX) (x:SV):ab1 (apl P T st x):=by
 unfold apl;split<;>first | exact aaq | exact aak | (split<;>first | exact aaq | exact aak)
theorem ame (mx:Bool) (ss:List SV):ab1 (adj mx ss):=by
 unfold adj;split
 ·split<;>first | exact aaq | exact aak
 ·exact aak
theorem amc (mx:Bool) (ss:List SV):aya (adj mx ss):=by
 unfold adj;intro f as h
 split at h
 ·split at h<;>cases h
 ·cases h
theorem apn (fn:Fn) (first cs:List SV):ab1 (ad4 fn first cs):=by unfold ad4;split<;>first | exact aaq | exact aak
theorem a2e {b:Bool}{x:Ac}{v:SV}{s:List BX} (h:(bif b then x else .fail)=.upd true v s):b=true/\x=.upd true v s:=by
 cases b
 ·simp at h
 ·exact ⟨rfl,h⟩
theorem akk (hw:WRel Γ D ow μ st w) (hρ:∀ x,SRep Γ.P D w ow μ st (ρ x) (η x)) (o:Oper) (v:SV) (st':List BX) (h:ac Γ.P o.op ρ ρt ρf st=.upd true v st'):OpRes Γ D ow μ st w ((execOp η o).run Γ.P w) v st':=by
 cases hop:o.op with
 | alloc T=>
  rw [hop] at h;simp only [ac] at h
  obtain ⟨u,w',r1,r2⟩:=asw hw T h
  exact OpRes.lift r1 r2 (by simp only [execOp,hop])
 | box T x=>
  rw [hop] at h;simp only [ac] at h
  obtain ⟨u,w',r1,r2⟩:=as4 hw T _ _ (hρ x) h
  exact OpRes.lift r1 r2 (by simp only [execOp,hop])
 | makeSlice T n c=>
  rw [hop] at h;simp only [ac] at h
  cases hz:azp n with
  | true=>
   rw [hz] at h;simp only [cond_true] at h
   obtain ⟨u,w',r1,r2⟩:=amb hw T _ _ _ _ v st' (hρ n) (hρ c) h
   exact OpRes.lift r1 r2 (by simp only [execOp,hop])
  | false=>
   rw [hz] at h;simp only [cond_false] at h
   obtain ⟨u,w',r1,r2⟩:=apq hw T _ _ _ _ v st' (hρ n) (hρ c) h
   exact OpRes.lift r1 r2 (by simp only [execOp,hop])
 | store T a x=>
  rw [hop] at h;simp only [ac] at h
  obtain ⟨w',r1,r2⟩:=aqc hw T _ _ _ _ v st' (hρ a) (hρ x) h
  exact OpRes.liftU r1 r2 (by simp only [execOp,hop])
 | insert T m k x=>
  rw [hop] at h;simp only [ac] at h
  obtain ⟨w',r1,r2⟩:=agq hw T _ _ _ _ _ _ v st' (hρ m) (hρ k) (hρ x) h
  exact OpRes.liftU r1 r2 (by simp only [execOp,hop])
 | mapUpdate T m k x=>
  rw [hop] at h;simp only [ac] at h
  obtain ⟨w',r1,r2⟩:=agq hw T _ _ _ _ _ _ v st' (hρ m) (hρ k) (hρ x) h
  exact OpRes.liftU r1 r2 (by simp only [execOp,hop])
 | mapEntry T m k=>
  rw [hop] at h;simp only [ac] at h
  obtain ⟨u,w',r1,r2⟩:=ann hw T _ _ _ _ v st' (hρ m) (hρ k) h
  exact OpRes.lift r1 r2 (by simp only [execOp,hop])
 | entryStore T m k x=>
  rw [hop] at h;simp only [ac] at h
  obtain ⟨w',r1,r2⟩:=ak0 hw T _ _ _ _ _ _ v st' (hρ m) (hρ k) (hρ x) h
  exact OpRes.liftU r1 r2 (by simp only [execOp,hop])
 | makeMap T r=>
  rw [hop] at h;simp only [ac] at h
  unfold adk at h
  split at h
  ·rename_i K E hT
   simp only [Ac.upd.injEq,true_and] at h
   obtain ⟨rfl,rfl⟩:=h
   obtain ⟨u,w',r1,r2⟩:=apo hw T K E
   exact OpRes.lift r1 r2 (by simp only [execOp,hop];rfl)
  ·simp at h
 | call c=>
  rw [hop] at h;simp only [ac] at h
  unfold aht at h
  split at h
  ·simp at h
  ·split at h<;>simp at h
  ·split at h
   ·exact absurd h (a3b _ _ _ _ _ _ _)
   ·simp at h
  ·rename_i hc
   split at h
   ·rename_i x y T T' hx hT
    obtain ⟨h1,h2⟩:=a2e h
    have:=Nat.eq_of_beq_eq_true h1;subst this
    have ha:c.args=#[x,y]:=by rw [<-Array.toArray_toList (xs:=c.args),hx]
    have hat:c.argTypes=#[T,T]:=by rw [<-Array.toArray_toList (xs:=c.argTypes),hT]
    obtain ⟨u,w',r1,r2⟩:=aqm hw T o.type _ _ _ _ v st' (hρ x) (hρ y) h2
    refine OpRes.lift r1 r2 ?_
    simp [execOp,hop,resolve,hc,invoke,builtin,ha,hat]
   ·simp at h
  ·exact absurd h (ame _ _ _ _ _)
  ·exact absurd h (ame _ _ _ _ _)
  ·simp at h
 | move x=>rw [hop] at h;simp [ac] at h
 | assign x=>rw [hop] at h;simp [ac] at h
 | pick c x y=>rw [hop] at h;simp only [ac] at h;split at h<;>simp at h
 | build T ps=>rw [hop] at h;exact absurd h (awl _ _ _ _ _ _)
 | buildSlice T n ps=>rw [hop] at h;exact absurd h (aln _ _ _ _ _ _ _)
 | load T a=>rw [hop] at h;exact absurd h (az8 _ _ _ _ _ _ _)
 | nilCheck x=>rw [hop] at h;simp only [ac,cond_eq_ite] at h;repeat' split at h
               all_goals cases h
 | binOp b T x y T2=>
  rw [hop] at h;simp only [ac,alm,cond_eq_ite] at h
  split at h
  ·split at h
   ·exact absurd h (atz _ _ _ _ _)
   ·simp at h
  ·exact absurd h (a1v _ _ _ _ _ _ _ _)
 | unOp u T x=>rw [hop] at h;exact absurd h (a6h _ _ _ _ _)
 | convert s d x=>rw [hop] at h;exact absurd h (as8 _ _ _ _ _ _ _ _)
 | makeFunc fn first cs=>rw [hop] at h;exact absurd h (apn _ _ _ _ _ _)
 | slice T x lo hi mx=>rw [hop] at h;exact absurd h (axy _ _ _ _ _ _ _ _ _)
 | fieldAddr S x i=>rw [hop] at h;exact absurd h (anh _ _ _ _ _ _ _ _)
 | field S x i=>rw [hop] at h;exact absurd h (awt _ _ _ _ _ _ _)
 | indexAddr T x i=>rw [hop] at h;exact absurd h (anj _ _ _ _ _ _ _ _)
 | index T x i=>rw [hop] at h;exact absurd h (aw2 _ _ _ _ _ _ _)
 | lookup T m k ok=>rw [hop] at h;exact absurd h (atq _ _ _ _ _ _ _ _ _)
 | extract t i=>rw [hop] at h;simp only [ac] at h;unfold agl at h;split at h<;>first | (simp at h;done) | (split at h<;>simp at h)
 | range T x=>
  rw [hop] at h;simp only [ac] at h
  obtain ⟨u,w',r1,r2⟩:=at8 hw T _ _ v st' (hρ x) h
  exact OpRes.lift r1 r2 (by simp only [execOp,hop])
 | next x b=>
  rw [hop] at h;simp only [ac] at h
  obtain ⟨u,w',r1,r2⟩:=axi hw _ _ b o.type v st' (hρ x) h
  exact OpRes.lift r1 r2 (by simp only [execOp,hop])
 | entry x=>
  rw [hop] at h;simp only [ac] at h;unfold aj4 at h;repeat' split at h
  all_goals simp at h
 | makeInterface T x=>rw [hop] at h;simp only [ac,agp] at h;split at h<;>simp at h
 | panic x=>rw [hop] at h;simp only [ac,amj] at h;split at h<;>simp at h
 | _=>rw [hop] at h;simp [ac] at h
theorem abt (hρ:∀ x,SRep Γ.P D w ow μ st (ρ x) (η x)) (hη:∀ f,η (.func f)=.func (.func f) #[] #[]) (o:Oper) (f:FuncId) (args:List SV) (h:ac Γ.P o.op ρ ρt ρf st=.call f args):
 ∃ vals:Array Value,(execOp η o).run Γ.P w=(callFunc f vals).run Γ.P w/\vals.size=args.length/\∀ (i:Nat) (s:SV) (v:Value),args[i]?=some s->vals[i]?=some v->SRep Γ.P D w ow μ st s v:=by
 have argsOk:∀ xs:Array Operand,∀ (i:Nat) (s:SV) (v:Value),(xs.toList.map ρ)[i]?=some s->(xs.map η)[i]?=some v->SRep Γ.P D w ow μ st s v:=by
  intro xs i s v hs hv
  rw [List.getElem?_map] at hs
  rw [Array.getElem?_map] at hv
  cases hp:xs[i]? with
  | none=>rw [hp] at hv;simp at hv
  | some p=>
   have:xs.toList[i]?=some p:=by simpa using hp
   rw [this] at hs;rw [hp] at hv
   simp at hs hv
   subst hs;subst hv
   exact hρ p
 cases hop:o.op with
 | call c=>
  rw [hop] at h;simp only [ac] at h
  unfold aht at h
  split at h
  ·rename_i g hc
   simp only [Ac.call.injEq] at h
   obtain ⟨rfl,rfl⟩:=h
   refine ⟨c.args.map η,?_,by simp,argsOk c.args⟩
   simp [execOp,hop,resolve,hc,hη,Deferred.ofValue,invoke]
  ·rename_i x hne hc
   have hx:=hρ x
   split at h
   ·rename_i g n caps he
    simp only [Ac.call.injEq] at h
    obtain ⟨rfl,rfl⟩:=h
    rw [he] at hx
    generalize hcc:η x=cv at hx
    cases hx with
    | @fn _ _ _ us vs hn hsz hall=>
     have hle:n<=caps.length:=by rw [<-hsz,<-hn];simp
     have htn:(caps.take n).length=us.size:=by rw [List.length_take,hn];omega
     refine ⟨us++c.args.map η++vs,?_,by simp at hsz ⊢;omega,fun i s v hs hv=>?_⟩
     ·simp [execOp,hop,resolve,hc,hcc,Deferred.ofValue,invoke]
     ·rw [Array.append_assoc] at hv
      by_cases hi:i<us.size
      ·rw [List.getElem?_append_left (by omega),List.getElem?_take_of_lt (by omega)] at hs
       rw [Array.getElem?_append_left hi] at hv
       exact hall i s v hs (by rw [Array.getElem?_append_left hi];exact hv)
      ·rw [List.getElem?_append_right (by omega),htn] at hs
       rw [Array.getElem?_append_right (by omega)] at hv
       by_cases hi2:i-us.size<c.args.size
       ·rw [List.getElem?_append_left (by simpa using hi2)] at hs
        rw [Array.getElem?_append_left (by simpa using hi2)] at hv
        exact argsOk c.args _ s v hs hv
       ·rw [List.getElem?_append_right (by simp;omega),List.getElem?_drop] at hs
        rw [Array.getElem?_append_right (by simp;omega)] at hv
        simp only [List.length_map,Array.length_toList,Array.size_map] at hs hv
        refine hall _ s v hs ?_
        rw [Array.getElem?_append_right (by omega)]
        rw [show n+(i-us.size-c.args.size)-us.size=i-us.size-c.args.size by omega]
        exact hv
   ·simp at h
  ·split at h
   ·unfold apl at h;split at h<;>first | (simp at h;done) | (split at h<;>simp at h)
   ·simp at h
  ·split at h
   ·simp only [cond_eq_ite] at h
    split at h
    ·unfold acw at h
     simp only [cond_eq_ite] at h
     repeat' split at h
     all_goals simp at h
    ·simp at h
   ·simp at h
  ·exact absurd h (amc _ _ _ _)
  ·exact absurd h (amc _ _ _ _)
  ·simp at h
 | move x=>rw [hop] at h;simp [ac] at h
 | assign x=>rw [hop] at h;simp [ac] at h
 | pick c x y=>rw [hop] at h;simp only [ac] at h;split at h<;>simp at h
 | alloc T=>rw [hop] at h;simp only [ac,agd,cond_eq_ite] at h;repeat' split at h
            all_goals cases h
 | box T x=>rw [hop] at h;simp only [ac,aqq,cond_eq_ite] at h;repeat' split at h
            all_goals cases h
 | makeSlice T n c=>rw [hop] at h;simp only [ac,ac0,aec,cond_eq_ite] at h;repeat' split at h
                    all_goals cases h
 | store T a x=>rw [hop] at h;simp only [ac,ads,adc,cond_eq_ite] at h;repeat' split at h
                all_goals simp at h
 | insert T m k x=>rw [hop] at h;simp only [ac,abp,cond_eq_ite] at h;repeat' split at h
                   all_goals simp at h
 | mapUpdate T m k x=>rw [hop] at h;simp only [ac,abp,cond_eq_ite] at h;repeat' split at h
                      all_goals simp at h
 | mapEntry T m k=>rw [hop] at h;simp only [ac,ab4,cond_eq_ite] at h;repeat' split at h
                   all_goals simp at h
 | entryStore T m k x=>rw [hop] at h;simp only [ac,abu,cond_eq_ite] at h;repeat' split at h
                       all_goals simp at h
 | makeMap T r=>rw [hop] at h;simp only [ac,adk] at h;split at h<;>simp at h
 | build T ps=>rw [hop] at h;simp only [ac,ah2,cond_eq_ite] at h;repeat' split at h
               all_goals simp at h
 | buildSlice T n ps=>rw [hop] at h;simp only [ac,ach,cond_eq_ite] at h;repeat' split at h
                      all_goals simp at h
 | load T a=>rw [hop] at h;simp only [ac,aep,cond_eq_ite] at h;repeat' split at h
             all_goals simp at h
 | nilCheck x=>rw [hop] at h;simp only [ac,cond_eq_ite] at h;repeat' split at h
               all_goals cases h
 | binOp b T x y T2=>
  rw [hop] at h;simp only [ac,alm,afw,as2,cond_eq_ite] at h;repeat' split at h
  all_goals first
   | (exact absurd h (aur _ _ _ _ _ _ _))
   | (simp at h;done)
   | (cases b<;>simp [aw3] at h;done)
   | (cases b<;>simp [ax0] at h;done)
   | (cases b<;>simp [an7] at h;done)
   | (cases b<;>simp [ad5] at h;done)
 | unOp u T x=>rw [hop] at h;simp only [ac,unAc] at h;repeat' split at h
               all_goals simp at h
 | convert s d x=>rw [hop] at h;simp only [ac,ael,alr,cond_eq_ite] at h;repeat' split at h
                  all_goals simp at h
 | makeFunc fn first cs=>rw [hop] at h;simp only [ac,ad4] at h;split at h<;>simp at h
 | slice T x lo hi mx=>rw [hop] at h;simp only [ac,aii,cond_eq_ite] at h;repeat' split at h
                       all_goals simp at h
 | fieldAddr S x i=>rw [hop] at h;simp only [ac,aci,cond_eq_ite] at h;repeat' split at h
                    all_goals simp at h
 | field S x i=>rw [hop] at h;simp only [ac,ah5,cond_eq_ite] at h;repeat' split at h
                all_goals simp at h
 | indexAddr T x i=>rw [hop] at h;simp only [ac,acj,cond_eq_ite] at h;repeat' split at h
                    all_goals simp at h
 | index T x i=>rw [hop] at h;simp only [ac,ah7,cond_eq_ite] at h;repeat' split at h
                all_goals simp at h
 | lookup T m k ok=>rw [hop] at h;simp only [ac,acm,cond_eq_ite] at h;repeat' split at h
                    all_goals simp at h
 | extract t i=>rw [hop] at h;simp only [ac] at h;unfold agl at h;split at h<;>first | (simp at h;done) | (split at h<;>simp at h)
 | range T x=>rw [hop] at h;simp only [ac] at h;unfold aic at h;split at h<;>first | (simp at h;done) | (simp only [cond_eq_ite] at h;split at h<;>simp at h)
 | next x b=>
  rw [hop] at h;simp only [ac] at h;unfold amf at h;repeat' split at h
  all_goals simp at h
 | entry x=>
  rw [hop] at h;simp only [ac] at h;unfold aj4 at h;repeat' split at h
  all_goals simp at h
 | makeInterface T x=>rw [hop] at h;simp only [ac,agp] at h;split at h<;>simp at h
 | panic x=>rw [hop] at h;simp only [ac,amj] at h;split at h<;>simp at h
 | _=>rw [hop] at h;simp [ac] at h
theorem aus (P:Program) (op:BinOp) (T:TypeId) (x y:SV) (v:SV):adz P op T x y≠.pan v:=by
 unfold adz
 simp only [cond_eq_ite]
 repeat' split
 all_goals simp
theorem amd (mx:Bool) (ss:List SV) (v:SV):adj mx ss≠.pan v:=by
 unfold adj
 split
 ·split<;>simp
 ·simp
theorem aqk (hρ:∀ x,SRep Γ.P D w ow μ st (ρ x) (η x)) (o:Oper) (s:SV) (h:ac Γ.P o.op ρ ρt ρf st=.pan s):∃ u,(execOp η o).run Γ.P w=.halt (.panic u) w/\SRep Γ.P D w ow μ st s u:=by
 cases hop:o.op with
 | panic x=>
  rw [hop] at h;simp only [ac,amj] at h
  split at h
  ·rename_i T y hx
   simp only [Ac.pan.injEq] at h;subst h
   have hv:=hρ x
   rw [hx] at hv
   generalize hcc:η x=cv at hv
   refine ⟨cv,?_,hv⟩
   cases hv with
   | ifc hv=>simp [execOp,hop,hcc,Instr.panic,goPanic]
  ·cases h
 | call c=>
  rw [hop] at h;simp only [ac] at h
  unfold aht at h
  split at h
  ·cases h
  ·split at h<;>cases h
  ·split at h
   ·unfold apl at h;split at h<;>first | (simp at h;done) | (split at h<;>simp at h)
   ·cases h
  ·split at h
   ·simp only [cond_eq_ite] at h
    split at h
    ·unfold acw at h
     simp only [cond_eq_ite] at h
     repeat' split at h
     all_goals cases h
    ·cases h
   ·cases h
  ·exact absurd h (amd _ _ _)
  ·exact absurd h (amd _ _ _)
  ·cases h
 | move x=>rw [hop] at h;simp [ac] at h
 | assign x=>rw [hop] at h;simp [ac] at h
 | pick c x y=>rw [hop] at h;simp only [ac] at h;split at h<;>simp at h
 | alloc T=>rw [hop] at h;simp only [ac,agd,cond_eq_ite] at h;repeat' split at h
            all_goals cases h
 | box T x=>rw [hop] at h;simp only [ac,aqq,cond_eq_ite] at h;repeat' split at h
            all_goals cases h
 | makeSlice T n c=>rw [hop] at h;simp only [ac,ac0,aec,cond_eq_ite] at h;repeat' split at h
                    all_goals cases h
 | store T a x=>rw [hop] at h;simp only [ac,ads,adc,cond_eq_ite] at h;repeat' split at h
                all_goals simp at h
 | insert T m k x=>rw [hop] at h;simp only [ac,abp,cond_eq_ite] at h;repeat' split at h
                   all_goals simp at h
 | mapUpdate T m k x=>rw [hop] at h;simp only [ac,abp,cond_eq_ite] at h;repeat' split at h
                      all_goals simp at h
 | mapEntry T m k=>rw [hop] at h;simp only [ac,ab4,cond_eq_ite] at h;repeat' split at h
                   all_goals simp at h
 | entryStore T m k x=>rw [hop] at h;simp only [ac,abu,cond_eq_ite] at h;repeat' split at h
                       all_goals simp at h
 | makeMap T r=>rw [hop] at h;simp only [ac,adk] at h;split at h<;>simp at h
 | build T ps=>rw [hop] at h;simp only [ac,ah2,cond_eq_ite] at h;repeat' split at h
               all_goals simp at h
 | buildSlice T n ps=>rw [hop] at h;simp only [ac,ach,cond_eq_ite] at h;repeat' split at h
                      all_goals simp at h
 | load T a=>rw [hop] at h;simp only [ac,aep,cond_eq_ite] at h;repeat' split at h
             all_goals simp at h
 | nilCheck x=>rw [hop] at h;simp only [ac,cond_eq_ite] at h;repeat' split at h
               all_goals cases h
 | binOp b T x y T2=>
  rw [hop] at h;simp only [ac,alm,afw,as2,cond_eq_ite] at h;repeat' split at h
  all_goals first
   | (exact absurd h (aus _ _ _ _ _ _))
   | (simp at h;done)
   | (cases b<;>simp [aw3] at h;done)
   | (cases b<;>simp [ax0] at h;done)
   | (cases b<;>simp [an7] at h;done)
   | (cases b<;>simp [ad5] at h;done)
 | unOp u T x=>rw [hop] at h;simp only [ac,unAc] at h;repeat' split at h
               all_goals simp at h
 | convert s d x=>rw [hop] at h;simp only [ac,ael,alr,cond_eq_ite] at h;repeat' split at h
                  all_goals simp at h
 | makeFunc fn first cs=>rw [hop] at h;simp only [ac,ad4] at h;split at h<;>simp at h
 | slice T x lo hi mx=>rw [hop] at h;simp only [ac,aii,cond_eq_ite] at h;repeat' split at h
                       all_goals simp at h
 | fieldAddr S x i=>rw [hop] at h;simp only [ac,aci,cond_eq_ite] at h;repeat' split at h
                    all_goals simp at h
 | field S x i=>rw [hop] at h;simp only [ac,ah5,cond_eq_ite] at h;repeat' split at h
                all_goals simp at h
 | indexAddr T x i=>rw [hop] at h;simp only [ac,acj,cond_eq_ite] at h;repeat' split at h
                    all_goals simp at h
 | index T x i=>rw [hop] at h;simp only [ac,ah7,cond_eq_ite] at h;repeat' split at h
                all_goals simp at h
 | lookup T m k ok=>rw [hop] at h;simp only [ac,acm,cond_eq_ite] at h;repeat' split at h
                    all_goals simp at h
 | extract t i=>rw [hop] at h;simp only [ac] at h;unfold agl at h;split at h<;>first | (simp at h;done) | (split at h<;>simp at h)
 | range T x=>rw [hop] at h;simp only [ac] at h;unfold aic at h;split at h<;>first | (simp at h;done) | (simp only [cond_eq_ite] at h;split at h<;>simp at h)
 | next x b=>
  rw [hop] at h;simp only [ac] at h;unfold amf at h;repeat' split at h
  all_goals simp at h
 | entry x=>
  rw [hop] at h;simp only [ac] at h;unfold aj4 at h;repeat' split at h
  all_goals simp at h
 | makeInterface T x=>rw [hop] at h;simp only [ac,agp] at h;split at h<;>simp at h
 | _=>rw [hop] at h;simp [ac] at h
end
end Go.Ab
