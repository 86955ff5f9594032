/- One operation: what the evaluator says of it, the model does. -/
import Derived.Test.YthokbeimbdnnoaaGreatDoorAbBuild
set_option linter.unusedVariables false
set_option linter.unusedSimpArgs false
set_option linter.unnecessarySimpa false
namespace Go.Ab
open Go
section
variable {Γ:Ctx}{D:Dom}{ow:Own}{μ:Nat->Nat}{st:List BX}{w:World}{η:Operand->Value}{ρ ρt ρf:Operand->SV}
theorem OpRes.lift {r:Result Next}{v:SV}{st':List BX}{s:Sem Value}{u:Value}{w':World} (z:s.run Γ.P w=.ok u w') (h:OpRes Γ D ow μ st w (.ok (.value u) w') v st') (o:r=(do pure (.value (<-s)):Sem Next).run Γ.P w):OpRes Γ D ow μ st w r v st':=by rw [o];simp only [Sem.run_bind,z,Result.andThen_ok,Sem.run_pure];exact h
theorem OpRes.lift0 (I:WRel Γ D ow μ st w) {r:Result Next}{v:SV}{s:Sem Value} (h:∃ u,s.run Γ.P w=.ok u w/\SRep Γ.P D w ow μ st v u) (H:r=(do pure (.value (<-s)):Sem Next).run Γ.P w):OpRes Γ D ow μ st w r v st:=by obtain ⟨u,o,z⟩:=h;exact OpRes.lift o (OpRes.still I rfl z) H
theorem OpRes.liftU {r:Result Next}{v:SV}{st':List BX}{s:Sem Unit}{w':World} (z:s.run Γ.P w=.ok () w') (h:OpRes Γ D ow μ st w (.ok .skip w') v st') (o:r=(do s;pure .skip:Sem Next).run Γ.P w):OpRes Γ D ow μ st w r v st':=by rw [o];simp only [Sem.run_bind,z,Result.andThen_ok,Sem.run_pure];exact h
theorem aqa {b:Bool}{x:Ac}{v:SV} (h:x≠.val true v):(bif b then x else .fail)≠.val true v:=by cases b<;>simp [h]
theorem akn (P:Program) (st:List BX) (T:TypeId) (x y:SV) (c:Bool) (v:SV):acw P st T x y≠.val c v:=by
 unfold acw;intro h;simp only [Ax] at h;repeat' split at h
 all_goals simp at h
theorem amr (P:Program) (T:TypeId) (st:List BX) (a x:SV) (v:SV):adu P T st a x≠.val true v:=by
 unfold adu;intro h;simp only [Ax] at h;repeat' split at h
 all_goals simp at h
theorem aei (P:Program) (T:TypeId) (st:List BX) (m k x:SV) (v:SV):abq P T st m k x≠.val true v:=by
 unfold abq;intro h;simp only [Ax] at h;repeat' split at h
 all_goals simp at h
theorem aq3 (I:∀ x,SRep Γ.P D w ow μ st (ρ x) (η x)) (o:Array (Nat×Operand)):(o.toList.map λ(i,x)=>(i,ρ x)).length=(o.map λ(i,x)=>(i,η x)).size/\
 ∀ (n i:Nat) (s:SV) (j:Nat) (u:Value),(o.toList.map λ(i,x)=>(i,ρ x))[n]?=some (i,s)->(o.map λ(i,x)=>(i,η x))[n]?=some (j,u)->i=j/\SRep Γ.P D w ow μ st s u:=by
 refine ⟨by simp,λn i s j u z h=>?_⟩
 rw [Bf] at z
 rw [Array.getElem?_map] at h
 cases H:o[n]? with
 | none=>rw [H] at h;simp at h
 | some p=>
  obtain ⟨k,x⟩:=p
  have:o.toList[n]?=some (k,x):=by simpa using H
  rw [this] at z;rw [H] at h
  simp at z h
  obtain ⟨rfl,rfl⟩:=z
  obtain ⟨rfl,rfl⟩:=h
  exact ⟨rfl,I x⟩
theorem as2 (J:Bool):∀ (H:List SV) (z:List Value) (k:IntKind) (a n:Int),H.length=z.length->(∀ (i:Nat) (s:SV) (u:Value),H[i]?=some s->z[i]?=some u->SRep Γ.P D w ow μ st s u)->ahh J a H=some n->
 (z.foldlM (if J then Builtin.max2 else Builtin.min2) (.int k a):Sem Value).run Γ.P w=.ok (.int k n) w:=by
 intro H
 induction H with
 | nil=>
  intro z k a n I _ h
  have:z=[]:=Bc (by simpa using I.symm)
  subst this
  simp [ahh] at h;subst h
  simp
 | cons x r ih=>
  intro z k a n I o h
  cases z with
  | nil=>simp at I
  | cons u q=>
   have M:=o 0 x u rfl rfl
   cases x with
   | int kb b=>
    generalize hu:u=uu at M
    cases M
    simp only [ahh] at h
    have:=ih q k _ n (by simpa using I) (λi s v O Z=>o (i+1) s v (by simpa using O) (by simpa using Z)) h
    cases J
    ·simp only [Ah,A7,A8] at this ⊢;simp only [List.foldlM_cons,Builtin.min2,pure_bind];exact this
    ·simp only [Af,Ba] at this ⊢;simp only [List.foldlM_cons,Builtin.max2,pure_bind];exact this
   | _=>simp [ahh] at h
theorem aki (H:Bool) (I:List SV) (z:List Value) (J:I.length=z.length) (o:∀ (i:Nat) (s:SV) (u:Value),I[i]?=some s->z[i]?=some u->SRep Γ.P D w ow μ st s u) (v:SV) (h:adh H I=.val true v):
 ∃ (x:Value) (q:List Value) (u:Value),z=x::q/\(q.foldlM (if H then Builtin.max2 else Builtin.min2) x:Sem Value).run Γ.P w=.ok u w/\SRep Γ.P D w ow μ st v u:=by
 unfold adh at h
 split at h
 ·rename_i k a r;cases z with
  | nil=>simp at J
  | cons x q=>
   have M:=o 0 _ x rfl rfl;generalize hu:x=xx at M;cases M;split at h
   ·rename_i n hf;simp only [Ac.val.injEq,true_and] at h;subst h;exact ⟨_,q,_,rfl,as2 H r q k a n (by simpa using J) (λi s v O Z=>o (i+1) s v (by simpa using O) (by simpa using Z)) hf,.int⟩
   ·cases h
 ·cases h
theorem aem (J:WRel Γ D ow μ st w) (H:∀ x,SRep Γ.P D w ow μ st (ρ x) (η x)) (o:Oper)
 (ab:∀ c x y,o.op=.pick c x y->(η c=.bool true->SRep Γ.P D w ow μ st (ρt x) (η x))/\(η c=.bool false->SRep Γ.P D w ow μ st (ρf y) (η y)))
 (v:SV) (h:ac Γ.P o.op ρ ρt ρf st=.val true v):OpRes Γ D ow μ st w ((execOp η o).run Γ.P w) v st:=by
 cases z:o.op with
 | move x=>
  rw [z] at h;simp only [ac,Ac.val.injEq,true_and] at h;subst h
  exact OpRes.still J (by simp only [execOp,z,Sem.run_pure]) (H x)
 | assign x=>
  rw [z] at h;simp only [ac,Ac.val.injEq,true_and] at h;subst h
  exact OpRes.still J (by simp only [execOp,z,Sem.run_pure]) (H x)
 | pick c x y=>
  rw [z] at h;simp only [ac] at h
  obtain ⟨O,Z⟩:=ab c x y z
  split at h
  ·rename_i b p q hc M hy;simp only [Ac.val.injEq,true_and] at h;subst h;have aa:=H c;rw [hc] at aa;generalize I:η c=cv at aa;cases aa;have ai:(execOp η o).run Γ.P w=.ok (.value (if b then η x else η y)) w:=by
    simp only [execOp,z,I,asBool,Sem.run_bind,Sem.run_pure,Result.andThen_ok]
   rw [ai];cases b with
   | true=>have:=O I;rw [M] at this;exact OpRes.still J rfl this
   | false=>have:=Z I;rw [hy] at this;exact OpRes.still J rfl this
  ·simp at h
 | build T ps=>
  rw [z] at h;simp only [ac] at h
  obtain ⟨q1,q2⟩:=aq3 (Γ:=Γ) H ps
  exact OpRes.lift0 J (asa T _ _ v q1 q2 h) (by simp only [execOp,z])
 | buildSlice T n ps=>
  rw [z] at h;simp only [ac] at h
  obtain ⟨q1,q2⟩:=aq3 (Γ:=Γ) H ps
  obtain ⟨u,w',r1,r2⟩:=ako J T n _ _ v q1 q2 h
  exact OpRes.lift r1 r2 (by simp only [execOp,z])
 | load T a=>
  rw [z] at h;simp only [ac] at h
  exact OpRes.lift0 J (av8 J T _ _ v (H a) h) (by simp only [execOp,z])
 | nilCheck x=>
  rw [z] at h;simp only [ac] at h
  have M:=H x
  split at h
  ·rename_i k p T he;simp only [Ac.val.injEq,true_and] at h;subst h;rw [he] at M;generalize I:η x=cv at M;have h':=M;cases M;exact OpRes.still J (by simp only [execOp,z,I,Sem.run_pure]) h'
  ·rename_i T pv he;simp only [Ac.val.injEq,true_and] at h;subst h;rw [he] at M;generalize I:η x=cv at M;have h':=M;cases M;exact OpRes.still J (by simp only [execOp,z,I,Sem.run_pure]) h'
  ·rename_i f cs he;simp only [Ac.val.injEq,true_and] at h;subst h;rw [he] at M;generalize I:η x=cv at M;have h':=M;cases M;exact OpRes.still J (by simp only [execOp,z,I,Sem.run_pure]) h'
  ·rename_i k T he;simp only [Ac.val.injEq,true_and] at h;subst h;rw [he] at M;generalize I:η x=cv at M;have h':=M;cases M;exact OpRes.still J (by simp only [execOp,z,I,Sem.run_pure]) h'
  ·rename_i k g i E p T he;cases hg:aek st k g with
   | false=>rw [hg] at h;cases h
   | true=>
    rw [hg] at h;simp only [Af,Ac.val.injEq,true_and] at h;subst h;rw [he] at M;generalize I:η x=cv at M;have h':=M;cases M with
    | arefOld hk ae _=>unfold aek at hg;rw [hk] at hg;have:=Aa hg;omega
    | aref=>exact OpRes.still J (by simp only [execOp,z,I,Sem.run_pure]) h'
  ·simp at h
 | binOp b T x y T2=>
  rw [z] at h;simp only [ac] at h
  unfold ald at h
  cases hN:(ayj y&&akz Γ.P T) with
  | false=>
   rw [hN] at h
   exact OpRes.lift0 J (axl T b _ _ _ _ v (H x) (H y) h x y) (by simp only [execOp,z])
  | true=>
   rw [hN] at h
   simp only [Af] at h
   simp only [Ai] at hN
   split at h
   ·rename_i hb;have hy:=H y;rw [hb] at hy;have I:η y=.nilIface:=by
     generalize η y=cv at hy;cases hy with
     | eif O _=>exact O rfl
    have ah:y=.const .nilIface:=by
     have:=hN.1;unfold ayj at this;split at this
     ·rfl
     ·cases this
    subst ah;have:=ass (Γ:=Γ) (D:=D) (w:=w) T b _ _ v (H x) hN.2 h x;rw [<-I] at this;have e:(do eqGuard b T x (.const (η (.const .nilIface))) (η x) (η (.const .nilIface));binOp b T (η x) (η (.const .nilIface)):Sem Value)=(do eqGuard b T x (.const .nilIface) (η x) (η (.const .nilIface));binOp b T (η x) (η (.const .nilIface))):=by rw [I]
    rw [e] at this;exact OpRes.lift0 J this (by simp only [execOp,z])
   ·simp at h
 | unOp u T x=>
  rw [z] at h;simp only [ac] at h
  exact OpRes.lift0 J (a3n u _ _ v (H x) h) (by simp only [execOp,z])
 | convert s d x=>
  rw [z] at h;simp only [ac] at h
  exact OpRes.lift0 J (aqc J s d _ _ v (H x) h) (by simp only [execOp,z])
 | makeFunc fn first cs=>
  rw [z] at h;simp only [ac] at h
  unfold ad6 at h
  split at h
  ·rename_i f;simp only [Ac.val.injEq,true_and] at h;subst h;refine OpRes.still J (u:=.func (.func f) (first.map η) (cs.map η)) (by simp [execOp,z,Instr.makeFunc]) (.fn (by simp) (by simp) (λi s v hi hv=>?_));rw [<-List.map_append,Bf] at hi;rw [<-Array.map_append,Array.getElem?_map] at hv;cases hp:(first++cs)[i]? with
   | none=>rw [hp] at hv;simp at hv
   | some p=>
    have:(first.toList++cs.toList)[i]?=some p:=by rw [<-Array.toList_append,Bp];exact hp
    rw [this] at hi;rw [hp] at hv;simp at hi hv;subst hi;subst hv;exact H p
  ·simp at h
 | slice T x lo hi mx=>
  rw [z] at h;simp only [ac] at h
  refine OpRes.lift0 J (atl T _ _ _ _ _ (lo.map η) (hi.map η) (mx.map η) v (H x) ?_ (by simp) ?_ (by simp) (by simp) h) (by simp only [execOp,z])
  ·intro s u O Z;cases lo with
   | none=>simp at O
   | some l=>simp at O Z;subst O;subst Z;exact H l
  ·intro s u O Z;cases hi with
   | none=>simp at O
   | some l=>simp at O Z;subst O;subst Z;exact H l
 | fieldAddr S x i=>
  rw [z] at h;simp only [ac] at h
  exact OpRes.lift0 J (alq S i _ _ v (H x) h) (by simp only [execOp,z])
 | field S x i=>
  rw [z] at h;simp only [ac] at h
  exact OpRes.lift0 J (asj S i _ _ v (H x) h) (by simp only [execOp,z])
 | indexAddr T x i=>
  rw [z] at h;simp only [ac] at h
  exact OpRes.lift0 J (alu T _ _ _ _ v (H x) (H i) h) (by simp only [execOp,z])
 | index T x i=>
  rw [z] at h;simp only [ac] at h
  exact OpRes.lift0 J (asu T _ _ _ _ v (H x) (H i) h) (by simp only [execOp,z])
 | lookup T m k ok=>
  rw [z] at h;simp only [ac] at h
  exact OpRes.lift0 J (aqx J T _ _ _ _ ok v (H m) (H k) h) (by simp only [execOp,z])
 | extract t i=>
  rw [z] at h;simp only [ac] at h
  have M:=H t
  unfold agw at h
  split at h
  ·rename_i vs he;split at h
   ·rename_i s hs;simp only [Ac.val.injEq,true_and] at h;subst h;rw [he] at M;generalize I:η t=cv at M;cases M with
    | @tup _ us ag ad=>
     have ae:i<us.size:=by rw [ag];exact (List.getElem?_eq_some_iff.1 hs).1
     have hu:us[i]?=some us[i]:=Array.getElem?_eq_getElem ae;exact OpRes.still J (u:=us[i]) (by simp [execOp,z,I,Instr.extract,hu]) (ad i _ _ hs hu)
   ·simp at h
  ·rename_i b p c he;rw [he] at M;generalize I:η t=cv at M;cases M with
   | nx O Z=>
    split at h
    ·simp only [Ac.val.injEq,true_and] at h;subst h;cases b with
     | true=>have:=O rfl;subst this;exact OpRes.still J (u:=.bool true) (by simp [execOp,z,I,Instr.extract]) .bool
     | false=>have:=Z rfl;subst this;exact OpRes.still J (u:=.bool false) (by simp [execOp,z,I,Instr.extract]) .bool
    ·simp only [Ac.val.injEq] at h;obtain ⟨hb,rfl⟩:=h;have:=O hb;subst this;exact OpRes.still J (u:=.int .i64 p) (by simp [execOp,z,I,Instr.extract]) .int
    ·simp only [Ac.val.injEq] at h;obtain ⟨hb,rfl⟩:=h;have:=O hb;subst this;exact OpRes.still J (u:=.int .i32 c) (by simp [execOp,z,I,Instr.extract]) .int
    ·cases h
  ·simp at h
 | call c=>
  rw [z] at h
  simp only [ac] at h
  unfold ah0 at h
  split at h
  ·simp at h
  ·split at h<;>simp at h
  ·rename_i hc;split at h
   ·rename_i x T M hT;have ha:c.args=#[x]:=by rw [<-Array.toArray_toList (xs:=c.args),M]
    have af:c.argTypes=#[T]:=by rw [<-Array.toArray_toList (xs:=c.argTypes),hT]
    refine OpRes.lift0 J (ayy J T _ _ v (H x) h o.type) ?_;simp [execOp,z,resolve,hc,invoke,builtin,ha,af]
   ·simp at h
  ·split at h
   ·exact absurd h (aqa (akn _ _ _ _ _ _ _))
   ·simp at h
  ·rename_i hc;obtain ⟨x,q,u,e1,e2,e3⟩:=aki (Γ:=Γ) (D:=D) (w:=w) (ow:=ow) (μ:=μ) (st:=st) false _ (c.args.map η).toList (by simp) (λi s u O Z=>by
    rw [Bf] at O;rw [Array.toList_map,Bf] at Z;cases hp:c.args.toList[i]? with
    | none=>rw [hp] at O;cases O
    | some p=>rw [hp] at O Z;cases O;cases Z;exact H p) v h
   refine OpRes.lift0 J ⟨u,e2,e3⟩ ?_;simp only [execOp,z,resolve,hc,invoke,builtin,Builtin.min_,Sem.run_bind,Sem.run_pure,Result.andThen_ok,e1];simp
  ·rename_i hc;obtain ⟨x,q,u,e1,e2,e3⟩:=aki (Γ:=Γ) (D:=D) (w:=w) (ow:=ow) (μ:=μ) (st:=st) true _ (c.args.map η).toList (by simp) (λi s u O Z=>by
    rw [Bf] at O;rw [Array.toList_map,Bf] at Z;cases hp:c.args.toList[i]? with
    | none=>rw [hp] at O;cases O
    | some p=>rw [hp] at O Z;cases O;cases Z;exact H p) v h
   refine OpRes.lift0 J ⟨u,e2,e3⟩ ?_;simp only [execOp,z,resolve,hc,invoke,builtin,Builtin.max_,Sem.run_bind,Sem.run_pure,Result.andThen_ok,e1];simp
  ·simp at h
 | makeInterface T x=>
  rw [z] at h;simp only [ac,ag2] at h
  split at h
  ·cases h
  ·cases h
  ·rename_i d aj hT;simp only [Ac.val.injEq,true_and] at h;subst h;refine OpRes.lift0 J (s:=Instr.makeInterface T (η x)) ⟨.iface T (η x),?_,.ifc (H x)⟩ (by simp only [execOp,z]);unfold Instr.makeInterface;simp only [Sem.run_bind,run_underlying hT,Result.andThen_ok];exact Sem.run_pure ..
 | panic x=>rw [z] at h;simp only [ac,amb] at h;split at h<;>simp at h
 | alloc T=>
  rw [z] at h;simp only [ac,agp,Ax] at h;repeat' split at h
  all_goals cases h
 | box T x=>
  rw [z] at h;simp only [ac,ap6,Ax] at h;repeat' split at h
  all_goals cases h
 | makeSlice T n c=>
  rw [z] at h;simp only [ac,ac0,aeh,Ax] at h;repeat' split at h
  all_goals cases h
 | store T a x=>rw [z] at h;simp only [ac] at h;exact absurd h (amr _ _ _ _ _ _)
 | insert T m k x=>rw [z] at h;simp only [ac] at h;exact absurd h (aei _ _ _ _ _ _ _)
 | mapUpdate T m k x=>rw [z] at h;simp only [ac] at h;exact absurd h (aei _ _ _ _ _ _ _)
 | makeMap T r=>rw [z] at h;simp only [ac] at h;unfold adk at h;split at h<;>simp at h
 | range T x=>rw [z] at h;simp only [ac] at h;unfold aig at h;split at h<;>first | (simp at h;done) | (simp only [Ax] at h;split at h<;>simp at h)
 | next x b=>
  rw [z] at h;simp only [ac] at h;unfold al7 at h;repeat' split at h
  all_goals simp at h
 | _=>rw [z] at h;simp [ac] at h
end
end Go.Ab
namespace Go.Ab
open Go
section
variable {Γ:Ctx}{D:Dom}{ow:Own}{μ:Nat->Nat}{st:List BX}{w:World}{η:Operand->Value}{ρ ρt ρf:Operand->SV}
def aby (x:Ac):Prop:=∀ c v s,x≠.upd c v s
def aw8 (x:Ac):Prop:=∀ f h,x≠.call f h
theorem aar {c:Bool}{v:SV}:aby (.val c v):=λ_ _ _ h=>by cases h
theorem aal:aby .fail:=λ_ _ _ h=>by cases h
theorem a1r (h:BinOp) (k:IntKind) (x y:Int):aby (av2 h k x y):=by cases h<;>first | exact aar | exact aal
theorem a3e (h:BinOp) (x y:Bq):aby (awv h x y):=by cases h<;>first | exact aar | exact aal
theorem axo (h:BinOp) (x y:Bool):aby (ank h x y):=by cases h<;>first | exact aar | exact aal
theorem ab0 {b:Bool}{x:Ac} (h:aby x):aby (bif b then x else .fail):=by cases b;exact aal;exact h
theorem a06 {b:Bool}{x:Ac} (h:aby x):aby (bif b then .fail else x):=by cases b;exact h;exact aal
theorem as5 (o:BinOp) (x:SV):aby (af0 o x):=by
 unfold af0;repeat' split
 all_goals (intro c v st' h;simp at h)
theorem att (P:Program) (h:BinOp) (T:TypeId) (x y:SV):aby (ad0 P h T x y):=by
 unfold ad0;split
 ·refine ab0 ?_;split<;>first | exact aar | exact aal
 ·exact aal
theorem atr (P:Program) (o:BinOp) (T:TypeId) (x y:SV):aw8 (ad0 P o T x y):=by
 unfold ad0;intro f z h;simp only [Ax] at h;repeat' split at h
 all_goals cases h
theorem a0w (P:Program) (h:BinOp) (T:TypeId) (x y:SV):aby (ar5 P h T x y):=by
 unfold ar5;split
 ·split
  ·exact aar
  ·exact aar
  ·exact ab0 (a1r _ _ _ _)
 ·exact a3e _ _ _
 ·exact ab0 (axo _ _ _)
 ·exact ab0 (by cases h<;>first | exact aar | exact aal)
 ·exact ab0 (by cases h<;>first | exact aar | exact aal)
 ·exact att _ _ _ _ _
theorem a6t (h:UnOp) (x:SV):aby (unAc h x):=by unfold unAc;split<;>first | exact aar | exact aal
theorem axt (P:Program) (s d:TypeId) (x:SV):aby (ali P s d x):=by unfold ali;refine ab0 ?_;split<;>first | exact aar | exact aal | exact ab0 aar
theorem ase (P:Program) (st:List BX) (s d:TypeId) (x:SV):aby (aeo P st s d x):=by
 unfold aeo;split
 ·split
  ·exact ab0 aar
  ·exact aal
 ·exact axt _ _ _ _
theorem ave (P:Program) (T:TypeId) (h:List (Nat×SV)):aby (ah7 P T h):=by
 unfold ah7;split
 ·exact ab0 aar
 ·refine ab0 ?_;split<;>first | exact aar | exact aal
 ·exact aal
theorem ale (P:Program) (T:TypeId) (n:Nat) (h:List (Nat×SV)):aby (acn P T n h):=by
 unfold acn;split
 ·exact ab0 aar
 ·exact aal
theorem ay3 (P:Program) (T:TypeId) (st:List BX) (a:SV):aby (acj P T st a):=by
 intro c v s h;unfold acj at h;simp only [Ax] at h;repeat' split at h
 all_goals cases h
theorem am2 (P:Program) (st:List BX) (S:TypeId) (i:Nat) (a:SV):aby (acp P st S i a):=by
 unfold acp;split
 ·split
  ·refine a06 ?_;split<;>first | exact ab0 aar | exact aal
  ·exact aal
 ·exact aal
theorem avp (P:Program) (S:TypeId) (i:Nat) (a:SV):aby (aib P S i a):=by
 unfold aib;split
 ·split
  ·refine ab0 ?_;split
   ·exact ab0 aar
   ·refine ab0 ?_;split<;>first | exact aar | exact aal
   ·exact aal
  ·exact aal
 ·exact aal
theorem am3 (P:Program) (T:TypeId) (st:List BX) (x i:SV):aby (acr P T st x i):=by
 intro c v s h;unfold acr at h;simp only [Ax] at h;repeat' split at h
 all_goals cases h
theorem av0 (P:Program) (T:TypeId) (x i:SV):aby (aie P T x i):=by unfold aie;split<;>first | exact aar | exact ab0 aar | exact aal
theorem awq (P:Program) (T:TypeId) (x:SV) (o h z:Option SV):aby (aij P T x o h z):=by
 unfold aij;split
 ·exact aal
 ·split
  ·exact aar
  ·split
   ·split<;>first | exact aar | exact aal
   ·split
    ·split<;>first | exact ab0 aar | exact aal
    ·exact aal
   ·exact aal
theorem asx (P:Program) (T:TypeId) (st:List BX) (m k:SV) (h:Bool):aby (aet P T st m k h):=by
 unfold aet;split
 ·refine ab0 ?_;split
  ·exact ab0 aar
  ·split
   ·exact ab0 aar
   ·exact aal
  ·exact aal
 ·exact aal
theorem a1z (P:Program) (T:TypeId) (st:List BX) (x:SV):aby (ao3 P T st x):=by unfold ao3;split<;>first | exact aar | exact aal | (split<;>first | exact aar | exact aal)
theorem al6 (h:Bool) (o:List SV):aby (adh h o):=by
 unfold adh;split
 ·split<;>first | exact aar | exact aal
 ·exact aal
theorem al4 (o:Bool) (z:List SV):aw8 (adh o z):=by
 unfold adh;intro f H h;split at h
 ·split at h<;>cases h
 ·cases h
theorem ao6 (fn:Fn) (first cs:List SV):aby (ad6 fn first cs):=by unfold ad6;split<;>first | exact aar | exact aal
theorem a07 {b:Bool}{x:Ac}{v:SV}{s:List BX} (h:(bif b then x else .fail)=.upd true v s):b=true/\x=.upd true v s:=by
 cases b
 ·simp at h
 ·exact ⟨rfl,h⟩
theorem akd (M:WRel Γ D ow μ st w) (H:∀ x,SRep Γ.P D w ow μ st (ρ x) (η x)) (o:Oper) (v:SV) (st':List BX) (h:ac Γ.P o.op ρ ρt ρf st=.upd true v st'):OpRes Γ D ow μ st w ((execOp η o).run Γ.P w) v st':=by
 cases z:o.op with
 | alloc T=>rw [z] at h;simp only [ac] at h;obtain ⟨u,w',I,J⟩:=ar0 M T h;exact OpRes.lift I J (by simp only [execOp,z])
 | box T x=>rw [z] at h;simp only [ac] at h;obtain ⟨u,w',I,J⟩:=ar8 M T _ _ (H x) h;exact OpRes.lift I J (by simp only [execOp,z])
 | makeSlice T n c=>
  rw [z] at h;simp only [ac] at h;cases hz:aym n with
  | true=>rw [hz] at h;simp only [Af] at h;obtain ⟨u,w',I,J⟩:=al3 M T _ _ _ _ v st' (H n) (H c) h;exact OpRes.lift I J (by simp only [execOp,z])
  | false=>rw [hz] at h;simp only [Ah] at h;obtain ⟨u,w',I,J⟩:=ao8 M T _ _ _ _ v st' (H n) (H c) h;exact OpRes.lift I J (by simp only [execOp,z])
 | store T a x=>rw [z] at h;simp only [ac] at h;obtain ⟨w',I,J⟩:=ato M T _ _ _ _ v st' (H a) (H x) h;exact OpRes.liftU I J (by simp only [execOp,z])
 | insert T m k x=>rw [z] at h;simp only [ac] at h;obtain ⟨w',I,J⟩:=ag3 M T _ _ _ _ _ _ v st' (H m) (H k) (H x) h;exact OpRes.liftU I J (by simp only [execOp,z])
 | mapUpdate T m k x=>rw [z] at h;simp only [ac] at h;obtain ⟨w',I,J⟩:=ag3 M T _ _ _ _ _ _ v st' (H m) (H k) (H x) h;exact OpRes.liftU I J (by simp only [execOp,z])
 | makeMap T r=>
  rw [z] at h;simp only [ac] at h;unfold adk at h;split at h
  ·rename_i K E Z;simp only [Ac.upd.injEq,true_and] at h;obtain ⟨rfl,rfl⟩:=h;obtain ⟨u,w',I,J⟩:=ao7 M T K E;exact OpRes.lift I J (by simp only [execOp,z];rfl)
  ·simp at h
 | call c=>
  rw [z] at h;simp only [ac] at h;unfold ah0 at h;split at h
  ·simp at h
  ·split at h<;>simp at h
  ·split at h
   ·exact absurd h (a1z _ _ _ _ _ _ _)
   ·simp at h
  ·rename_i hc;split at h
   ·rename_i x y T T' hx Z;obtain ⟨h1,h2⟩:=a07 h;have:=Aa h1;subst this;have ha:c.args=#[x,y]:=by rw [<-Array.toArray_toList (xs:=c.args),hx]
    have O:c.argTypes=#[T,T]:=by rw [<-Array.toArray_toList (xs:=c.argTypes),Z]
    obtain ⟨u,w',I,J⟩:=ap2 M T o.type _ _ _ _ v st' (H x) (H y) h2;refine OpRes.lift I J ?_;simp [execOp,z,resolve,hc,invoke,builtin,ha,O]
   ·simp at h
  ·exact absurd h (al6 _ _ _ _ _)
  ·exact absurd h (al6 _ _ _ _ _)
  ·simp at h
 | move x=>rw [z] at h;simp [ac] at h
 | assign x=>rw [z] at h;simp [ac] at h
 | pick c x y=>rw [z] at h;simp only [ac] at h;split at h<;>simp at h
 | build T ps=>rw [z] at h;exact absurd h (ave _ _ _ _ _ _)
 | buildSlice T n ps=>rw [z] at h;exact absurd h (ale _ _ _ _ _ _ _)
 | load T a=>rw [z] at h;exact absurd h (ay3 _ _ _ _ _ _ _)
 | nilCheck x=>
  rw [z] at h;simp only [ac,Ax] at h;repeat' split at h
  all_goals cases h
 | binOp b T x y T2=>
  rw [z] at h;simp only [ac,ald,Ax] at h;split at h
  ·split at h
   ·exact absurd h (as5 _ _ _ _ _)
   ·simp at h
  ·exact absurd h (a0w _ _ _ _ _ _ _ _)
 | unOp u T x=>rw [z] at h;exact absurd h (a6t _ _ _ _ _)
 | convert s d x=>rw [z] at h;exact absurd h (ase _ _ _ _ _ _ _ _)
 | makeFunc fn first cs=>rw [z] at h;exact absurd h (ao6 _ _ _ _ _ _)
 | slice T x lo hi mx=>rw [z] at h;exact absurd h (awq _ _ _ _ _ _ _ _ _)
 | fieldAddr S x i=>rw [z] at h;exact absurd h (am2 _ _ _ _ _ _ _ _)
 | field S x i=>rw [z] at h;exact absurd h (avp _ _ _ _ _ _ _)
 | indexAddr T x i=>rw [z] at h;exact absurd h (am3 _ _ _ _ _ _ _ _)
 | index T x i=>rw [z] at h;exact absurd h (av0 _ _ _ _ _ _ _)
 | lookup T m k ok=>rw [z] at h;exact absurd h (asx _ _ _ _ _ _ _ _ _)
 | extract t i=>rw [z] at h;simp only [ac] at h;unfold agw at h;split at h<;>first | (simp at h;done) | (split at h<;>simp at h)
 | range T x=>rw [z] at h;simp only [ac] at h;obtain ⟨u,w',I,J⟩:=as7 M T _ _ v st' (H x) h;exact OpRes.lift I J (by simp only [execOp,z])
 | next x b=>rw [z] at h;simp only [ac] at h;obtain ⟨u,w',I,J⟩:=awe M _ _ b o.type v st' (H x) h;exact OpRes.lift I J (by simp only [execOp,z])
 | makeInterface T x=>rw [z] at h;simp only [ac,ag2] at h;split at h<;>simp at h
 | panic x=>rw [z] at h;simp only [ac,amb] at h;split at h<;>simp at h
 | _=>rw [z] at h;simp [ac] at h
theorem ab5 (ad:∀ x,SRep Γ.P D w ow μ st (ρ x) (η x)) (ag:∀ f,η (.func f)=.func (.func f) #[] #[]) (o:Oper) (f:FuncId) (args:List SV) (h:ac Γ.P o.op ρ ρt ρf st=.call f args):
 ∃ M:Array Value,(execOp η o).run Γ.P w=(callFunc f M).run Γ.P w/\M.size=args.length/\∀ (i:Nat) (s:SV) (v:Value),args[i]?=some s->M[i]?=some v->SRep Γ.P D w ow μ st s v:=by
 have I:∀ xs:Array Operand,∀ (i:Nat) (s:SV) (v:Value),(xs.toList.map ρ)[i]?=some s->(xs.map η)[i]?=some v->SRep Γ.P D w ow μ st s v:=by
  intro xs i s v J H;rw [Bf] at J;rw [Array.getElem?_map] at H;cases hp:xs[i]? with
  | none=>rw [hp] at H;simp at H
  | some p=>
   have:xs.toList[i]?=some p:=by simpa using hp
   rw [this] at J;rw [hp] at H;simp at J H;subst J;subst H;exact ad p
 cases z:o.op with
 | call c=>
  rw [z] at h;simp only [ac] at h
  unfold ah0 at h
  split at h
  ·rename_i g hc;simp only [Ac.call.injEq] at h;obtain ⟨rfl,rfl⟩:=h;refine ⟨c.args.map η,?_,by simp,I c.args⟩;simp [execOp,z,resolve,hc,ag,Deferred.ofValue,invoke]
  ·rename_i x ai hc;have hx:=ad x;split at h
   ·rename_i g n caps he;simp only [Ac.call.injEq] at h;obtain ⟨rfl,rfl⟩:=h;rw [he] at hx;generalize ae:η x=cv at hx;cases hx with
    | @fn _ _ _ Z vs hn ab O=>
     have ah:n<=caps.length:=by rw [<-ab,<-hn];simp
     have af:(caps.take n).length=Z.size:=by rw [List.length_take,hn];omega
     refine ⟨Z++c.args.map η++vs,?_,by simp at ab ⊢;omega,λi s v J H=>?_⟩
     ·simp [execOp,z,resolve,hc,ae,Deferred.ofValue,invoke]
     ·rw [Array.append_assoc] at H;by_cases hi:i<Z.size
      ·rw [Au (by omega),List.getElem?_take_of_lt (by omega)] at J;rw [Array.getElem?_append_left hi] at H;exact O i s v J (by rw [Array.getElem?_append_left hi];exact H)
      ·rw [Av (by omega),af] at J;rw [Array.getElem?_append_right (by omega)] at H;by_cases aa:i-Z.size<c.args.size
       ·rw [Au (by simpa using aa)] at J;rw [Array.getElem?_append_left (by simpa using aa)] at H;exact I c.args _ s v J H
       ·rw [Av (by simp;omega),List.getElem?_drop] at J;rw [Array.getElem?_append_right (by simp;omega)] at H;simp only [List.length_map,Array.length_toList,Array.size_map] at J H;refine O _ s v J ?_;rw [Array.getElem?_append_right (by omega)];rw [show n+(i-Z.size-c.args.size)-Z.size=i-Z.size-c.args.size by omega];exact H
   ·simp at h
  ·split at h
   ·unfold ao3 at h;split at h<;>first | (simp at h;done) | (split at h<;>simp at h)
   ·simp at h
  ·split at h
   ·simp only [Ax] at h;split at h
    ·unfold acw at h;simp only [Ax] at h;repeat' split at h
     all_goals simp at h
    ·simp at h
   ·simp at h
  ·exact absurd h (al4 _ _ _ _)
  ·exact absurd h (al4 _ _ _ _)
  ·simp at h
 | move x=>rw [z] at h;simp [ac] at h
 | assign x=>rw [z] at h;simp [ac] at h
 | pick c x y=>rw [z] at h;simp only [ac] at h;split at h<;>simp at h
 | alloc T=>
  rw [z] at h;simp only [ac,agp,Ax] at h;repeat' split at h
  all_goals cases h
 | box T x=>
  rw [z] at h;simp only [ac,ap6,Ax] at h;repeat' split at h
  all_goals cases h
 | makeSlice T n c=>
  rw [z] at h;simp only [ac,ac0,aeh,Ax] at h;repeat' split at h
  all_goals cases h
 | store T a x=>
  rw [z] at h;simp only [ac,adu,Ax] at h;repeat' split at h
  all_goals simp at h
 | insert T m k x=>
  rw [z] at h;simp only [ac,abq,Ax] at h;repeat' split at h
  all_goals simp at h
 | mapUpdate T m k x=>
  rw [z] at h;simp only [ac,abq,Ax] at h;repeat' split at h
  all_goals simp at h
 | makeMap T r=>rw [z] at h;simp only [ac,adk] at h;split at h<;>simp at h
 | build T ps=>
  rw [z] at h;simp only [ac,ah7,Ax] at h;repeat' split at h
  all_goals simp at h
 | buildSlice T n ps=>
  rw [z] at h;simp only [ac,acn,Ax] at h;repeat' split at h
  all_goals simp at h
 | load T a=>
  rw [z] at h;simp only [ac,acj,Ax] at h;repeat' split at h
  all_goals simp at h
 | nilCheck x=>
  rw [z] at h;simp only [ac,Ax] at h;repeat' split at h
  all_goals cases h
 | binOp b T x y T2=>
  rw [z] at h;simp only [ac,ald,af0,ar5,Ax] at h;repeat' split at h
  all_goals first
   | (exact absurd h (atr _ _ _ _ _ _ _))
   | (simp at h;done)
   | (cases b<;>simp [av2] at h;done)
   | (cases b<;>simp [awv] at h;done)
   | (cases b<;>simp [ank] at h;done)
   | (cases b<;>simp [ad8] at h;done)
 | unOp u T x=>
  rw [z] at h;simp only [ac,unAc] at h;repeat' split at h
  all_goals simp at h
 | convert s d x=>
  rw [z] at h;simp only [ac,aeo,ali,Ax] at h;repeat' split at h
  all_goals simp at h
 | makeFunc fn first cs=>rw [z] at h;simp only [ac,ad6] at h;split at h<;>simp at h
 | slice T x lo hi mx=>
  rw [z] at h;simp only [ac,aij,Ax] at h;repeat' split at h
  all_goals simp at h
 | fieldAddr S x i=>
  rw [z] at h;simp only [ac,acp,Ax] at h;repeat' split at h
  all_goals simp at h
 | field S x i=>
  rw [z] at h;simp only [ac,aib,Ax] at h;repeat' split at h
  all_goals simp at h
 | indexAddr T x i=>
  rw [z] at h;simp only [ac,acr,Ax] at h;repeat' split at h
  all_goals simp at h
 | index T x i=>
  rw [z] at h;simp only [ac,aie,Ax] at h;repeat' split at h
  all_goals simp at h
 | lookup T m k ok=>
  rw [z] at h;simp only [ac,aet,Ax] at h;repeat' split at h
  all_goals simp at h
 | extract t i=>rw [z] at h;simp only [ac] at h;unfold agw at h;split at h<;>first | (simp at h;done) | (split at h<;>simp at h)
 | range T x=>rw [z] at h;simp only [ac] at h;unfold aig at h;split at h<;>first | (simp at h;done) | (simp only [Ax] at h;split at h<;>simp at h)
 | next x b=>
  rw [z] at h;simp only [ac] at h;unfold al7 at h;repeat' split at h
  all_goals simp at h
 | makeInterface T x=>rw [z] at h;simp only [ac,ag2] at h;split at h<;>simp at h
 | panic x=>rw [z] at h;simp only [ac,amb] at h;split at h<;>simp at h
 | _=>rw [z] at h;simp [ac] at h
theorem ats (P:Program) (h:BinOp) (T:TypeId) (x y:SV) (v:SV):ad0 P h T x y≠.pan v:=by
 unfold ad0;simp only [Ax];repeat' split
 all_goals simp
theorem al5 (h:Bool) (o:List SV) (v:SV):adh h o≠.pan v:=by
 unfold adh;split
 ·split<;>simp
 ·simp
theorem apz (J:∀ x,SRep Γ.P D w ow μ st (ρ x) (η x)) (o:Oper) (s:SV) (h:ac Γ.P o.op ρ ρt ρf st=.pan s):∃ u,(execOp η o).run Γ.P w=.halt (.panic u) w/\SRep Γ.P D w ow μ st s u:=by
 cases z:o.op with
 | panic x=>
  rw [z] at h;simp only [ac,amb] at h;split at h
  ·rename_i T y O;simp only [Ac.pan.injEq] at h;subst h;have H:=J x;rw [O] at H;generalize I:η x=M at H;refine ⟨M,?_,H⟩;cases H with
   | ifc H=>simp [execOp,z,I,Instr.panic,goPanic]
  ·cases h
 | call c=>
  rw [z] at h;simp only [ac] at h;unfold ah0 at h;split at h
  ·cases h
  ·split at h<;>cases h
  ·split at h
   ·unfold ao3 at h;split at h<;>first | (simp at h;done) | (split at h<;>simp at h)
   ·cases h
  ·split at h
   ·simp only [Ax] at h;split at h
    ·unfold acw at h;simp only [Ax] at h;repeat' split at h
     all_goals cases h
    ·cases h
   ·cases h
  ·exact absurd h (al5 _ _ _)
  ·exact absurd h (al5 _ _ _)
  ·cases h
 | move x=>rw [z] at h;simp [ac] at h
 | assign x=>rw [z] at h;simp [ac] at h
 | pick c x y=>rw [z] at h;simp only [ac] at h;split at h<;>simp at h
 | alloc T=>
  rw [z] at h;simp only [ac,agp,Ax] at h;repeat' split at h
  all_goals cases h
 | box T x=>
  rw [z] at h;simp only [ac,ap6,Ax] at h;repeat' split at h
  all_goals cases h
 | makeSlice T n c=>
  rw [z] at h;simp only [ac,ac0,aeh,Ax] at h;repeat' split at h
  all_goals cases h
 | store T a x=>
  rw [z] at h;simp only [ac,adu,Ax] at h;repeat' split at h
  all_goals simp at h
 | insert T m k x=>
  rw [z] at h;simp only [ac,abq,Ax] at h;repeat' split at h
  all_goals simp at h
 | mapUpdate T m k x=>
  rw [z] at h;simp only [ac,abq,Ax] at h;repeat' split at h
  all_goals simp at h
 | makeMap T r=>rw [z] at h;simp only [ac,adk] at h;split at h<;>simp at h
 | build T Z=>
  rw [z] at h;simp only [ac,ah7,Ax] at h;repeat' split at h
  all_goals simp at h
 | buildSlice T n Z=>
  rw [z] at h;simp only [ac,acn,Ax] at h;repeat' split at h
  all_goals simp at h
 | load T a=>
  rw [z] at h;simp only [ac,acj,Ax] at h;repeat' split at h
  all_goals simp at h
 | nilCheck x=>
  rw [z] at h;simp only [ac,Ax] at h;repeat' split at h
  all_goals cases h
 | binOp b T x y T2=>
  rw [z] at h;simp only [ac,ald,af0,ar5,Ax] at h;repeat' split at h
  all_goals first
   | (exact absurd h (ats _ _ _ _ _ _))
   | (simp at h;done)
   | (cases b<;>simp [av2] at h;done)
   | (cases b<;>simp [awv] at h;done)
   | (cases b<;>simp [ank] at h;done)
   | (cases b<;>simp [ad8] at h;done)
 | unOp u T x=>
  rw [z] at h;simp only [ac,unAc] at h;repeat' split at h
  all_goals simp at h
 | convert s d x=>
  rw [z] at h;simp only [ac,aeo,ali,Ax] at h;repeat' split at h
  all_goals simp at h
 | makeFunc fn first cs=>rw [z] at h;simp only [ac,ad6] at h;split at h<;>simp at h
 | slice T x lo hi mx=>
  rw [z] at h;simp only [ac,aij,Ax] at h;repeat' split at h
  all_goals simp at h
 | fieldAddr S x i=>
  rw [z] at h;simp only [ac,acp,Ax] at h;repeat' split at h
  all_goals simp at h
 | field S x i=>
  rw [z] at h;simp only [ac,aib,Ax] at h;repeat' split at h
  all_goals simp at h
 | indexAddr T x i=>
  rw [z] at h;simp only [ac,acr,Ax] at h;repeat' split at h
  all_goals simp at h
 | index T x i=>
  rw [z] at h;simp only [ac,aie,Ax] at h;repeat' split at h
  all_goals simp at h
 | lookup T m k ok=>
  rw [z] at h;simp only [ac,aet,Ax] at h;repeat' split at h
  all_goals simp at h
 | extract t i=>rw [z] at h;simp only [ac] at h;unfold agw at h;split at h<;>first | (simp at h;done) | (split at h<;>simp at h)
 | range T x=>rw [z] at h;simp only [ac] at h;unfold aig at h;split at h<;>first | (simp at h;done) | (simp only [Ax] at h;split at h<;>simp at h)
 | next x b=>
  rw [z] at h;simp only [ac] at h;unfold al7 at h;repeat' split at h
  all_goals simp at h
 | makeInterface T x=>rw [z] at h;simp only [ac,ag2] at h;split at h<;>simp at h
 | _=>rw [z] at h;simp [ac] at h
end
end Go.Ab
