/- One operation: what the evaluator says of it, the model does. -/
import Derived.Test.YtodichgnoiaanaaGreatDoorAbBuild
set_option linter.unusedVariables false
set_option linter.unusedSimpArgs false
set_option linter.unnecessarySimpa false
namespace Go.Ab
open Go
section
variable {Γ:Ctx}{D:Dom}{ow:Own}{μ:Nat->Nat}{st:List BX}{w:World}{η:Operand->Value}{ρ ρt ρf:Operand->SV}
theorem OpRes.lift {r:Result Next}{v:SV}{st':List BX}{s:Sem Value}{u:Value}{w':World} (z:s.run Γ.P w=.ok u w') (h:OpRes Γ D ow μ st w (.ok (.value u) w') v st') (o:r=(do pure (.value (<-s)):Sem Next).run Γ.P w):OpRes Γ D ow μ st w r v st':=by grind [Sem.run_bind,Result.andThen_ok,Sem.run_pure]
theorem OpRes.lift0 (I:WRel Γ D ow μ st w) {r:Result Next}{v:SV}{s:Sem Value} (h:∃ u,s.run Γ.P w=.ok u w/\SRep Γ.P D w ow μ st v u) (H:r=(do pure (.value (<-s)):Sem Next).run Γ.P w):OpRes Γ D ow μ st w r v st:=by obtain ⟨u,o,z⟩:=h;exact OpRes.lift o (OpRes.still I rfl z) H
theorem OpRes.liftU {r:Result Next}{v:SV}{st':List BX}{s:Sem Unit}{w':World} (z:s.run Γ.P w=.ok () w') (h:OpRes Γ D ow μ st w (.ok .skip w') v st') (o:r=(do s;pure .skip:Sem Next).run Γ.P w):OpRes Γ D ow μ st w r v st':=by grind [Sem.run_bind,Result.andThen_ok,Sem.run_pure]
theorem atf {b:Bool}{x:Ac}{v:SV} (h:x≠.val true v):(bif b then x else .fail)≠.val true v:=by grind
theorem amn (P:Program) (st:List BX) (T:TypeId) (x y:SV) (c:Bool) (v:SV):acn P st T x y≠.val c v:=by unfold acn;grind
theorem amo (P:Program) (st:List BX) (T:TypeId) (x y:SV) (c:Bool) (v:SV):acb P st T x y≠.val c v:=by unfold acb;intro h;simp only [Ar] at h;grind [amn]
theorem anr (P:Program) (st:List BX) (T:TypeId) (x:SV) (c:Bool) (v:SV):ae4 P st T x≠.val c v:=by unfold ae4;grind
theorem afc (P:Program) (T:TypeId) (st:List BX) (a x:SV) (v:SV):adz P T st a x≠.val true v:=by unfold adz;grind
theorem ao8 (P:Program) (T:TypeId) (st:List BX) (a x:SV) (v:SV):aeb P T st a x≠.val true v:=by
 intro h;unfold aeb at h;split at h
 ·split at h
  ·split at h
   ·simp only [Ar] at h;grind [afc]
   ·cases h
  grind [afc]
 grind [afc]
theorem ae9 (P:Program) (T:TypeId) (st:List BX) (m k x:SV) (v:SV):abv P T st m k x≠.val true v:=by unfold abv;grind
theorem akk (P:Program) (T:TypeId) (st:List BX) (m k:SV) (v:SV):ab9 P T st m k≠.val true v:=by unfold ab9;grind
theorem aiz (P:Program) (T:TypeId) (st:List BX) (m k x:SV) (v:SV):aby P T st m k x≠.val true v:=by unfold aby;grind
theorem aup (o:∀ x,SRep Γ.P D w ow μ st (ρ x) (η x)) (h:Array (Nat×Operand)):(h.toList.map λ(i,x)=>(i,ρ x)).length=(h.map λ(i,x)=>(i,η x)).size/\
 ∀ (n i:Nat) (s:SV) (j:Nat) (u:Value),(h.toList.map λ(i,x)=>(i,ρ x))[n]?=some (i,s)->(h.map λ(i,x)=>(i,η x))[n]?=some (j,u)->i=j/\SRep Γ.P D w ow μ st s u:=by
 grind
theorem awz (I:Bool):∀ (ss:List SV) (z:List Value) (k:IntKind) (a n:Int),ss.length=z.length->(∀ (i:Nat) (s:SV) (u:Value),ss[i]?=some s->z[i]?=some u->SRep Γ.P D w ow μ st s u)->aii I a ss=some n->
 (z.foldlM (if I then Builtin.max2 else Builtin.min2) (.int k a):Sem Value).run Γ.P w=.ok (.int k n) w:=by
 intro ss
 induction ss with
 | nil=>
  intro z k a n H _ h
  have:z=[]:=Ba (by grind)
  subst this
  simp [aii] at h;subst h
  simp
 | cons x r Z=>
  intro z k a n H o h
  cases z with
  | nil=>simp at H
  | cons u q=>
   have J:=o 0 x u rfl rfl
   cases x with
   | int kb b=>
    generalize hu:u=uu at J
    cases J
    simp only [aii] at h
    have:=Z q k _ n (by simpa using H) (λi s v M O=>o (i+1) s v (by simpa using M) (by simpa using O)) h
    cases I
    ·simp only [Ah,A8,Bb] at this ⊢;grind [Builtin.min2]
    ·simp only [Af,A9] at this ⊢;simp only [List.foldlM_cons,Builtin.max2,pure_bind];exact this
   | _=>simp [aii] at h
theorem amg (H:Bool) (ss:List SV) (z:List Value) (I:ss.length=z.length) (o:∀ (i:Nat) (s:SV) (u:Value),ss[i]?=some s->z[i]?=some u->SRep Γ.P D w ow μ st s u) (v:SV) (h:ad1 H ss=.val true v):
 ∃ (x:Value) (q:List Value) (u:Value),z=x::q/\(q.foldlM (if H then Builtin.max2 else Builtin.min2) x:Sem Value).run Γ.P w=.ok u w/\SRep Γ.P D w ow μ st v u:=by
 unfold ad1 at h
 split at h
 ·rename_i k a r;cases z with
  | nil=>simp at I
  | cons x q=>
   have J:=o 0 _ x rfl rfl;generalize hu:x=xx at J;cases J;split at h
   ·rename_i n Z;simp only [Ac.val.injEq,true_and] at h;subst h;exact ⟨_,q,_,rfl,awz H r q k a n (by simpa using I) (λi s v M O=>o (i+1) s v (by simpa using M) (by simpa using O)) Z,.int⟩
   ·cases h
 ·cases h
theorem afe (J:WRel Γ D ow μ st w) (H:∀ x,SRep Γ.P D w ow μ st (ρ x) (η x)) (o:Oper)
 (ab:∀ c x y,o.op=.pick c x y->(η c=.bool true->SRep Γ.P D w ow μ st (ρt x) (η x))/\(η c=.bool false->SRep Γ.P D w ow μ st (ρf y) (η y)))
 (v:SV) (h:ac Γ.P o.op ρ ρt ρf st=.val true v):OpRes Γ D ow μ st w ((execOp η o).run Γ.P w) v st:=by
 cases z:o.op with
 | move x=>
  rw [z] at h;simp only [ac,Ac.val.injEq,true_and] at h;subst h
  exact OpRes.still J (by simp only [execOp,z,Sem.run_pure]) (H x)
 | assign x=>
  rw [z] at h;simp only [ac,Ac.val.injEq,true_and] at h;subst h
  exact OpRes.still J (by simp only [execOp,z,Sem.run_pure]) (H x)
 | pick c x y=>
  rw [z] at h;simp only [ac] at h
  obtain ⟨O,Z⟩:=ab c x y z
  split at h
  ·rename_i b p q hc M hy;simp only [Ac.val.injEq,true_and] at h;subst h;have aa:=H c;rw [hc] at aa;generalize I:η c=cv at aa;cases aa;have ak:(execOp η o).run Γ.P w=.ok (.value (if b then η x else η y)) w:=by
    simp only [execOp,z,I,asBool,Sem.run_bind,Sem.run_pure,Result.andThen_ok]
   rw [ak];cases b with
   | true=>have:=O I;rw [M] at this;exact OpRes.still J rfl this
   | false=>have:=Z I;rw [hy] at this;exact OpRes.still J rfl this
  ·simp at h
 | build T ps=>
  rw [z] at h;simp only [ac] at h
  obtain ⟨q1,q2⟩:=aup (Γ:=Γ) H ps
  exact OpRes.lift0 J (av3 T _ _ v q1 q2 h) (by simp only [execOp,z])
 | buildSlice T n ps=>
  rw [z] at h;simp only [ac] at h
  obtain ⟨q1,q2⟩:=aup (Γ:=Γ) H ps
  obtain ⟨u,w',r1,r2⟩:=amq J T n _ _ v q1 q2 h
  exact OpRes.lift r1 r2 (by simp only [execOp,z])
 | load T a=>
  rw [z] at h;simp only [ac] at h
  exact OpRes.lift0 J (a0j J T _ _ v (H a) h) (by simp only [execOp,z])
 | nilCheck x=>
  rw [z] at h;simp only [ac] at h
  have M:=H x
  split at h
  ·rename_i k p T he;simp only [Ac.val.injEq,true_and] at h;subst h;rw [he] at M;generalize I:η x=cv at M;have h':=M;cases M;exact OpRes.still J (by simp only [execOp,z,I,Sem.run_pure]) h'
  ·rename_i T pv he;simp only [Ac.val.injEq,true_and] at h;subst h;rw [he] at M;generalize I:η x=cv at M;have h':=M;cases M;exact OpRes.still J (by simp only [execOp,z,I,Sem.run_pure]) h'
  ·rename_i f cs he;simp only [Ac.val.injEq,true_and] at h;subst h;rw [he] at M;generalize I:η x=cv at M;have h':=M;cases M;exact OpRes.still J (by simp only [execOp,z,I,Sem.run_pure]) h'
  ·rename_i k T he;simp only [Ac.val.injEq,true_and] at h;subst h;rw [he] at M;generalize I:η x=cv at M;have h':=M;cases M;exact OpRes.still J (by simp only [execOp,z,I,Sem.run_pure]) h'
  ·rename_i k g i E p T he;cases hg:afn st k g with
   | false=>rw [hg] at h;cases h
   | true=>
    rw [hg] at h;simp only [Af,Ac.val.injEq,true_and] at h;subst h;rw [he] at M;generalize I:η x=cv at M;have h':=M;cases M with
    | arefOld hk ag _=>unfold afn at hg;rw [hk] at hg;have:=Ae hg;omega
    | aref=>exact OpRes.still J (by simp only [execOp,z,I,Sem.run_pure]) h'
  ·simp at h
 | binOp b T x y T2=>
  rw [z] at h;simp only [ac] at h
  unfold anm at h
  cases hN:(a3t y&&am2 Γ.P T) with
  | false=>
   rw [hN] at h
   exact OpRes.lift0 J (a2b T b _ _ _ _ v (H x) (H y) h x y) (by simp only [execOp,z])
  | true=>
   rw [hN] at h
   simp only [Af] at h
   simp only [Aj] at hN
   split at h
   ·rename_i hb;have hy:=H y;rw [hb] at hy;have I:η y=.nilIface:=by
     generalize η y=cv at hy;cases hy with
     | eif O _=>exact O rfl
    have aj:y=.const .nilIface:=by
     have:=hN.1;unfold a3t at this;split at this
     ·rfl
     ·cases this
    subst aj;have:=awl (Γ:=Γ) (D:=D) (w:=w) T b _ _ v (H x) hN.2 h x;rw [<-I] at this;have e:(do eqGuard b T x (.const (η (.const .nilIface))) (η x) (η (.const .nilIface));binOp b T (η x) (η (.const .nilIface)):Sem Value)=(do eqGuard b T x (.const .nilIface) (η x) (η (.const .nilIface));binOp b T (η x) (η (.const .nilIface))):=by rw [I]
    rw [e] at this;exact OpRes.lift0 J this (by simp only [execOp,z])
   ·simp at h
 | unOp u T x=>
  rw [z] at h;simp only [ac] at h
  exact OpRes.lift0 J (bas u _ _ v (H x) h) (by simp only [execOp,z])
 | convert s d x=>
  rw [z] at h;simp only [ac] at h
  exact OpRes.lift0 J (ath J s d _ _ v (H x) h) (by simp only [execOp,z])
 | makeFunc fn first cs=>
  rw [z] at h;simp only [ac] at h
  unfold aer at h
  split at h
  ·rename_i f;simp only [Ac.val.injEq,true_and] at h;subst h;refine OpRes.still J (u:=.func (.func f) (first.map η) (cs.map η)) (by simp [execOp,z,Instr.makeFunc]) (.fn (by simp) (by simp) (λi s v hi hv=>?_));rw [<-List.map_append,Bh] at hi;rw [<-Array.map_append,Array.getElem?_map] at hv;cases hp:(first++cs)[i]? with
   | none=>rw [hp] at hv;simp at hv
   | some p=>
    have:(first.toList++cs.toList)[i]?=some p:=by rw [<-Array.toList_append,Array.getElem?_toList];exact hp
    rw [this] at hi;rw [hp] at hv;simp at hi hv;subst hi;subst hv;exact H p
  ·simp at h
 | slice T x lo hi mx=>
  rw [z] at h;simp only [ac] at h
  have af:∀ s u,lo.map ρ=some s->lo.map η=some u->SRep Γ.P D w ow μ st s u:=by
   intro s u O Z;cases lo with
   | none=>simp at O
   | some l=>simp at O Z;subst O;subst Z;exact H l
  cases hv:aze Γ.P T (ρ x) (lo.map ρ) (hi.map ρ) (mx.map ρ) with
  | some r=>
   rw [hv] at h
   simp only [Ac.val.injEq] at h
   obtain ⟨u,O,Z⟩:=a1f T _ _ _ _ _ (lo.map η) (hi.map η) (mx.map η) r (H x) af (by simp) (by simp) (by simp) hv h.1
   rw [h.2] at Z
   exact OpRes.lift0 J ⟨u,O,Z⟩ (by simp only [execOp,z])
  | none=>
  rw [hv] at h
  refine OpRes.lift0 J (ao4 T _ _ _ _ _ (lo.map η) (hi.map η) (mx.map η) v (H x) af (by simp) ?_ (by simp) (by simp) h) (by simp only [execOp,z])
  ·intro s u O Z;cases hi with
   | none=>simp at O
   | some l=>simp at O Z;subst O;subst Z;exact H l
 | fieldAddr S x i=>
  rw [z] at h;simp only [ac] at h
  exact OpRes.lift0 J (an0 S i _ _ v (H x) h) (by simp only [execOp,z])
 | field S x i=>
  rw [z] at h;simp only [ac] at h
  exact OpRes.lift0 J (awe S i _ _ v (H x) h) (by simp only [execOp,z])
 | indexAddr T x i=>
  rw [z] at h;simp only [ac] at h
  cases hp:anj Γ.P T (aru i) (ρ x) (ρ i) with
  | none=>rw [hp] at h;exact OpRes.lift0 J (an6 T _ _ _ _ v (H x) (H i) h) (by simp only [execOp,z])
  | some r=>
   rw [hp] at h
   simp only [Ac.val.injEq] at h
   obtain ⟨u,O,Z⟩:=aq2 T _ _ _ _ _ (H x) (H i) hp
   rw [h.2] at Z
   exact OpRes.lift0 J ⟨u,O,Z⟩ (by simp only [execOp,z])
 | index T x i=>
  rw [z] at h;simp only [ac] at h
  exact OpRes.lift0 J (awm T _ _ _ _ v (H x) (H i) h) (by simp only [execOp,z])
 | lookup T m k ok=>
  rw [z] at h;simp only [ac] at h
  exact OpRes.lift0 J (aud J T _ _ _ _ ok v (H m) (H k) h) (by simp only [execOp,z])
 | extract t i=>
  rw [z] at h;simp only [ac] at h
  have M:=H t
  unfold ahs at h
  split at h
  ·rename_i vs he;split at h
   ·rename_i s hs;simp only [Ac.val.injEq,true_and] at h;subst h;rw [he] at M;generalize I:η t=cv at M;cases M with
    | @tup _ us ai ae=>
     have ag:i<us.size:=by rw [ai];exact (A5.1 hs).1
     have hu:us[i]?=some us[i]:=Array.getElem?_eq_getElem ag;exact OpRes.still J (u:=us[i]) (by simp [execOp,z,I,Instr.extract,hu]) (ae i _ _ hs hu)
   ·simp at h
  ·rename_i b p c he;rw [he] at M;generalize I:η t=cv at M;cases M with
   | nx O Z=>
    split at h
    ·simp only [Ac.val.injEq,true_and] at h;subst h;cases b with
     | true=>have:=O rfl;subst this;exact OpRes.still J (u:=.bool true) (by simp [execOp,z,I,Instr.extract]) .bool
     | false=>have:=Z rfl;subst this;exact OpRes.still J (u:=.bool false) (by simp [execOp,z,I,Instr.extract]) .bool
    ·simp only [Ac.val.injEq] at h;obtain ⟨hb,rfl⟩:=h;have:=O hb;subst this;exact OpRes.still J (u:=.int .i64 p) (by simp [execOp,z,I,Instr.extract]) .int
    ·simp only [Ac.val.injEq] at h;obtain ⟨hb,rfl⟩:=h;have:=O hb;subst this;exact OpRes.still J (u:=.int .i32 c) (by simp [execOp,z,I,Instr.extract]) .int
    ·cases h
  ·simp at h
 | call c=>
  rw [z] at h
  simp only [ac] at h
  unfold ai4 at h
  split at h
  ·simp at h
  ·split at h<;>simp at h
  ·rename_i hc;split at h
   ·rename_i x T M hT;have ha:c.args=#[x]:=by rw [<-Array.toArray_toList (xs:=c.args),M]
    have ah:c.argTypes=#[T]:=by rw [<-Array.toArray_toList (xs:=c.argTypes),hT]
    refine OpRes.lift0 J (a4l J T _ _ v (H x) h o.type) ?_;simp [execOp,z,resolve,hc,invoke,builtin,ha,ah]
   ·simp at h
  ·split at h
   ·exact absurd h (atf (amo _ _ _ _ _ _ _))
   ·simp at h
  ·split at h
   ·exact absurd h (anr _ _ _ _ _ _)
   ·simp at h
  ·rename_i hc;obtain ⟨x,q,u,e1,e2,e3⟩:=amg (Γ:=Γ) (D:=D) (w:=w) (ow:=ow) (μ:=μ) (st:=st) false _ (c.args.map η).toList (by simp) (λi s u O Z=>by
    rw [Bh] at O;rw [Array.toList_map,Bh] at Z;cases hp:c.args.toList[i]? with
    | none=>rw [hp] at O;cases O
    | some p=>rw [hp] at O Z;cases O;cases Z;exact H p) v h
   refine OpRes.lift0 J ⟨u,e2,e3⟩ ?_;simp only [execOp,z,resolve,hc,invoke,builtin,Builtin.min_,Sem.run_bind,Sem.run_pure,Result.andThen_ok,e1];simp
  ·rename_i hc;obtain ⟨x,q,u,e1,e2,e3⟩:=amg (Γ:=Γ) (D:=D) (w:=w) (ow:=ow) (μ:=μ) (st:=st) true _ (c.args.map η).toList (by simp) (λi s u O Z=>by
    rw [Bh] at O;rw [Array.toList_map,Bh] at Z;cases hp:c.args.toList[i]? with
    | none=>rw [hp] at O;cases O
    | some p=>rw [hp] at O Z;cases O;cases Z;exact H p) v h
   refine OpRes.lift0 J ⟨u,e2,e3⟩ ?_;simp only [execOp,z,resolve,hc,invoke,builtin,Builtin.max_,Sem.run_bind,Sem.run_pure,Result.andThen_ok,e1];simp
  ·simp at h
 | makeInterface T x=>
  rw [z] at h;simp only [ac,ahy] at h
  split at h
  ·cases h
  ·cases h
  ·rename_i d an hT;simp only [Ac.val.injEq,true_and] at h;subst h;refine OpRes.lift0 J (s:=Instr.makeInterface T (η x)) ⟨.iface T (η x),?_,.ifc (H x)⟩ (by simp only [execOp,z]);unfold Instr.makeInterface;simp only [Sem.run_bind,run_underlying hT,Result.andThen_ok];exact Sem.run_pure ..
 | panic x=>rw [z] at h;simp only [ac,aom] at h;split at h<;>simp at h
 | alloc T=>
  rw [z] at h;simp only [ac,ahm,Ar] at h;repeat' split at h
  all_goals cases h
 | box T x=>
  rw [z] at h;simp only [ac,ata,Ar] at h;repeat' split at h
  all_goals cases h
 | makeSlice T n c=>
  rw [z] at h;simp only [ac,adf,ae7,Ar] at h;repeat' split at h
  all_goals cases h
 | store T a x=>rw [z] at h;simp only [ac] at h;exact absurd h (ao8 _ _ _ _ _ _)
 | insert T m k x=>rw [z] at h;simp only [ac] at h;exact absurd h (ae9 _ _ _ _ _ _ _)
 | mapUpdate T m k x=>rw [z] at h;simp only [ac] at h;exact absurd h (ae9 _ _ _ _ _ _ _)
 | mapEntry T m k=>rw [z] at h;simp only [ac] at h;exact absurd h (akk _ _ _ _ _ _)
 | entryStore T m k x=>rw [z] at h;simp only [ac] at h;exact absurd h (aiz _ _ _ _ _ _ _)
 | makeMap T r=>rw [z] at h;simp only [ac] at h;unfold ad4 at h;split at h<;>simp at h
 | range T x=>rw [z] at h;simp only [ac] at h;unfold ajo at h;split at h<;>first | (simp at h;done) | (simp only [Ar] at h;split at h<;>simp at h)
 | next x b=>
  rw [z] at h;simp only [ac] at h;unfold aoi at h;repeat' split at h
  all_goals simp at h
 | entry x=>
  rw [z] at h;simp only [ac] at h
  have M:=H x
  unfold ala at h
  split at h
  ·rename_i k he;split at h
   ·rename_i K E e es hk;simp only [Ac.val.injEq,true_and] at h;subst h;rw [he] at M;generalize I:η x=cv at M;cases M with
    | mitr _=>
     obtain ⟨_,_,m,al,c0,am,q3,_,q5⟩:=J.obj k _ hk;obtain ⟨r,ents,ad,kc,vc,rfl,a2,a3,a4,a5,a6,a7,a8,a9⟩:=q5 e rfl;refine OpRes.still J (u:=.tuple #[ad.key,ad.val]) ?_ (.tup rfl λi s v hs hv=>?_)
     ·simp [execOp,z,I,Instr.entry,getObj,Sem.run,q3,a3,a4,a5]
     ·match i,hs,hv with
      | 0,hs,hv=>simp at hs hv;subst hs;subst hv;rw [a8];exact a6.ofPV
      | 1,hs,hv=>simp at hs hv;subst hs;subst hv;rw [a9];exact a7.ofPV
   ·cases h
  ·cases h
 | _=>rw [z] at h;simp [ac] at h
end
end Go.Ab
namespace Go.Ab
open Go
section
variable {Γ:Ctx}{D:Dom}{ow:Own}{μ:Nat->Nat}{st:List BX}{w:World}{η:Operand->Value}{ρ ρt ρf:Operand->SV}
def ab5 (x:Ac):Prop:=∀ c v s,x≠.upd c v s
def a1p (x:Ac):Prop:=∀ f h,x≠.call f h
theorem aar {c:Bool}{v:SV}:ab5 (.val c v):=λ_ _ _ h=>by cases h
theorem aal:ab5 .fail:=λ_ _ _ h=>by cases h
theorem a8p (op:BinOp) (k:IntKind) (x y:Int):ab5 (a0c op k x y):=by cases op<;>first | exact aar | exact aal
theorem bai (op:BinOp) (x y:Bo):ab5 (a09 op x y):=by cases op<;>first | exact aar | exact aal
theorem a2e (op:BinOp) (x y:Bool):ab5 (aqa op x y):=by cases op<;>first | exact aar | exact aal
theorem ab7 {b:Bool}{x:Ac} (h:ab5 x):ab5 (bif b then x else .fail):=by grind [aal]
theorem a7x {b:Bool}{x:Ac} (h:ab5 x):ab5 (bif b then .fail else x):=by grind [aal]
theorem aw2 (op:BinOp) (x:SV):ab5 (ag2 op x):=by
 unfold ag2;repeat' split
 all_goals (intro c v st' h;simp at h)
theorem axs (P:Program) (op:BinOp) (T:TypeId) (x y:SV):ab5 (aej P op T x y):=by
 unfold aej;split
 ·refine ab7 ?_;grind [aar,aal]
 ·exact aal
theorem axq (P:Program) (op:BinOp) (T:TypeId) (x y:SV):a1p (aej P op T x y):=by unfold aej;intro f o h;grind
theorem a7l (P:Program) (op:BinOp) (T:TypeId) (x y:SV):ab5 (avy P op T x y):=by
 unfold avy;split
 ·split
  ·exact aar
  ·exact aar
  ·exact ab7 (a8p _ _ _ _)
 ·exact bai _ _ _
 ·exact ab7 (a2e _ _ _)
 ·exact ab7 (by cases op<;>first | exact aar | exact aal)
 ·exact ab7 (by cases op<;>first | exact aar | exact aal)
 grind [axs]
theorem bc5 (op:UnOp) (x:SV):ab5 (unAc op x):=by unfold unAc;grind [aar,aal]
theorem a2l (P:Program) (s d:TypeId) (x:SV):ab5 (ans P s d x):=by unfold ans;refine ab7 ?_;split<;>first | exact aar | exact aal | exact ab7 aar
theorem av8 (P:Program) (st:List BX) (s d:TypeId) (x:SV):ab5 (afg P st s d x):=by
 unfold afg;split
 ·split
  ·exact ab7 aar
  ·exact aal
 all_goals grind [a2l]
theorem avr (P:Program) (st:List BX) (T:TypeId) (x y:SV) (f:FuncId) (args:List SV):acb P st T x y≠.call f args:=by
 intro h;unfold acb acn at h;simp only [Ar] at h;repeat' split at h
 all_goals grind
theorem avs (P:Program) (st:List BX) (T:TypeId) (x y:SV) (v:SV):acb P st T x y≠.pan v:=by
 intro h;unfold acb acn at h;simp only [Ar] at h;repeat' split at h
 all_goals grind
theorem azn (P:Program) (T:TypeId) (h:List (Nat×SV)):ab5 (aje P T h):=by
 unfold aje;split
 ·exact ab7 aar
 ·refine ab7 ?_;grind [aar,aal]
 ·exact aal
theorem ano (P:Program) (T:TypeId) (n:Nat) (h:List (Nat×SV)):ab5 (acu P T n h):=by
 unfold acu;split
 ·exact aar
 ·split
  ·exact ab7 aar
  ·exact aal
theorem a4q (P:Program) (T:TypeId) (st:List BX) (a:SV):ab5 (ahb P T st a):=by intro c v s h;unfold ahb at h;grind
theorem apk (P:Program) (st:List BX) (S:TypeId) (i:Nat) (a:SV):ab5 (acv P st S i a):=by
 unfold acv;split
 ·split
  ·refine a7x ?_;split<;>first | exact ab7 aar | exact aal
  ·exact aal
 ·exact aal
theorem az0 (P:Program) (S:TypeId) (i:Nat) (a:SV):ab5 (ajj P S i a):=by
 unfold ajj;split
 ·split
  ·refine ab7 ?_;split
   ·exact ab7 aar
   ·refine ab7 ?_;grind [aar,aal]
   ·exact aal
  ·exact aal
 ·exact aal
theorem apl (P:Program) (T:TypeId) (st:List BX) (x i:SV):ab5 (acx P T st x i):=by intro c v s h;unfold acx at h;grind
theorem a0a (P:Program) (T:TypeId) (x i:SV):ab5 (ajl P T x i):=by unfold ajl;split<;>first | exact aar | exact ab7 aar | exact aal
theorem a04 (P:Program) (T:TypeId) (x:SV) (o h z:Option SV):ab5 (ah7 P T x o h z):=by
 unfold ah7;split
 ·exact aal
 ·split
  ·exact aar
  ·split
   ·grind [aar,aal]
   ·split
    ·split<;>first | exact ab7 aar | exact aal
    ·exact aal
   ·exact aal
theorem aws (P:Program) (T:TypeId) (st:List BX) (m k:SV) (h:Bool):ab5 (ac1 P T st m k h):=by
 unfold ac1;split
 ·refine ab7 ?_;split
  ·exact ab7 aar
  ·split
   ·exact ab7 aar
   ·exact aal
  ·exact aal
 ·exact aal
theorem a8z (P:Program) (T:TypeId) (st:List BX) (x:SV):ab5 (arz P T st x):=by unfold arz;grind [aar,aal]
theorem aoh (h:Bool) (ss:List SV):ab5 (ad1 h ss):=by unfold ad1;grind [aar,aal]
theorem aof (o:Bool) (ss:List SV):a1p (ad1 o ss):=by unfold ad1;intro f z h;grind
theorem ar2 (fn:Fn) (first cs:List SV):ab5 (aer fn first cs):=by unfold aer;grind [aar,aal]
theorem a7y {b:Bool}{x:Ac}{v:SV}{s:List BX} (h:(bif b then x else .fail)=.upd true v s):b=true/\x=.upd true v s:=by grind
theorem al5 (I:WRel Γ D ow μ st w) (H:∀ x,SRep Γ.P D w ow μ st (ρ x) (η x)) (o:Oper) (v:SV) (st':List BX) (h:ac Γ.P o.op ρ ρt ρf st=.upd true v st'):OpRes Γ D ow μ st w ((execOp η o).run Γ.P w) v st':=by
 cases z:o.op with
 | alloc T=>grind [ac,avq,OpRes.lift,execOp]
 | box T x=>grind [ac,av1,OpRes.lift,execOp]
 | makeSlice T n c=>
  rw [z] at h;simp only [ac] at h;cases hz:a3w n with
  | true=>rw [hz] at h;simp only [Af] at h;grind [aoe,OpRes.lift,execOp]
  | false=>rw [hz] at h;simp only [Ah] at h;grind [ar4,OpRes.lift,execOp]
 | store T a x=>grind [ac,asj,OpRes.liftU,execOp]
 | insert T m k x=>grind [ac,ahz,OpRes.liftU,execOp]
 | mapUpdate T m k x=>grind [ac,ahz,OpRes.liftU,execOp]
 | mapEntry T m k=>grind [ac,apr,OpRes.lift,execOp]
 | entryStore T m k x=>grind [ac,amr,OpRes.liftU,execOp]
 | makeMap T r=>
  rw [z] at h;simp only [ac] at h;unfold ad4 at h;split at h
  ·rename_i K E Z;simp only [Ac.upd.injEq,true_and] at h;obtain ⟨rfl,rfl⟩:=h;obtain ⟨u,w',M,O⟩:=ar3 I T K E;grind [OpRes.lift,execOp]
  ·simp at h
 | call c=>
  rw [z] at h;simp only [ac] at h;unfold ai4 at h;split at h
  ·simp at h
  ·grind
  ·split at h
   ·exact absurd h (a8z _ _ _ _ _ _ _)
   ·simp at h
  ·rename_i hc;split at h
   ·rename_i x y T T' hx Z;obtain ⟨h1,h2⟩:=a7y h;have:=Ae h1;subst this;have ha:c.args=#[x,y]:=by grind
    have J:c.argTypes=#[T,T]:=by grind
    obtain ⟨u,w',M,O⟩:=ape I T o.type _ _ _ _ v st' (H x) (H y) h2;grind [OpRes.lift,execOp,resolve,invoke,builtin]
   ·simp at h
  ·rename_i hc;split at h
   ·rename_i x T hx Z;have ha:c.args=#[x]:=by grind
    have J:c.argTypes=#[T]:=by grind
    obtain ⟨u,w',M,O⟩:=av5 I T o.type _ _ v st' (H x) h;grind [OpRes.lift,execOp,resolve,invoke,builtin]
   ·simp at h
  ·exact absurd h (aoh _ _ _ _ _)
  ·exact absurd h (aoh _ _ _ _ _)
  ·simp at h
 | move x=>grind [ac]
 | assign x=>grind [ac]
 | pick c x y=>grind [ac]
 | build T ps=>rw [z] at h;exact absurd h (azn _ _ _ _ _ _)
 | buildSlice T n ps=>rw [z] at h;exact absurd h (ano _ _ _ _ _ _ _)
 | load T a=>rw [z] at h;exact absurd h (a4q _ _ _ _ _ _ _)
 | nilCheck x=>rw [z] at h;simp only [ac,Ar] at h;grind
 | binOp b T x y T2=>
  rw [z] at h;simp only [ac,anm,Ar] at h;split at h
  ·split at h
   ·exact absurd h (aw2 _ _ _ _ _)
   ·simp at h
  ·exact absurd h (a7l _ _ _ _ _ _ _ _)
 | unOp u T x=>rw [z] at h;exact absurd h (bc5 _ _ _ _ _)
 | convert s d x=>rw [z] at h;exact absurd h (av8 _ _ _ _ _ _ _ _)
 | makeFunc fn first cs=>rw [z] at h;exact absurd h (ar2 _ _ _ _ _ _)
 | slice T x lo hi mx=>
  rw [z] at h;simp only [ac] at h;split at h
  ·cases h
  ·exact absurd h (a04 _ _ _ _ _ _ _ _ _)
 | fieldAddr S x i=>rw [z] at h;exact absurd h (apk _ _ _ _ _ _ _ _)
 | field S x i=>rw [z] at h;exact absurd h (az0 _ _ _ _ _ _ _)
 | indexAddr T x i=>
  rw [z] at h;simp only [ac] at h;split at h
  ·cases h
  ·exact absurd h (apl _ _ _ _ _ _ _ _)
 | index T x i=>rw [z] at h;exact absurd h (a0a _ _ _ _ _ _ _)
 | lookup T m k ok=>rw [z] at h;exact absurd h (aws _ _ _ _ _ _ _ _ _)
 | extract t i=>rw [z] at h;simp only [ac] at h;unfold ahs at h;grind
 | range T x=>grind [ac,aw5,OpRes.lift,execOp]
 | next x b=>rw [z] at h;simp only [ac] at h;obtain ⟨u,w',M,O⟩:=a0s I _ _ b o.type v st' (H x) h;grind [OpRes.lift,execOp]
 | entry x=>rw [z] at h;simp only [ac] at h;unfold ala at h;grind
 | makeInterface T x=>grind [ac,ahy]
 | panic x=>rw [z] at h;simp only [ac,aom] at h;grind
 | _=>rw [z] at h;simp [ac] at h
theorem abx (Z:∀ x,SRep Γ.P D w ow μ st (ρ x) (η x)) (ah:∀ f,η (.func f)=.func (.func f) #[] #[]) (o:Oper) (f:FuncId) (args:List SV) (h:ac Γ.P o.op ρ ρt ρf st=.call f args):
 ∃ H:Array Value,(execOp η o).run Γ.P w=(callFunc f H).run Γ.P w/\H.size=args.length/\∀ (i:Nat) (s:SV) (v:Value),args[i]?=some s->H[i]?=some v->SRep Γ.P D w ow μ st s v:=by
 have I:∀ xs:Array Operand,∀ (i:Nat) (s:SV) (v:Value),(xs.toList.map ρ)[i]?=some s->(xs.map η)[i]?=some v->SRep Γ.P D w ow μ st s v:=by grind
 cases z:o.op with
 | call c=>
  rw [z] at h;simp only [ac] at h
  unfold ai4 at h
  split at h
  ·rename_i g hc;simp only [Ac.call.injEq] at h;obtain ⟨rfl,rfl⟩:=h;refine ⟨c.args.map η,?_,by simp,I c.args⟩;grind [execOp,resolve,Deferred.ofValue,invoke]
  ·rename_i x af hc;have O:=Z x;split at h
   ·rename_i g n caps he;simp only [Ac.call.injEq] at h;obtain ⟨rfl,rfl⟩:=h;rw [he] at O;generalize ab:η x=cv at O;cases O with
    | @fn _ _ _ J vs hn ag aa=>
     have ae:n<=caps.length:=by grind
     have M:(caps.take n).length=J.size:=by grind
     refine ⟨J++c.args.map η++vs,?_,by grind,λi s v hs hv=>?_⟩
     ·grind [execOp,resolve,Deferred.ofValue,invoke]
     ·rw [Array.append_assoc] at hv;by_cases hi:i<J.size
      ·all_goals grind
      ·rw [A7 (by omega),M] at hs;rw [Array.getElem?_append_right (by omega)] at hv;by_cases ad:i-J.size<c.args.size;all_goals grind
   ·simp at h
  ·split at h
   ·unfold arz at h;grind
   ·simp at h
  ·split at h
   ·simp only [Ar] at h;grind [absurd,avr]
   ·simp at h
  ·split at h
   ·simp only [ae4,Ar] at h;grind
   ·simp at h
  ·exact absurd h (aof _ _ _ _)
  ·exact absurd h (aof _ _ _ _)
  ·simp at h
 | move x=>grind [ac]
 | assign x=>grind [ac]
 | pick c x y=>grind [ac]
 | alloc T=>rw [z] at h;simp only [ac,ahm,Ar] at h;grind
 | box T x=>rw [z] at h;simp only [ac,ata,Ar] at h;grind
 | makeSlice T n c=>rw [z] at h;simp only [ac,adf,ae7,Ar] at h;all_goals grind
 | store T a x=>
  rw [z] at h;simp only [ac,aeb,adz,Ar] at h;repeat' split at h
  all_goals grind
 | insert T m k x=>rw [z] at h;simp only [ac,abv,Ar] at h;grind
 | mapUpdate T m k x=>rw [z] at h;simp only [ac,abv,Ar] at h;grind
 | mapEntry T m k=>rw [z] at h;simp only [ac,ab9,Ar] at h;grind
 | entryStore T m k x=>rw [z] at h;simp only [ac,aby,Ar] at h;grind
 | makeMap T r=>rw [z] at h;simp only [ac,ad4] at h;grind
 | build T ps=>rw [z] at h;simp only [ac,aje,Ar] at h;grind
 | buildSlice T n ps=>rw [z] at h;simp only [ac,acu,Ar] at h;grind
 | load T a=>rw [z] at h;simp only [ac,ahb,Ar] at h;grind
 | nilCheck x=>rw [z] at h;simp only [ac,Ar] at h;grind
 | binOp b T x y T2=>
  rw [z] at h;simp only [ac,anm,ag2,avy,Ar] at h;repeat' split at h
  all_goals first
   | (exact absurd h (axq _ _ _ _ _ _ _))
   | (simp at h;done)
   | (cases b<;>simp [a0c] at h;done)
   | (cases b<;>simp [a09] at h;done)
   | (cases b<;>simp [aqa] at h;done)
   | (cases b<;>simp [aet] at h;done)
 | unOp u T x=>rw [z] at h;simp only [ac,unAc] at h;grind
 | convert s d x=>rw [z] at h;simp only [ac,afg,ans,Ar] at h;grind
 | makeFunc fn first cs=>rw [z] at h;simp only [ac,aer] at h;all_goals grind
 | slice T x lo hi mx=>
  rw [z] at h;simp only [ac,ah7,Ar] at h;repeat' split at h
  all_goals grind
 | fieldAddr S x i=>rw [z] at h;simp only [ac,acv,Ar] at h;grind
 | field S x i=>rw [z] at h;simp only [ac,ajj,Ar] at h;grind
 | indexAddr T x i=>rw [z] at h;simp only [ac,acx,Ar] at h;grind
 | index T x i=>rw [z] at h;simp only [ac,ajl,Ar] at h;grind
 | lookup T m k ok=>
  rw [z] at h;simp only [ac,ac1,Ar] at h;repeat' split at h
  all_goals simp at h
 | extract t i=>rw [z] at h;simp only [ac] at h;unfold ahs at h;split at h<;>first | (simp at h;done) | (split at h<;>simp at h)
 | range T x=>rw [z] at h;simp only [ac] at h;unfold ajo at h;split at h<;>first | (simp at h;done) | (simp only [Ar] at h;split at h<;>simp at h)
 | next x b=>
  rw [z] at h;simp only [ac] at h;unfold aoi at h;repeat' split at h
  all_goals simp at h
 | entry x=>
  rw [z] at h;simp only [ac] at h;unfold ala at h;repeat' split at h
  all_goals simp at h
 | makeInterface T x=>rw [z] at h;simp only [ac,ahy] at h;split at h<;>simp at h
 | panic x=>rw [z] at h;simp only [ac,aom] at h;split at h<;>simp at h
 | _=>rw [z] at h;simp [ac] at h
theorem axr (P:Program) (op:BinOp) (T:TypeId) (x y:SV) (v:SV):aej P op T x y≠.pan v:=by
 unfold aej;simp only [Ar];repeat' split
 all_goals simp
theorem aog (h:Bool) (ss:List SV) (v:SV):ad1 h ss≠.pan v:=by
 unfold ad1;split
 ·split<;>simp
 ·simp
theorem as3 (J:∀ x,SRep Γ.P D w ow μ st (ρ x) (η x)) (o:Oper) (s:SV) (h:ac Γ.P o.op ρ ρt ρf st=.pan s):∃ u,(execOp η o).run Γ.P w=.halt (.panic u) w/\SRep Γ.P D w ow μ st s u:=by
 cases z:o.op with
 | panic x=>
  rw [z] at h;simp only [ac,aom] at h;split at h
  ·rename_i T y O;simp only [Ac.pan.injEq] at h;subst h;have H:=J x;rw [O] at H;generalize I:η x=M at H;refine ⟨M,?_,H⟩;cases H with
   | ifc H=>simp [execOp,z,I,Instr.panic,goPanic]
  ·cases h
 | call c=>
  rw [z] at h;simp only [ac] at h;unfold ai4 at h;split at h
  ·cases h
  ·split at h<;>cases h
  ·split at h
   ·unfold arz at h;split at h<;>first | (simp at h;done) | (split at h<;>simp at h)
   ·cases h
  ·split at h
   ·simp only [Ar] at h;split at h
    ·exact absurd h (avs _ _ _ _ _ _)
    ·cases h
   ·cases h
  ·split at h
   ·simp only [ae4,Ar] at h;repeat' split at h
    all_goals cases h
   ·cases h
  ·exact absurd h (aog _ _ _)
  ·exact absurd h (aog _ _ _)
  ·cases h
 | move x=>rw [z] at h;simp [ac] at h
 | assign x=>rw [z] at h;simp [ac] at h
 | pick c x y=>rw [z] at h;simp only [ac] at h;split at h<;>simp at h
 | alloc T=>
  rw [z] at h;simp only [ac,ahm,Ar] at h;repeat' split at h
  all_goals cases h
 | box T x=>
  rw [z] at h;simp only [ac,ata,Ar] at h;repeat' split at h
  all_goals cases h
 | makeSlice T n c=>
  rw [z] at h;simp only [ac,adf,ae7,Ar] at h;repeat' split at h
  all_goals cases h
 | store T a x=>
  rw [z] at h;simp only [ac,aeb,adz,Ar] at h;repeat' split at h
  all_goals simp at h
 | insert T m k x=>
  rw [z] at h;simp only [ac,abv,Ar] at h;repeat' split at h
  all_goals simp at h
 | mapUpdate T m k x=>
  rw [z] at h;simp only [ac,abv,Ar] at h;repeat' split at h
  all_goals simp at h
 | mapEntry T m k=>
  rw [z] at h;simp only [ac,ab9,Ar] at h;repeat' split at h
  all_goals simp at h
 | entryStore T m k x=>
  rw [z] at h;simp only [ac,aby,Ar] at h;repeat' split at h
  all_goals simp at h
 | makeMap T r=>rw [z] at h;simp only [ac,ad4] at h;split at h<;>simp at h
 | build T Z=>
  rw [z] at h;simp only [ac,aje,Ar] at h;repeat' split at h
  all_goals simp at h
 | buildSlice T n Z=>
  rw [z] at h;simp only [ac,acu,Ar] at h;repeat' split at h
  all_goals simp at h
 | load T a=>
  rw [z] at h;simp only [ac,ahb,Ar] at h;repeat' split at h
  all_goals simp at h
 | nilCheck x=>
  rw [z] at h;simp only [ac,Ar] at h;repeat' split at h
  all_goals cases h
 | binOp b T x y T2=>
  rw [z] at h;simp only [ac,anm,ag2,avy,Ar] at h;repeat' split at h
  all_goals first
   | (exact absurd h (axr _ _ _ _ _ _))
   | (simp at h;done)
   | (cases b<;>simp [a0c] at h;done)
   | (cases b<;>simp [a09] at h;done)
   | (cases b<;>simp [aqa] at h;done)
   | (cases b<;>simp [aet] at h;done)
 | unOp u T x=>
  rw [z] at h;simp only [ac,unAc] at h;repeat' split at h
  all_goals simp at h
 | convert s d x=>
  rw [z] at h;simp only [ac,afg,ans,Ar] at h;repeat' split at h
  all_goals simp at h
 | makeFunc fn first cs=>rw [z] at h;simp only [ac,aer] at h;split at h<;>simp at h
 | slice T x lo hi mx=>
  rw [z] at h;simp only [ac,ah7,Ar] at h;repeat' split at h
  all_goals simp at h
 | fieldAddr S x i=>
  rw [z] at h;simp only [ac,acv,Ar] at h;repeat' split at h
  all_goals simp at h
 | field S x i=>
  rw [z] at h;simp only [ac,ajj,Ar] at h;repeat' split at h
  all_goals simp at h
 | indexAddr T x i=>
  rw [z] at h;simp only [ac,acx,Ar] at h;repeat' split at h
  all_goals simp at h
 | index T x i=>
  rw [z] at h;simp only [ac,ajl,Ar] at h;repeat' split at h
  all_goals simp at h
 | lookup T m k ok=>
  rw [z] at h;simp only [ac,ac1,Ar] at h;repeat' split at h
  all_goals simp at h
 | extract t i=>rw [z] at h;simp only [ac] at h;unfold ahs at h;split at h<;>first | (simp at h;done) | (split at h<;>simp at h)
 | range T x=>rw [z] at h;simp only [ac] at h;unfold ajo at h;split at h<;>first | (simp at h;done) | (simp only [Ar] at h;split at h<;>simp at h)
 | next x b=>
  rw [z] at h;simp only [ac] at h;unfold aoi at h;repeat' split at h
  all_goals simp at h
 | entry x=>
  rw [z] at h;simp only [ac] at h;unfold ala at h;repeat' split at h
  all_goals simp at h
 | makeInterface T x=>rw [z] at h;simp only [ac,ahy] at h;split at h<;>simp at h
 | _=>rw [z] at h;simp [ac] at h
theorem axv (hw:WRel Γ D ow μ st w) {η:Operand->Value}{ρ:Operand->SV} (I:∀ x,SRep Γ.P D w ow μ st (ρ x) (η x)) (o:Oper) {v:SV}{st':List BX} (h:asp Γ.P o.op ρ st=some (true,v,st')):OpRes Γ D ow μ st w ((execOp η o).run Γ.P w) v st':=by
 unfold asp at h;split at h
 ·rename_i T x hh M;split at h
  ·rename_i E k g E' ik n hT hx hn;cases z:aee st k g E with
   | none=>rw [z] at h;cases h
   | some xs=>
    rw [z] at h;simp only at h;cases H:(Nat.beq E E'&&!(Nat.beq (Γ.P.cellsOf E) 0)) with
    | false=>rw [H] at h;cases h
    | true=>
     rw [H] at h;simp only [Af,Ak,Prod.mk.injEq,A4] at h;obtain ⟨⟨h0,h1⟩,rfl,rfl⟩:=h;simp only [Aj,Bool.not_eq_true'] at H;have:=Ae H.1;subst this;have J:Γ.P.cellsOf E≠0:=λe=>by rw [e] at H;cases H.2
     have O:=I x;have Z:=I hh;rw [hx] at O;rw [hn] at Z;obtain ⟨u,q1,q2⟩:=apx hw O Z hT (abw z) J h0 h1;exact OpRes.lift q1 q2 (by simp only [execOp,M];rfl)
  ·cases h
 ·rename_i T x hl M;split at h
  ·rename_i E k g E' ik n hT hx hn;cases z:aee st k g E with
   | none=>rw [z] at h;cases h
   | some xs=>
    rw [z] at h;simp only at h;cases H:(Nat.beq E E'&&!(Nat.beq (Γ.P.cellsOf E) 0)) with
    | false=>rw [H] at h;cases h
    | true=>
     rw [H] at h;simp only [Af,Ak,Prod.mk.injEq,A4] at h;obtain ⟨⟨h0,h1⟩,rfl,rfl⟩:=h;simp only [Aj,Bool.not_eq_true'] at H;have:=Ae H.1;subst this;have J:Γ.P.cellsOf E≠0:=λe=>by rw [e] at H;cases H.2
     have O:=I x;have Z:=I hl;rw [hx] at O;rw [hn] at Z;obtain ⟨u,q1,q2⟩:=ast O Z hT (abw z) J h0 h1;exact OpRes.lift0 hw ⟨u,q1,q2⟩ (by simp only [execOp,M];rfl)
  ·cases h
 ·cases h
end
end Go.Ab
