/- One operation: what the evaluator says of it, the model does. -/
import Derived.Test.YtjogoleiodbfdaaGreatDoorAbBuild
set_option linter.unusedVariables false
set_option linter.unusedSimpArgs false
set_option linter.unnecessarySimpa false
namespace Go.Ab
open Go
section
variable {Γ:Ctx}{D:Dom}{ow:Own}{μ:Nat->Nat}{st:List BX}{w:World}{η:Operand->Value}{ρ ρt ρf:Operand->SV}
theorem OpRes.lift {r:Result Next}{v:SV}{st':List BX}{s:Sem Value}{u:Value}{w':World} (H:s.run Γ.P w=.ok u w') (h:OpRes Γ D ow μ st w (.ok (.value u) w') v st') (o:r=(do pure (.value (<-s)):Sem Next).run Γ.P w):OpRes Γ D ow μ st w r v st':=by grind [Sem.run_bind,Result.andThen_ok,Sem.run_pure]
theorem OpRes.lift0 (J:WRel Γ D ow μ st w) {r:Result Next}{v:SV}{s:Sem Value} (h:∃ u,s.run Γ.P w=.ok u w/\SRep Γ.P D w ow μ st v u) (I:r=(do pure (.value (<-s)):Sem Next).run Γ.P w):OpRes Γ D ow μ st w r v st:=by obtain ⟨u,o,H⟩:=h;exact OpRes.lift o (OpRes.still J rfl H) I
theorem OpRes.liftU {r:Result Next}{v:SV}{st':List BX}{s:Sem Unit}{w':World} (H:s.run Γ.P w=.ok () w') (h:OpRes Γ D ow μ st w (.ok .skip w') v st') (o:r=(do s;pure .skip:Sem Next).run Γ.P w):OpRes Γ D ow μ st w r v st':=by grind [Sem.run_bind,Result.andThen_ok,Sem.run_pure]
theorem arc {b:Bool}{x:Ac}{v:SV} (h:x≠.val true v):(bif b then x else .fail)≠.val true v:=by grind
theorem alk (P:Program) (st:List BX) (T:TypeId) (x y:SV) (c:Bool) (v:SV):ac4 P st T x y≠.val c v:=by unfold ac4;grind
theorem aev (P:Program) (T:TypeId) (st:List BX) (a x:SV) (v:SV):ado P T st a x≠.val true v:=by unfold ado;grind
theorem ant (P:Program) (T:TypeId) (st:List BX) (a x:SV) (v:SV):ad6 P T st a x≠.val true v:=by
 intro h;unfold ad6 at h;split at h
 ·split at h
  ·split at h
   ·simp only [Av] at h;split at h
    ·cases h
    ·exact aev _ _ _ _ _ _ h
   ·cases h
  ·exact aev _ _ _ _ _ _ h
 ·exact aev _ _ _ _ _ _ h
theorem aet (P:Program) (T:TypeId) (st:List BX) (m k x:SV) (v:SV):abr P T st m k x≠.val true v:=by unfold abr;grind
theorem ajq (P:Program) (T:TypeId) (st:List BX) (m k:SV) (v:SV):ab8 P T st m k≠.val true v:=by
 unfold ab8;intro h;simp only [Av] at h;repeat' split at h
 all_goals simp at h
theorem aie (P:Program) (T:TypeId) (st:List BX) (m k x:SV) (v:SV):aby P T st m k x≠.val true v:=by
 unfold aby;intro h;simp only [Av] at h;repeat' split at h
 all_goals simp at h
theorem ase (o:∀ x,SRep Γ.P D w ow μ st (ρ x) (η x)) (h:Array (Nat×Operand)):(h.toList.map λ(i,x)=>(i,ρ x)).length=(h.map λ(i,x)=>(i,η x)).size/\
 ∀ (n i:Nat) (s:SV) (j:Nat) (u:Value),(h.toList.map λ(i,x)=>(i,ρ x))[n]?=some (i,s)->(h.map λ(i,x)=>(i,η x))[n]?=some (j,u)->i=j/\SRep Γ.P D w ow μ st s u:=by
 grind
theorem auh (M:Bool):∀ (I:List SV) (H:List Value) (k:IntKind) (a n:Int),I.length=H.length->(∀ (i:Nat) (s:SV) (u:Value),I[i]?=some s->H[i]?=some u->SRep Γ.P D w ow μ st s u)->ahz M a I=some n->
 (H.foldlM (if M then Builtin.max2 else Builtin.min2) (.int k a):Sem Value).run Γ.P w=.ok (.int k n) w:=by
 intro I
 induction I with
 | nil=>
  intro H k a n J _ h
  have:H=[]:=Bc (by grind)
  subst this
  simp [ahz] at h;subst h
  simp
 | cons x r ih=>
  intro H k a n J o h
  cases H with
  | nil=>simp at J
  | cons u q=>
   have O:=o 0 x u rfl rfl
   cases x with
   | int kb b=>
    generalize hu:u=uu at O
    cases O
    simp only [ahz] at h
    have:=ih q k _ n (by simpa using J) (λi s v Z h2=>o (i+1) s v (by simpa using Z) (by simpa using h2)) h
    cases M
    ·simp only [Ah,A6,A8] at this ⊢;grind [Builtin.min2]
    ·simp only [Af,A9] at this ⊢;grind [Builtin.max2]
   | _=>simp [ahz] at h
theorem ale (I:Bool) (J:List SV) (H:List Value) (M:J.length=H.length) (o:∀ (i:Nat) (s:SV) (u:Value),J[i]?=some s->H[i]?=some u->SRep Γ.P D w ow μ st s u) (v:SV) (h:adw I J=.val true v):
 ∃ (x:Value) (q:List Value) (u:Value),H=x::q/\(q.foldlM (if I then Builtin.max2 else Builtin.min2) x:Sem Value).run Γ.P w=.ok u w/\SRep Γ.P D w ow μ st v u:=by
 unfold adw at h
 split at h
 ·rename_i k a r;cases H with
  | nil=>simp at M
  | cons x q=>
   have O:=o 0 _ x rfl rfl;generalize hu:x=xx at O;cases O;split at h
   ·rename_i n hf;simp only [Ac.val.injEq,true_and] at h;subst h;exact ⟨_,q,_,rfl,auh I r q k a n (by simpa using M) (λi s v Z h2=>o (i+1) s v (by simpa using Z) (by simpa using h2)) hf,.int⟩
   ·cases h
 ·cases h
theorem aex (M:WRel Γ D ow μ st w) (I:∀ x,SRep Γ.P D w ow μ st (ρ x) (η x)) (o:Oper)
 (ab:∀ c x y,o.op=.pick c x y->(η c=.bool true->SRep Γ.P D w ow μ st (ρt x) (η x))/\(η c=.bool false->SRep Γ.P D w ow μ st (ρf y) (η y)))
 (v:SV) (h:ac Γ.P o.op ρ ρt ρf st=.val true v):OpRes Γ D ow μ st w ((execOp η o).run Γ.P w) v st:=by
 cases H:o.op with
 | move x=>
  rw [H] at h;simp only [ac,Ac.val.injEq,true_and] at h;subst h
  exact OpRes.still M (by simp only [execOp,H,Sem.run_pure]) (I x)
 | assign x=>
  rw [H] at h;simp only [ac,Ac.val.injEq,true_and] at h;subst h
  exact OpRes.still M (by simp only [execOp,H,Sem.run_pure]) (I x)
 | pick c x y=>
  rw [H] at h;simp only [ac] at h
  obtain ⟨Z,h2⟩:=ab c x y H
  split at h
  ·rename_i b p q hc O hy;simp only [Ac.val.injEq,true_and] at h;subst h;have aa:=I c;rw [hc] at aa;generalize J:η c=cv at aa;cases aa;have aj:(execOp η o).run Γ.P w=.ok (.value (if b then η x else η y)) w:=by
    simp only [execOp,H,J,asBool,Sem.run_bind,Sem.run_pure,Result.andThen_ok]
   rw [aj];cases b with
   | true=>have:=Z J;rw [O] at this;exact OpRes.still M rfl this
   | false=>have:=h2 J;rw [hy] at this;exact OpRes.still M rfl this
  ·simp at h
 | build T ps=>
  rw [H] at h;simp only [ac] at h
  obtain ⟨q1,q2⟩:=ase (Γ:=Γ) I ps
  exact OpRes.lift0 M (atn T _ _ v q1 q2 h) (by simp only [execOp,H])
 | buildSlice T n ps=>
  rw [H] at h;simp only [ac] at h
  obtain ⟨q1,q2⟩:=ase (Γ:=Γ) I ps
  obtain ⟨u,w',r1,r2⟩:=alm M T n _ _ v q1 q2 h
  exact OpRes.lift r1 r2 (by simp only [execOp,H])
 | load T a=>
  rw [H] at h;simp only [ac] at h
  exact OpRes.lift0 M (ax2 M T _ _ v (I a) h) (by simp only [execOp,H])
 | nilCheck x=>
  rw [H] at h;simp only [ac] at h
  have O:=I x
  split at h
  ·rename_i k p T he;simp only [Ac.val.injEq,true_and] at h;subst h;rw [he] at O;generalize J:η x=cv at O;have h':=O;cases O;exact OpRes.still M (by simp only [execOp,H,J,Sem.run_pure]) h'
  ·rename_i T pv he;simp only [Ac.val.injEq,true_and] at h;subst h;rw [he] at O;generalize J:η x=cv at O;have h':=O;cases O;exact OpRes.still M (by simp only [execOp,H,J,Sem.run_pure]) h'
  ·rename_i f cs he;simp only [Ac.val.injEq,true_and] at h;subst h;rw [he] at O;generalize J:η x=cv at O;have h':=O;cases O;exact OpRes.still M (by simp only [execOp,H,J,Sem.run_pure]) h'
  ·rename_i k T he;simp only [Ac.val.injEq,true_and] at h;subst h;rw [he] at O;generalize J:η x=cv at O;have h':=O;cases O;exact OpRes.still M (by simp only [execOp,H,J,Sem.run_pure]) h'
  ·rename_i k g i E p T he;cases hg:aew st k g with
   | false=>rw [hg] at h;cases h
   | true=>
    rw [hg] at h;simp only [Af,Ac.val.injEq,true_and] at h;subst h;rw [he] at O;generalize J:η x=cv at O;have h':=O;cases O with
    | arefOld hk af _=>unfold aew at hg;rw [hk] at hg;have:=Ae hg;omega
    | aref=>exact OpRes.still M (by simp only [execOp,H,J,Sem.run_pure]) h'
  ·simp at h
 | binOp b T x y T2=>
  rw [H] at h;simp only [ac] at h
  unfold ama at h
  cases hN:(a0k y&&alw Γ.P T) with
  | false=>
   rw [hN] at h
   exact OpRes.lift0 M (azi T b _ _ _ _ v (I x) (I y) h x y) (by simp only [execOp,H])
  | true=>
   rw [hN] at h
   simp only [Af] at h
   simp only [Aj] at hN
   split at h
   ·rename_i hb;have hy:=I y;rw [hb] at hy;have J:η y=.nilIface:=by
     generalize η y=cv at hy;cases hy with
     | eif Z _=>exact Z rfl
    have ai:y=.const .nilIface:=by
     have:=hN.1;unfold a0k at this;split at this
     ·rfl
     ·cases this
    subst ai;have:=at5 (Γ:=Γ) (D:=D) (w:=w) T b _ _ v (I x) hN.2 h x;rw [<-J] at this;have e:(do eqGuard b T x (.const (η (.const .nilIface))) (η x) (η (.const .nilIface));binOp b T (η x) (η (.const .nilIface)):Sem Value)=(do eqGuard b T x (.const .nilIface) (η x) (η (.const .nilIface));binOp b T (η x) (η (.const .nilIface))):=by rw [J]
    rw [e] at this;exact OpRes.lift0 M this (by simp only [execOp,H])
   ·simp at h
 | unOp u T x=>
  rw [H] at h;simp only [ac] at h
  exact OpRes.lift0 M (a6j u _ _ v (I x) h) (by simp only [execOp,H])
 | convert s d x=>
  rw [H] at h;simp only [ac] at h
  exact OpRes.lift0 M (arf M s d _ _ v (I x) h) (by simp only [execOp,H])
 | makeFunc fn first cs=>
  rw [H] at h;simp only [ac] at h
  unfold aeg at h
  split at h
  ·rename_i f;simp only [Ac.val.injEq,true_and] at h;subst h;refine OpRes.still M (u:=.func (.func f) (first.map η) (cs.map η)) (by simp [execOp,H,Instr.makeFunc]) (.fn (by simp) (by simp) (λi s v hi hv=>?_));rw [<-List.map_append,Bj] at hi;rw [<-Array.map_append,Array.getElem?_map] at hv;cases hp:(first++cs)[i]? with
   | none=>rw [hp] at hv;simp at hv
   | some p=>
    have:(first.toList++cs.toList)[i]?=some p:=by rw [<-Array.toList_append,Bq];exact hp
    rw [this] at hi;rw [hp] at hv;simp at hi hv;subst hi;subst hv;exact I p
  ·simp at h
 | slice T x lo hi mx=>
  rw [H] at h;simp only [ac] at h
  refine OpRes.lift0 M (au3 T _ _ _ _ _ (lo.map η) (hi.map η) (mx.map η) v (I x) ?_ (by simp) ?_ (by simp) (by simp) h) (by simp only [execOp,H])
  ·intro s u Z h2;cases lo with
   | none=>simp at Z
   | some l=>simp at Z h2;subst Z;subst h2;exact I l
  ·intro s u Z h2;cases hi with
   | none=>simp at Z
   | some l=>simp at Z h2;subst Z;subst h2;exact I l
 | fieldAddr S x i=>
  rw [H] at h;simp only [ac] at h
  exact OpRes.lift0 M (amm S i _ _ v (I x) h) (by simp only [execOp,H])
 | field S x i=>
  rw [H] at h;simp only [ac] at h
  exact OpRes.lift0 M (atx S i _ _ v (I x) h) (by simp only [execOp,H])
 | indexAddr T x i=>
  rw [H] at h;simp only [ac] at h
  exact OpRes.lift0 M (ams T _ _ _ _ v (I x) (I i) h) (by simp only [execOp,H])
 | index T x i=>
  rw [H] at h;simp only [ac] at h
  exact OpRes.lift0 M (at7 T _ _ _ _ v (I x) (I i) h) (by simp only [execOp,H])
 | lookup T m k ok=>
  rw [H] at h;simp only [ac] at h
  exact OpRes.lift0 M (ar7 M T _ _ _ _ ok v (I m) (I k) h) (by simp only [execOp,H])
 | extract t i=>
  rw [H] at h;simp only [ac] at h
  have O:=I t
  unfold ag6 at h
  split at h
  ·rename_i vs he;split at h
   ·rename_i s hs;simp only [Ac.val.injEq,true_and] at h;subst h;rw [he] at O;generalize J:η t=cv at O;cases O with
    | @tup _ us ah ae=>
     have af:i<us.size:=by rw [ah];exact (Bg.1 hs).1
     have hu:us[i]?=some us[i]:=Array.getElem?_eq_getElem af;exact OpRes.still M (u:=us[i]) (by simp [execOp,H,J,Instr.extract,hu]) (ae i _ _ hs hu)
   ·simp at h
  ·rename_i b p c he;rw [he] at O;generalize J:η t=cv at O;cases O with
   | nx Z h2=>
    split at h
    ·simp only [Ac.val.injEq,true_and] at h;subst h;cases b with
     | true=>have:=Z rfl;subst this;exact OpRes.still M (u:=.bool true) (by simp [execOp,H,J,Instr.extract]) .bool
     | false=>have:=h2 rfl;subst this;exact OpRes.still M (u:=.bool false) (by simp [execOp,H,J,Instr.extract]) .bool
    ·simp only [Ac.val.injEq] at h;obtain ⟨hb,rfl⟩:=h;have:=Z hb;subst this;exact OpRes.still M (u:=.int .i64 p) (by simp [execOp,H,J,Instr.extract]) .int
    ·simp only [Ac.val.injEq] at h;obtain ⟨hb,rfl⟩:=h;have:=Z hb;subst this;exact OpRes.still M (u:=.int .i32 c) (by simp [execOp,H,J,Instr.extract]) .int
    ·cases h
  ·simp at h
 | call c=>
  rw [H] at h
  simp only [ac] at h
  unfold aij at h
  split at h
  ·simp at h
  ·split at h<;>simp at h
  ·rename_i hc;split at h
   ·rename_i x T O hT;have ha:c.args=#[x]:=by rw [<-Array.toArray_toList (xs:=c.args),O]
    have ag:c.argTypes=#[T]:=by rw [<-Array.toArray_toList (xs:=c.argTypes),hT]
    refine OpRes.lift0 M (a00 M T _ _ v (I x) h o.type) ?_;simp [execOp,H,resolve,hc,invoke,builtin,ha,ag]
   ·simp at h
  ·split at h
   ·exact absurd h (arc (alk _ _ _ _ _ _ _))
   ·simp at h
  ·rename_i hc;obtain ⟨x,q,u,e1,e2,e3⟩:=ale (Γ:=Γ) (D:=D) (w:=w) (ow:=ow) (μ:=μ) (st:=st) false _ (c.args.map η).toList (by simp) (λi s u Z h2=>by
    rw [Bj] at Z;rw [Array.toList_map,Bj] at h2;cases hp:c.args.toList[i]? with
    | none=>rw [hp] at Z;cases Z
    | some p=>rw [hp] at Z h2;cases Z;cases h2;exact I p) v h
   refine OpRes.lift0 M ⟨u,e2,e3⟩ ?_;simp only [execOp,H,resolve,hc,invoke,builtin,Builtin.min_,Sem.run_bind,Sem.run_pure,Result.andThen_ok,e1];simp
  ·rename_i hc;obtain ⟨x,q,u,e1,e2,e3⟩:=ale (Γ:=Γ) (D:=D) (w:=w) (ow:=ow) (μ:=μ) (st:=st) true _ (c.args.map η).toList (by simp) (λi s u Z h2=>by
    rw [Bj] at Z;rw [Array.toList_map,Bj] at h2;cases hp:c.args.toList[i]? with
    | none=>rw [hp] at Z;cases Z
    | some p=>rw [hp] at Z h2;cases Z;cases h2;exact I p) v h
   refine OpRes.lift0 M ⟨u,e2,e3⟩ ?_;simp only [execOp,H,resolve,hc,invoke,builtin,Builtin.max_,Sem.run_bind,Sem.run_pure,Result.andThen_ok,e1];simp
  ·simp at h
 | makeInterface T x=>
  rw [H] at h;simp only [ac,ahh] at h
  split at h
  ·cases h
  ·cases h
  ·rename_i d am hT;simp only [Ac.val.injEq,true_and] at h;subst h;refine OpRes.lift0 M (s:=Instr.makeInterface T (η x)) ⟨.iface T (η x),?_,.ifc (I x)⟩ (by simp only [execOp,H]);unfold Instr.makeInterface;simp only [Sem.run_bind,run_underlying hT,Result.andThen_ok];exact Sem.run_pure ..
 | panic x=>rw [H] at h;simp only [ac,am9] at h;split at h<;>simp at h
 | alloc T=>
  rw [H] at h;simp only [ac,ag1,Av] at h;repeat' split at h
  all_goals cases h
 | box T x=>
  rw [H] at h;simp only [ac,aq8,Av] at h;repeat' split at h
  all_goals cases h
 | makeSlice T n c=>
  rw [H] at h;simp only [ac,ac8,aer,Av] at h;repeat' split at h
  all_goals cases h
 | store T a x=>rw [H] at h;simp only [ac] at h;exact absurd h (ant _ _ _ _ _ _)
 | insert T m k x=>rw [H] at h;simp only [ac] at h;exact absurd h (aet _ _ _ _ _ _ _)
 | mapUpdate T m k x=>rw [H] at h;simp only [ac] at h;exact absurd h (aet _ _ _ _ _ _ _)
 | mapEntry T m k=>rw [H] at h;simp only [ac] at h;exact absurd h (ajq _ _ _ _ _ _)
 | entryStore T m k x=>rw [H] at h;simp only [ac] at h;exact absurd h (aie _ _ _ _ _ _ _)
 | makeMap T r=>rw [H] at h;simp only [ac] at h;unfold ady at h;split at h<;>simp at h
 | range T x=>rw [H] at h;simp only [ac] at h;unfold ai2 at h;split at h<;>first | (simp at h;done) | (simp only [Av] at h;split at h<;>simp at h)
 | next x b=>
  rw [H] at h;simp only [ac] at h;unfold am5 at h;repeat' split at h
  all_goals simp at h
 | entry x=>
  rw [H] at h;simp only [ac] at h
  have O:=I x
  unfold akd at h
  split at h
  ·rename_i k he;split at h
   ·rename_i K E e es hk;simp only [Ac.val.injEq,true_and] at h;subst h;rw [he] at O;generalize J:η x=cv at O;cases O with
    | mitr _=>
     obtain ⟨_,_,m,ak,c0,al,q3,_,q5⟩:=M.obj k _ hk;obtain ⟨r,ents,ad,kc,vc,rfl,a2,a3,a4,a5,a6,a7,a8,a9⟩:=q5 e rfl;refine OpRes.still M (u:=.tuple #[ad.key,ad.val]) ?_ (.tup rfl λi s v hs hv=>?_)
     ·simp [execOp,H,J,Instr.entry,getObj,Sem.run,q3,a3,a4,a5]
     ·match i,hs,hv with
      | 0,hs,hv=>simp at hs hv;subst hs;subst hv;rw [a8];exact a6.ofPV
      | 1,hs,hv=>simp at hs hv;subst hs;subst hv;rw [a9];exact a7.ofPV
   ·cases h
  ·cases h
 | _=>rw [H] at h;simp [ac] at h
end
end Go.Ab
namespace Go.Ab
open Go
section
variable {Γ:Ctx}{D:Dom}{ow:Own}{μ:Nat->Nat}{st:List BX}{w:World}{η:Operand->Value}{ρ ρt ρf:Operand->SV}
def ab4 (x:Ac):Prop:=∀ c v s,x≠.upd c v s
def ay6 (x:Ac):Prop:=∀ f h,x≠.call f h
theorem aau {c:Bool}{v:SV}:ab4 (.val c v):=λ_ _ _ h=>by cases h
theorem aan:ab4 .fail:=λ_ _ _ h=>by cases h
theorem a4p (op:BinOp) (k:IntKind) (x y:Int):ab4 (axv op k x y):=by cases op<;>first | exact aau | exact aan
theorem a6a (op:BinOp) (x y:Bt):ab4 (ayt op x y):=by cases op<;>first | exact aau | exact aan
theorem azl (op:BinOp) (x y:Bool):ab4 (aom op x y):=by cases op<;>first | exact aau | exact aan
theorem ab6 {b:Bool}{x:Ac} (h:ab4 x):ab4 (bif b then x else .fail):=by grind [aan]
theorem a3u {b:Bool}{x:Ac} (h:ab4 x):ab4 (bif b then .fail else x):=by grind [aan]
theorem auk (op:BinOp) (x:SV):ab4 (agf op x):=by
 unfold agf;repeat' split
 all_goals (intro c v st' h;simp at h)
theorem avc (P:Program) (op:BinOp) (T:TypeId) (x y:SV):ab4 (aeb P op T x y):=by
 unfold aeb;split
 ·refine ab6 ?_;grind [aau,aan]
 ·exact aan
theorem ava (P:Program) (op:BinOp) (T:TypeId) (x y:SV):ay6 (aeb P op T x y):=by unfold aeb;intro f o h;grind
theorem a3k (P:Program) (op:BinOp) (T:TypeId) (x y:SV):ab4 (ath P op T x y):=by
 unfold ath;split
 ·split
  ·exact aau
  ·exact aau
  ·exact ab6 (a4p _ _ _ _)
 ·exact a6a _ _ _
 ·exact ab6 (azl _ _ _)
 ·exact ab6 (by cases op<;>first | exact aau | exact aan)
 ·exact ab6 (by cases op<;>first | exact aau | exact aan)
 ·exact avc _ _ _ _ _
theorem a9n (op:UnOp) (x:SV):ab4 (unAc op x):=by unfold unAc;grind [aau,aan]
theorem azq (P:Program) (s d:TypeId) (x:SV):ab4 (ame P s d x):=by unfold ame;refine ab6 ?_;split<;>first | exact aau | exact aan | exact ab6 aau
theorem atr (P:Program) (st:List BX) (s d:TypeId) (x:SV):ab4 (ae0 P st s d x):=by
 unfold ae0;split
 ·split
  ·exact ab6 aau
  ·exact aan
 grind [azq]
theorem aw6 (P:Program) (T:TypeId) (h:List (Nat×SV)):ab4 (aiq P T h):=by
 unfold aiq;split
 ·exact ab6 aau
 ·refine ab6 ?_;grind [aau,aan]
 ·exact aan
theorem amb (P:Program) (T:TypeId) (n:Nat) (h:List (Nat×SV)):ab4 (acr P T n h):=by
 unfold acr;split
 ·exact ab6 aau
 ·exact aan
theorem a05 (P:Program) (T:TypeId) (st:List BX) (a:SV):ab4 (agq P T st a):=by intro c v s h;unfold agq at h;grind
theorem an6 (P:Program) (st:List BX) (S:TypeId) (i:Nat) (a:SV):ab4 (acs P st S i a):=by
 unfold acs;split
 ·split
  ·refine a3u ?_;split<;>first | exact ab6 aau | exact aan
  ·exact aan
 ·exact aan
theorem axh (P:Program) (S:TypeId) (i:Nat) (a:SV):ab4 (aiu P S i a):=by
 unfold aiu;split
 ·split
  ·refine ab6 ?_;split
   ·exact ab6 aau
   ·refine ab6 ?_;grind [aau,aan]
   ·exact aan
  ·exact aan
 ·exact aan
theorem an7 (P:Program) (T:TypeId) (st:List BX) (x i:SV):ab4 (acu P T st x i):=by intro c v s h;unfold acu at h;grind
theorem axs (P:Program) (T:TypeId) (x i:SV):ab4 (aiz P T x i):=by unfold aiz;split<;>first | exact aau | exact ab6 aau | exact aan
theorem ayo (P:Program) (T:TypeId) (x:SV) (o h H:Option SV):ab4 (ai5 P T x o h H):=by
 unfold ai5;split
 ·exact aan
 ·split
  ·exact aau
  ·split
   ·grind [aau,aan]
   ·split
    ·split<;>first | exact ab6 aau | exact aan
    ·exact aan
   ·exact aan
theorem aua (P:Program) (T:TypeId) (st:List BX) (m k:SV) (h:Bool):ab4 (acy P T st m k h):=by
 unfold acy;split
 ·refine ab6 ?_;split
  ·exact ab6 aau
  ·split
   ·exact ab6 aau
   ·exact aan
  ·exact aan
 ·exact aan
theorem a4x (P:Program) (T:TypeId) (st:List BX) (x:SV):ab4 (ap6 P T st x):=by unfold ap6;grind [aau,aan]
theorem am4 (h:Bool) (o:List SV):ab4 (adw h o):=by unfold adw;grind [aau,aan]
theorem am2 (o:Bool) (H:List SV):ay6 (adw o H):=by unfold adw;intro f I h;grind
theorem ap9 (fn:Fn) (first cs:List SV):ab4 (aeg fn first cs):=by unfold aeg;grind [aau,aan]
theorem a3v {b:Bool}{x:Ac}{v:SV}{s:List BX} (h:(bif b then x else .fail)=.upd true v s):b=true/\x=.upd true v s:=by grind
theorem ak7 (O:WRel Γ D ow μ st w) (I:∀ x,SRep Γ.P D w ow μ st (ρ x) (η x)) (o:Oper) (v:SV) (st':List BX) (h:ac Γ.P o.op ρ ρt ρf st=.upd true v st'):OpRes Γ D ow μ st w ((execOp η o).run Γ.P w) v st':=by
 cases H:o.op with
 | alloc T=>rw [H] at h;simp only [ac] at h;obtain ⟨u,w',J,M⟩:=atc O T h;exact OpRes.lift J M (by simp only [execOp,H])
 | box T x=>rw [H] at h;simp only [ac] at h;obtain ⟨u,w',J,M⟩:=atl O T _ _ (I x) h;exact OpRes.lift J M (by simp only [execOp,H])
 | makeSlice T n c=>
  rw [H] at h;simp only [ac] at h;cases hz:a0n n with
  | true=>rw [hz] at h;simp only [Af] at h;obtain ⟨u,w',J,M⟩:=am1 O T _ _ _ _ v st' (I n) (I c) h;exact OpRes.lift J M (by simp only [execOp,H])
  | false=>rw [hz] at h;simp only [Ah] at h;obtain ⟨u,w',J,M⟩:=aqb O T _ _ _ _ v st' (I n) (I c) h;exact OpRes.lift J M (by simp only [execOp,H])
 | store T a x=>rw [H] at h;simp only [ac] at h;obtain ⟨w',J,M⟩:=aqr O T _ _ _ _ v st' (I a) (I x) h;exact OpRes.liftU J M (by simp only [execOp,H])
 | insert T m k x=>rw [H] at h;simp only [ac] at h;obtain ⟨w',J,M⟩:=ahi O T _ _ _ _ _ _ v st' (I m) (I k) (I x) h;exact OpRes.liftU J M (by simp only [execOp,H])
 | mapUpdate T m k x=>rw [H] at h;simp only [ac] at h;obtain ⟨w',J,M⟩:=ahi O T _ _ _ _ _ _ v st' (I m) (I k) (I x) h;exact OpRes.liftU J M (by simp only [execOp,H])
 | mapEntry T m k=>rw [H] at h;simp only [ac] at h;obtain ⟨u,w',J,M⟩:=aoa O T _ _ _ _ v st' (I m) (I k) h;exact OpRes.lift J M (by simp only [execOp,H])
 | entryStore T m k x=>rw [H] at h;simp only [ac] at h;obtain ⟨w',J,M⟩:=alo O T _ _ _ _ _ _ v st' (I m) (I k) (I x) h;exact OpRes.liftU J M (by simp only [execOp,H])
 | makeMap T r=>
  rw [H] at h;simp only [ac] at h;unfold ady at h;split at h
  ·rename_i K E hT;simp only [Ac.upd.injEq,true_and] at h;obtain ⟨rfl,rfl⟩:=h;obtain ⟨u,w',J,M⟩:=aqa O T K E;exact OpRes.lift J M (by simp only [execOp,H];rfl)
  ·simp at h
 | call c=>
  rw [H] at h;simp only [ac] at h;unfold aij at h;split at h
  ·simp at h
  ·split at h<;>simp at h
  ·split at h
   ·exact absurd h (a4x _ _ _ _ _ _ _)
   ·simp at h
  ·rename_i hc;split at h
   ·rename_i x y T T' hx hT;obtain ⟨h1,h2⟩:=a3v h;have:=Ae h1;subst this;have ha:c.args=#[x,y]:=by rw [<-Array.toArray_toList (xs:=c.args),hx]
    have Z:c.argTypes=#[T,T]:=by rw [<-Array.toArray_toList (xs:=c.argTypes),hT]
    obtain ⟨u,w',J,M⟩:=aq2 O T o.type _ _ _ _ v st' (I x) (I y) h2;refine OpRes.lift J M ?_;simp [execOp,H,resolve,hc,invoke,builtin,ha,Z]
   ·simp at h
  ·exact absurd h (am4 _ _ _ _ _)
  ·exact absurd h (am4 _ _ _ _ _)
  ·simp at h
 | move x=>rw [H] at h;simp [ac] at h
 | assign x=>rw [H] at h;simp [ac] at h
 | pick c x y=>rw [H] at h;simp only [ac] at h;split at h<;>simp at h
 | build T ps=>rw [H] at h;exact absurd h (aw6 _ _ _ _ _ _)
 | buildSlice T n ps=>rw [H] at h;exact absurd h (amb _ _ _ _ _ _ _)
 | load T a=>rw [H] at h;exact absurd h (a05 _ _ _ _ _ _ _)
 | nilCheck x=>
  rw [H] at h;simp only [ac,Av] at h;repeat' split at h
  all_goals cases h
 | binOp b T x y T2=>
  rw [H] at h;simp only [ac,ama,Av] at h;split at h
  ·split at h
   ·exact absurd h (auk _ _ _ _ _)
   ·simp at h
  ·exact absurd h (a3k _ _ _ _ _ _ _ _)
 | unOp u T x=>rw [H] at h;exact absurd h (a9n _ _ _ _ _)
 | convert s d x=>rw [H] at h;exact absurd h (atr _ _ _ _ _ _ _ _)
 | makeFunc fn first cs=>rw [H] at h;exact absurd h (ap9 _ _ _ _ _ _)
 | slice T x lo hi mx=>rw [H] at h;exact absurd h (ayo _ _ _ _ _ _ _ _ _)
 | fieldAddr S x i=>rw [H] at h;exact absurd h (an6 _ _ _ _ _ _ _ _)
 | field S x i=>rw [H] at h;exact absurd h (axh _ _ _ _ _ _ _)
 | indexAddr T x i=>rw [H] at h;exact absurd h (an7 _ _ _ _ _ _ _ _)
 | index T x i=>rw [H] at h;exact absurd h (axs _ _ _ _ _ _ _)
 | lookup T m k ok=>rw [H] at h;exact absurd h (aua _ _ _ _ _ _ _ _ _)
 | extract t i=>rw [H] at h;simp only [ac] at h;unfold ag6 at h;split at h<;>first | (simp at h;done) | (split at h<;>simp at h)
 | range T x=>rw [H] at h;simp only [ac] at h;obtain ⟨u,w',J,M⟩:=aun O T _ _ v st' (I x) h;exact OpRes.lift J M (by simp only [execOp,H])
 | next x b=>rw [H] at h;simp only [ac] at h;obtain ⟨u,w',J,M⟩:=ayb O _ _ b o.type v st' (I x) h;exact OpRes.lift J M (by simp only [execOp,H])
 | entry x=>
  rw [H] at h;simp only [ac] at h;unfold akd at h;repeat' split at h
  all_goals simp at h
 | makeInterface T x=>rw [H] at h;simp only [ac,ahh] at h;split at h<;>simp at h
 | panic x=>rw [H] at h;simp only [ac,am9] at h;split at h<;>simp at h
 | _=>rw [H] at h;simp [ac] at h
theorem abx (ad:∀ x,SRep Γ.P D w ow μ st (ρ x) (η x)) (ag:∀ f,η (.func f)=.func (.func f) #[] #[]) (o:Oper) (f:FuncId) (args:List SV) (h:ac Γ.P o.op ρ ρt ρf st=.call f args):
 ∃ O:Array Value,(execOp η o).run Γ.P w=(callFunc f O).run Γ.P w/\O.size=args.length/\∀ (i:Nat) (s:SV) (v:Value),args[i]?=some s->O[i]?=some v->SRep Γ.P D w ow μ st s v:=by
 have J:∀ xs:Array Operand,∀ (i:Nat) (s:SV) (v:Value),(xs.toList.map ρ)[i]?=some s->(xs.map η)[i]?=some v->SRep Γ.P D w ow μ st s v:=by
  intro xs i s v M I;rw [Bj] at M;rw [Array.getElem?_map] at I;cases hp:xs[i]? with
  | none=>rw [hp] at I;simp at I
  | some p=>
   have:xs.toList[i]?=some p:=by simpa using hp
   rw [this] at M;rw [hp] at I;simp at M I;subst M;subst I;exact ad p
 cases H:o.op with
 | call c=>
  rw [H] at h;simp only [ac] at h
  unfold aij at h
  split at h
  ·rename_i g hc;simp only [Ac.call.injEq] at h;obtain ⟨rfl,rfl⟩:=h;refine ⟨c.args.map η,?_,by simp,J c.args⟩;simp [execOp,H,resolve,hc,ag,Deferred.ofValue,invoke]
  ·rename_i x ai hc;have hx:=ad x;split at h
   ·rename_i g n caps he;simp only [Ac.call.injEq] at h;obtain ⟨rfl,rfl⟩:=h;rw [he] at hx;generalize ae:η x=cv at hx;cases hx with
    | @fn _ _ _ us vs hn ab Z=>
     have ah:n<=caps.length:=by rw [<-ab,<-hn];simp
     have af:(caps.take n).length=us.size:=by rw [List.length_take,hn];omega
     refine ⟨us++c.args.map η++vs,?_,by simp at ab ⊢;omega,λi s v M I=>?_⟩
     ·simp [execOp,H,resolve,hc,ae,Deferred.ofValue,invoke]
     ·rw [Array.append_assoc] at I;by_cases hi:i<us.size
      ·rw [Ax (by omega),List.getElem?_take_of_lt (by omega)] at M;rw [Array.getElem?_append_left hi] at I;exact Z i s v M (by rw [Array.getElem?_append_left hi];exact I)
      ·rw [A3 (by omega),af] at M;rw [Array.getElem?_append_right (by omega)] at I;by_cases aa:i-us.size<c.args.size
       ·rw [Ax (by simpa using aa)] at M;rw [Array.getElem?_append_left (by simpa using aa)] at I;exact J c.args _ s v M I
       ·rw [A3 (by simp;omega),List.getElem?_drop] at M;rw [Array.getElem?_append_right (by simp;omega)] at I;simp only [List.length_map,Array.length_toList,Array.size_map] at M I;refine Z _ s v M ?_;rw [Array.getElem?_append_right (by omega)];rw [show n+(i-us.size-c.args.size)-us.size=i-us.size-c.args.size by omega];exact I
   ·simp at h
  ·split at h
   ·unfold ap6 at h;split at h<;>first | (simp at h;done) | (split at h<;>simp at h)
   ·simp at h
  ·split at h
   ·simp only [Av] at h;split at h
    ·unfold ac4 at h;simp only [Av] at h;repeat' split at h
     all_goals simp at h
    ·simp at h
   ·simp at h
  ·exact absurd h (am2 _ _ _ _)
  ·exact absurd h (am2 _ _ _ _)
  ·simp at h
 | move x=>rw [H] at h;simp [ac] at h
 | assign x=>rw [H] at h;simp [ac] at h
 | pick c x y=>rw [H] at h;simp only [ac] at h;split at h<;>simp at h
 | alloc T=>
  rw [H] at h;simp only [ac,ag1,Av] at h;repeat' split at h
  all_goals cases h
 | box T x=>
  rw [H] at h;simp only [ac,aq8,Av] at h;repeat' split at h
  all_goals cases h
 | makeSlice T n c=>
  rw [H] at h;simp only [ac,ac8,aer,Av] at h;repeat' split at h
  all_goals cases h
 | store T a x=>
  rw [H] at h;simp only [ac,ad6,ado,Av] at h;repeat' split at h
  all_goals simp at h
 | insert T m k x=>
  rw [H] at h;simp only [ac,abr,Av] at h;repeat' split at h
  all_goals simp at h
 | mapUpdate T m k x=>
  rw [H] at h;simp only [ac,abr,Av] at h;repeat' split at h
  all_goals simp at h
 | mapEntry T m k=>
  rw [H] at h;simp only [ac,ab8,Av] at h;repeat' split at h
  all_goals simp at h
 | entryStore T m k x=>
  rw [H] at h;simp only [ac,aby,Av] at h;repeat' split at h
  all_goals simp at h
 | makeMap T r=>rw [H] at h;simp only [ac,ady] at h;split at h<;>simp at h
 | build T ps=>
  rw [H] at h;simp only [ac,aiq,Av] at h;repeat' split at h
  all_goals simp at h
 | buildSlice T n ps=>
  rw [H] at h;simp only [ac,acr,Av] at h;repeat' split at h
  all_goals simp at h
 | load T a=>
  rw [H] at h;simp only [ac,agq,Av] at h;repeat' split at h
  all_goals simp at h
 | nilCheck x=>
  rw [H] at h;simp only [ac,Av] at h;repeat' split at h
  all_goals cases h
 | binOp b T x y T2=>
  rw [H] at h;simp only [ac,ama,agf,ath,Av] at h;repeat' split at h
  all_goals first
   | (exact absurd h (ava _ _ _ _ _ _ _))
   | (simp at h;done)
   | (cases b<;>simp [axv] at h;done)
   | (cases b<;>simp [ayt] at h;done)
   | (cases b<;>simp [aom] at h;done)
   | (cases b<;>simp [aei] at h;done)
 | unOp u T x=>
  rw [H] at h;simp only [ac,unAc] at h;repeat' split at h
  all_goals simp at h
 | convert s d x=>
  rw [H] at h;simp only [ac,ae0,ame,Av] at h;repeat' split at h
  all_goals simp at h
 | makeFunc fn first cs=>rw [H] at h;simp only [ac,aeg] at h;split at h<;>simp at h
 | slice T x lo hi mx=>
  rw [H] at h;simp only [ac,ai5,Av] at h;repeat' split at h
  all_goals simp at h
 | fieldAddr S x i=>
  rw [H] at h;simp only [ac,acs,Av] at h;repeat' split at h
  all_goals simp at h
 | field S x i=>
  rw [H] at h;simp only [ac,aiu,Av] at h;repeat' split at h
  all_goals simp at h
 | indexAddr T x i=>
  rw [H] at h;simp only [ac,acu,Av] at h;repeat' split at h
  all_goals simp at h
 | index T x i=>
  rw [H] at h;simp only [ac,aiz,Av] at h;repeat' split at h
  all_goals simp at h
 | lookup T m k ok=>
  rw [H] at h;simp only [ac,acy,Av] at h;repeat' split at h
  all_goals simp at h
 | extract t i=>rw [H] at h;simp only [ac] at h;unfold ag6 at h;split at h<;>first | (simp at h;done) | (split at h<;>simp at h)
 | range T x=>rw [H] at h;simp only [ac] at h;unfold ai2 at h;split at h<;>first | (simp at h;done) | (simp only [Av] at h;split at h<;>simp at h)
 | next x b=>
  rw [H] at h;simp only [ac] at h;unfold am5 at h;repeat' split at h
  all_goals simp at h
 | entry x=>
  rw [H] at h;simp only [ac] at h;unfold akd at h;repeat' split at h
  all_goals simp at h
 | makeInterface T x=>rw [H] at h;simp only [ac,ahh] at h;split at h<;>simp at h
 | panic x=>rw [H] at h;simp only [ac,am9] at h;split at h<;>simp at h
 | _=>rw [H] at h;simp [ac] at h
theorem avb (P:Program) (op:BinOp) (T:TypeId) (x y:SV) (v:SV):aeb P op T x y≠.pan v:=by unfold aeb;grind
theorem am3 (h:Bool) (o:List SV) (v:SV):adw h o≠.pan v:=by unfold adw;grind
theorem aqz (M:∀ x,SRep Γ.P D w ow μ st (ρ x) (η x)) (o:Oper) (s:SV) (h:ac Γ.P o.op ρ ρt ρf st=.pan s):∃ u,(execOp η o).run Γ.P w=.halt (.panic u) w/\SRep Γ.P D w ow μ st s u:=by
 cases H:o.op with
 | panic x=>
  rw [H] at h;simp only [ac,am9] at h;split at h
  ·rename_i T y Z;simp only [Ac.pan.injEq] at h;subst h;have I:=M x;rw [Z] at I;generalize J:η x=O at I;refine ⟨O,?_,I⟩;cases I with
   | ifc I=>simp [execOp,H,J,Instr.panic,goPanic]
  ·cases h
 | call c=>
  rw [H] at h;simp only [ac] at h;unfold aij at h;split at h
  ·cases h
  ·split at h<;>cases h
  ·split at h
   ·unfold ap6 at h;split at h<;>first | (simp at h;done) | (split at h<;>simp at h)
   ·cases h
  ·split at h
   ·simp only [Av] at h;split at h
    ·unfold ac4 at h;simp only [Av] at h;repeat' split at h
     all_goals cases h
    ·cases h
   ·cases h
  ·exact absurd h (am3 _ _ _)
  ·exact absurd h (am3 _ _ _)
  ·cases h
 | move x=>rw [H] at h;simp [ac] at h
 | assign x=>rw [H] at h;simp [ac] at h
 | pick c x y=>rw [H] at h;simp only [ac] at h;split at h<;>simp at h
 | alloc T=>
  rw [H] at h;simp only [ac,ag1,Av] at h;repeat' split at h
  all_goals cases h
 | box T x=>
  rw [H] at h;simp only [ac,aq8,Av] at h;repeat' split at h
  all_goals cases h
 | makeSlice T n c=>
  rw [H] at h;simp only [ac,ac8,aer,Av] at h;repeat' split at h
  all_goals cases h
 | store T a x=>
  rw [H] at h;simp only [ac,ad6,ado,Av] at h;repeat' split at h
  all_goals simp at h
 | insert T m k x=>
  rw [H] at h;simp only [ac,abr,Av] at h;repeat' split at h
  all_goals simp at h
 | mapUpdate T m k x=>
  rw [H] at h;simp only [ac,abr,Av] at h;repeat' split at h
  all_goals simp at h
 | mapEntry T m k=>
  rw [H] at h;simp only [ac,ab8,Av] at h;repeat' split at h
  all_goals simp at h
 | entryStore T m k x=>
  rw [H] at h;simp only [ac,aby,Av] at h;repeat' split at h
  all_goals simp at h
 | makeMap T r=>rw [H] at h;simp only [ac,ady] at h;split at h<;>simp at h
 | build T ps=>
  rw [H] at h;simp only [ac,aiq,Av] at h;repeat' split at h
  all_goals simp at h
 | buildSlice T n ps=>
  rw [H] at h;simp only [ac,acr,Av] at h;repeat' split at h
  all_goals simp at h
 | load T a=>
  rw [H] at h;simp only [ac,agq,Av] at h;repeat' split at h
  all_goals simp at h
 | nilCheck x=>
  rw [H] at h;simp only [ac,Av] at h;repeat' split at h
  all_goals cases h
 | binOp b T x y T2=>
  rw [H] at h;simp only [ac,ama,agf,ath,Av] at h;repeat' split at h
  all_goals first
   | (exact absurd h (avb _ _ _ _ _ _))
   | (simp at h;done)
   | (cases b<;>simp [axv] at h;done)
   | (cases b<;>simp [ayt] at h;done)
   | (cases b<;>simp [aom] at h;done)
   | (cases b<;>simp [aei] at h;done)
 | unOp u T x=>
  rw [H] at h;simp only [ac,unAc] at h;repeat' split at h
  all_goals simp at h
 | convert s d x=>
  rw [H] at h;simp only [ac,ae0,ame,Av] at h;repeat' split at h
  all_goals simp at h
 | makeFunc fn first cs=>rw [H] at h;simp only [ac,aeg] at h;split at h<;>simp at h
 | slice T x lo hi mx=>
  rw [H] at h;simp only [ac,ai5,Av] at h;repeat' split at h
  all_goals simp at h
 | fieldAddr S x i=>
  rw [H] at h;simp only [ac,acs,Av] at h;repeat' split at h
  all_goals simp at h
 | field S x i=>
  rw [H] at h;simp only [ac,aiu,Av] at h;repeat' split at h
  all_goals simp at h
 | indexAddr T x i=>
  rw [H] at h;simp only [ac,acu,Av] at h;repeat' split at h
  all_goals simp at h
 | index T x i=>
  rw [H] at h;simp only [ac,aiz,Av] at h;repeat' split at h
  all_goals simp at h
 | lookup T m k ok=>
  rw [H] at h;simp only [ac,acy,Av] at h;repeat' split at h
  all_goals simp at h
 | extract t i=>rw [H] at h;simp only [ac] at h;unfold ag6 at h;split at h<;>first | (simp at h;done) | (split at h<;>simp at h)
 | range T x=>rw [H] at h;simp only [ac] at h;unfold ai2 at h;split at h<;>first | (simp at h;done) | (simp only [Av] at h;split at h<;>simp at h)
 | next x b=>
  rw [H] at h;simp only [ac] at h;unfold am5 at h;repeat' split at h
  all_goals simp at h
 | entry x=>
  rw [H] at h;simp only [ac] at h;unfold akd at h;repeat' split at h
  all_goals simp at h
 | makeInterface T x=>rw [H] at h;simp only [ac,ahh] at h;split at h<;>simp at h
 | _=>rw [H] at h;simp [ac] at h
end
end Go.Ab
