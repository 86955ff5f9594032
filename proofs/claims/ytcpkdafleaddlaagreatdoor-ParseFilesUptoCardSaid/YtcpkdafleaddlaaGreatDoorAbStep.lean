/- One operation: what the evaluator says of it, the model does. -/
import Derived.Test.YtcpkdafleaddlaaGreatDoorAbBuild
set_option linter.unusedVariables false
set_option linter.unusedSimpArgs false
set_option linter.unnecessarySimpa false
namespace Go.Ab
open Go
section
variable {Γ:Ctx}{D:Dom}{ow:Own}{μ:Nat->Nat}{st:List BX}{w:World}{η:Operand->Value}{ρ ρt ρf:Operand->SV}
theorem OpRes.lift {r:Result Next}{v:SV}{st':List BX}{s:Sem Value}{u:Value}{w':World} (m:s.run Γ.P w=.ok u w') (h:OpRes Γ D ow μ st w (.ok (.value u) w') v st') (d:r=(do pure (.value (<-s)):Sem Next).run Γ.P w):OpRes Γ D ow μ st w r v st':=by grind [Sem.run_bind,Result.andThen_ok,Sem.run_pure]
theorem OpRes.lift0 (z:WRel Γ D ow μ st w) {r:Result Next}{v:SV}{s:Sem Value} (h:∃ u,s.run Γ.P w=.ok u w/\SRep Γ.P D w ow μ st v u) (o:r=(do pure (.value (<-s)):Sem Next).run Γ.P w):OpRes Γ D ow μ st w r v st:=by obtain ⟨u,d,m⟩:=h;exact OpRes.lift d (OpRes.still z rfl m) o
theorem OpRes.liftU {r:Result Next}{v:SV}{st':List BX}{s:Sem Unit}{w':World} (m:s.run Γ.P w=.ok () w') (h:OpRes Γ D ow μ st w (.ok .skip w') v st') (d:r=(do s;pure .skip:Sem Next).run Γ.P w):OpRes Γ D ow μ st w r v st':=by grind [Sem.run_bind,Result.andThen_ok,Sem.run_pure]
theorem at1 {b:Bool}{x:Ac}{v:SV} (h:x≠.val true v):(bif b then x else .fail)≠.val true v:=by grind
theorem amm (P:Program) (st:List BX) (T:TypeId) (x y:SV) (c:Bool) (v:SV):ads P st T x y≠.val c v:=by unfold ads;grind
theorem ao4 (P:Program) (T:TypeId) (st:List BX) (a x:SV) (v:SV):aei P T st a x≠.val true v:=by unfold aei;grind
theorem ae5 (P:Program) (T:TypeId) (st:List BX) (m k x:SV) (v:SV):abv P T st m k x≠.val true v:=by unfold abv;grind
theorem au1 (m:∀ x,SRep Γ.P D w ow μ st (ρ x) (η x)) (d:Array (Nat×Operand)):(d.toList.map λ(i,x)=>(i,ρ x)).length=(d.map λ(i,x)=>(i,η x)).size/\
 ∀ (n i:Nat) (s:SV) (j:Nat) (u:Value),(d.toList.map λ(i,x)=>(i,ρ x))[n]?=some (i,s)->(d.map λ(i,x)=>(i,η x))[n]?=some (j,u)->i=j/\SRep Γ.P D w ow μ st s u:=by
 grind
theorem aw7 (z:Bool):∀ (ss:List SV) (m:List Value) (k:IntKind) (a n:Int),ss.length=m.length->(∀ (i:Nat) (s:SV) (u:Value),ss[i]?=some s->m[i]?=some u->SRep Γ.P D w ow μ st s u)->ait z a ss=some n->
 (m.foldlM (if z then Builtin.max2 else Builtin.min2) (.int k a):Sem Value).run Γ.P w=.ok (.int k n) w:=by
 intro ss
 induction ss with
 | nil=>
  intro m k a n o _ h
  have:m=[]:=Az (by grind)
  subst this
  simp [ait] at h;subst h
  simp
 | cons x r U=>
  intro m k a n o d h
  cases m with
  | nil=>simp at o
  | cons u q=>
   have H:=d 0 x u rfl rfl
   cases x with
   | int W b=>
    generalize V:u=uu at H
    cases H
    simp only [ait] at h
    have:=U q k _ n (by simpa using o) (λi s v M O=>d (i+1) s v (by simpa using M) (by simpa using O)) h
    cases z
    ·simp only [Ae,A2,A7] at this ⊢;grind [Builtin.min2]
    ·simp only [Ad,A6] at this ⊢;grind [Builtin.max2]
   | _=>simp [ait] at h
theorem al9 (o:Bool) (ss:List SV) (m:List Value) (z:ss.length=m.length) (d:∀ (i:Nat) (s:SV) (u:Value),ss[i]?=some s->m[i]?=some u->SRep Γ.P D w ow μ st s u) (v:SV) (h:ad8 o ss=.val true v):
 ∃ (x:Value) (q:List Value) (u:Value),m=x::q/\(q.foldlM (if o then Builtin.max2 else Builtin.min2) x:Sem Value).run Γ.P w=.ok u w/\SRep Γ.P D w ow μ st v u:=by
 unfold ad8 at h
 split at h
 ·rename_i k a r;cases m with
  | nil=>simp at z
  | cons x q=>
   have H:=d 0 _ x rfl rfl;generalize V:x=W at H;cases H;split at h
   ·rename_i n U;simp only [Ac.val.injEq,true_and] at h;subst h;exact ⟨_,q,_,rfl,aw7 o r q k a n (by simpa using z) (λi s v M O=>d (i+1) s v (by simpa using M) (by simpa using O)) U,.int⟩
   ·cases h
 ·cases h
theorem afc (U:WRel Γ D ow μ st w) (O:∀ x,SRep Γ.P D w ow μ st (ρ x) (η x)) (o:Oper)
 (aa:∀ c x y,o.op=.pick c x y->(η c=.bool true->SRep Γ.P D w ow μ st (ρt x) (η x))/\(η c=.bool false->SRep Γ.P D w ow μ st (ρf y) (η y)))
 (v:SV) (h:ac Γ.P o.op ρ ρt ρf st=.val true v):OpRes Γ D ow μ st w ((execOp η o).run Γ.P w) v st:=by
 cases z:o.op with
 | move x=>rw [z] at h;simp only [ac,Ac.val.injEq,true_and] at h;grind [OpRes.still,execOp,Sem.run_pure]
 | assign x=>rw [z] at h;simp only [ac,Ac.val.injEq,true_and] at h;grind [OpRes.still,execOp,Sem.run_pure]
 | pick c x y=>
  rw [z] at h;simp only [ac] at h
  obtain ⟨V,Y⟩:=aa c x y z
  split at h
  ·rename_i b p q hc M hy;simp only [Ac.val.injEq,true_and] at h;subst h;have Z:=O c;rw [hc] at Z;generalize H:η c=X at Z;cases Z;have af:(execOp η o).run Γ.P w=.ok (.value (if b then η x else η y)) w:=by
    grind [execOp,asBool,Sem.run_bind,Sem.run_pure,Result.andThen_ok]
   rw [af];cases b with
   | true=>have:=V H;rw [M] at this;exact OpRes.still U rfl this
   | false=>have:=Y H;rw [hy] at this;exact OpRes.still U rfl this
  ·simp at h
 | build T ps=>
  rw [z] at h;simp only [ac] at h
  obtain ⟨q1,q2⟩:=au1 (Γ:=Γ) O ps
  exact OpRes.lift0 U (av9 T _ _ v q1 q2 h) (by grind [execOp])
 | buildSlice T n ps=>
  rw [z] at h;simp only [ac] at h
  obtain ⟨q1,q2⟩:=au1 (Γ:=Γ) O ps
  grind [amn,OpRes.lift,execOp]
 | load T a=>grind [ac,OpRes.lift0,a03,execOp]
 | nilCheck x=>
  rw [z] at h;simp only [ac] at h
  have M:=O x
  split at h
  ·rename_i k p T W;simp only [Ac.val.injEq,true_and] at h;subst h;rw [W] at M;generalize H:η x=X at M;have h':=M;cases M;grind [OpRes.still,execOp,Sem.run_pure]
  ·rename_i T pv W;simp only [Ac.val.injEq,true_and] at h;subst h;rw [W] at M;generalize H:η x=X at M;have h':=M;cases M;grind [OpRes.still,execOp,Sem.run_pure]
  ·rename_i f cs W;simp only [Ac.val.injEq,true_and] at h;subst h;rw [W] at M;generalize H:η x=X at M;have h':=M;cases M;grind [OpRes.still,execOp,Sem.run_pure]
  ·rename_i k T W;simp only [Ac.val.injEq,true_and] at h;subst h;rw [W] at M;generalize H:η x=X at M;have h':=M;cases M;grind [OpRes.still,execOp,Sem.run_pure]
  ·rename_i k g i E p T W;cases hg:ags st k g with
   | false=>grind
   | true=>
    rw [hg] at h;simp only [Ad,Ac.val.injEq,true_and] at h;subst h;rw [W] at M;generalize H:η x=X at M;have h':=M;cases M with
    | arefOld hk ad _=>grind [ags,Nat.eq_of_beq_eq_true]
    | aref=>grind [OpRes.still,execOp,Sem.run_pure]
  ·simp at h
 | binOp b T x y T2=>
  rw [z] at h;simp only [ac] at h
  unfold ank at h
  cases hN:(a4o y&&amz Γ.P T) with
  | false=>
   rw [hN] at h
   exact OpRes.lift0 U (a3d T b _ _ _ _ v (O x) (O y) h x y) (by grind [execOp])
  | true=>
   rw [hN] at h
   simp only [Ad] at h
   simp only [Ai] at hN
   split at h
   ·rename_i hb;have hy:=O y;rw [hb] at hy;have H:η y=.nilIface:=by
     generalize η y=X at hy;cases hy with
     | eif V _=>exact V rfl
    have ae:y=.const .nilIface:=by grind [a4o]
    subst ae;have:=awv (Γ:=Γ) (D:=D) (w:=w) T b _ _ v (O x) hN.2 h x;grind [eqGuard,binOp,OpRes.lift0,execOp]
   ·simp at h
 | unOp u T x=>grind [ac,OpRes.lift0,ba2,execOp]
 | convert s d x=>grind [ac,OpRes.lift0,at2,execOp]
 | makeFunc fn first cs=>
  rw [z] at h;simp only [ac] at h
  unfold aex at h
  split at h
  ·rename_i f;simp only [Ac.val.injEq,true_and] at h;subst h;refine OpRes.still U (u:=.func (.func f) (first.map η) (cs.map η)) (by simp [execOp,z,Instr.makeFunc]) (.fn (by simp) (by simp) (λi s v hi hv=>?_));grind
  ·simp at h
 | slice T x lo hi mx=>
  rw [z] at h;simp only [ac] at h
  refine OpRes.lift0 U (axy T _ _ _ _ _ (lo.map η) (hi.map η) (mx.map η) v (O x) ?_ (by simp) ?_ (by simp) (by simp) h) (by grind [execOp])
  ·intro s u V Y;cases lo with
   | none=>simp at V
   | some l=>grind
  ·intro s u V Y;cases hi with
   | none=>simp at V
   | some l=>grind
 | fieldAddr S x i=>grind [ac,OpRes.lift0,an2,execOp]
 | field S x i=>grind [ac,OpRes.lift0,awn,execOp]
 | indexAddr T x i=>grind [ac,OpRes.lift0,an3,execOp]
 | index T x i=>grind [ac,OpRes.lift0,awx,execOp]
 | lookup T m k ok=>grind [ac,OpRes.lift0,aum,execOp]
 | extract t i=>
  rw [z] at h;simp only [ac] at h
  have M:=O t
  unfold ahy at h
  split at h
  ·rename_i vs W;split at h
   ·rename_i s hs;simp only [Ac.val.injEq,true_and] at h;subst h;rw [W] at M;generalize H:η t=X at M;cases M with
    | @tup _ us ai ab=>
     have ad:i<us.size:=by grind
     have hu:us[i]?=some us[i]:=Array.getElem?_eq_getElem ad;exact OpRes.still U (u:=us[i]) (by simp [execOp,z,H,Instr.extract,hu]) (ab i _ _ hs hu)
   ·simp at h
  ·rename_i b p c W;rw [W] at M;generalize H:η t=X at M;cases M with
   | nx V Y=>
    split at h
    ·simp only [Ac.val.injEq,true_and] at h;subst h;cases b with
     | true=>have:=V rfl;subst this;exact OpRes.still U (u:=.bool true) (by simp [execOp,z,H,Instr.extract]) .bool
     | false=>have:=Y rfl;subst this;exact OpRes.still U (u:=.bool false) (by simp [execOp,z,H,Instr.extract]) .bool
    ·simp only [Ac.val.injEq] at h;obtain ⟨hb,rfl⟩:=h;have:=V hb;subst this;exact OpRes.still U (u:=.int .i64 p) (by simp [execOp,z,H,Instr.extract]) .int
    ·simp only [Ac.val.injEq] at h;obtain ⟨hb,rfl⟩:=h;have:=V hb;subst this;exact OpRes.still U (u:=.int .i32 c) (by simp [execOp,z,H,Instr.extract]) .int
    ·cases h
  ·simp at h
 | call c=>
  rw [z] at h
  simp only [ac] at h
  unfold aj6 at h
  split at h
  ·simp at h
  ·grind
  ·rename_i hc;split at h
   ·rename_i x T M hT;have ha:c.args=#[x]:=by grind
    have ag:c.argTypes=#[T]:=by grind
    refine OpRes.lift0 U (a43 U T _ _ v (O x) h o.type) ?_;grind [execOp,resolve,invoke,builtin]
   ·simp at h
  ·split at h
   ·exact absurd h (at1 (amm _ _ _ _ _ _ _))
   ·simp at h
  ·rename_i hc;obtain ⟨x,q,u,e1,e2,e3⟩:=al9 (Γ:=Γ) (D:=D) (w:=w) (ow:=ow) (μ:=μ) (st:=st) false _ (c.args.map η).toList (by simp) (λi s u V Y=>by
    grind) v h
   refine OpRes.lift0 U ⟨u,e2,e3⟩ ?_;simp only [execOp,z,resolve,hc,invoke,builtin,Builtin.min_,Sem.run_bind,Sem.run_pure,Result.andThen_ok,e1];simp
  ·rename_i hc;obtain ⟨x,q,u,e1,e2,e3⟩:=al9 (Γ:=Γ) (D:=D) (w:=w) (ow:=ow) (μ:=μ) (st:=st) true _ (c.args.map η).toList (by simp) (λi s u V Y=>by
    grind) v h
   refine OpRes.lift0 U ⟨u,e2,e3⟩ ?_;simp only [execOp,z,resolve,hc,invoke,builtin,Builtin.max_,Sem.run_bind,Sem.run_pure,Result.andThen_ok,e1];simp
  ·simp at h
 | makeInterface T x=>
  rw [z] at h;simp only [ac,ah7] at h
  split at h
  ·cases h
  ·cases h
  ·rename_i d ah hT;simp only [Ac.val.injEq,true_and] at h;subst h;refine OpRes.lift0 U (s:=Instr.makeInterface T (η x)) ⟨.iface T (η x),?_,.ifc (O x)⟩ (by grind [execOp]);unfold Instr.makeInterface;simp only [Sem.run_bind,run_underlying hT,Result.andThen_ok];simp_all
 | panic x=>rw [z] at h;simp only [ac,aor] at h;grind
 | alloc T=>rw [z] at h;simp only [ac,ahn,Av] at h;grind
 | box T x=>rw [z] at h;simp only [ac,aty,Av] at h;grind
 | makeSlice T n c=>rw [z] at h;simp only [ac,adm,ae4,Av] at h;grind
 | store T a x=>grind [ac,absurd,ao4]
 | insert T m k x=>grind [ac,absurd,ae5]
 | mapUpdate T m k x=>grind [ac,absurd,ae5]
 | makeMap T r=>rw [z] at h;simp only [ac] at h;unfold aea at h;grind
 | range T x=>rw [z] at h;simp only [ac] at h;unfold ajs at h;grind
 | next x b=>
  rw [z] at h;simp only [ac] at h;unfold aol at h
  grind
 | _=>rw [z] at h;simp [ac] at h
end
end Go.Ab
namespace Go.Ab
open Go
section
variable {Γ:Ctx}{D:Dom}{ow:Own}{μ:Nat->Nat}{st:List BX}{w:World}{η:Operand->Value}{ρ ρt ρf:Operand->SV}
def ab7 (x:Ac):Prop:=∀ c v s,x≠.upd c v s
def a2o (x:Ac):Prop:=∀ f d,x≠.call f d
theorem aay {c:Bool}{v:SV}:ab7 (.val c v):=λ_ _ _ h=>by cases h
theorem aam:ab7 .fail:=λ_ _ _ h=>by cases h
theorem a9f (d:BinOp) (k:IntKind) (x y:Int):ab7 (a0z d k x y):=by cases d<;>first | exact aay | exact aam
theorem bav (d:BinOp) (x y:Bq):ab7 (a2c d x y):=by cases d<;>first | exact aay | exact aam
theorem a3g (d:BinOp) (x y:Bool):ab7 (ap2 d x y):=by cases d<;>first | exact aay | exact aam
theorem aco {b:Bool}{x:Ac} (h:ab7 x):ab7 (bif b then x else .fail):=by grind [aam]
theorem a8j {b:Bool}{x:Ac} (h:ab7 x):ab7 (bif b then .fail else x):=by grind [aam]
theorem axa (d:BinOp) (x:SV):ab7 (ag4 d x):=by
 unfold ag4;repeat' split
 all_goals (intro c v st' h;simp at h)
theorem ax6 (P:Program) (d:BinOp) (T:TypeId) (x y:SV):ab7 (aeq P d T x y):=by
 unfold aeq;split
 ·refine aco ?_;grind [aay,aam]
 ·exact aam
theorem ax4 (P:Program) (d:BinOp) (T:TypeId) (x y:SV):a2o (aeq P d T x y):=by unfold aeq;intro f m h;grind
theorem a8b (P:Program) (d:BinOp) (T:TypeId) (x y:SV):ab7 (av6 P d T x y):=by
 unfold av6;split
 ·split
  ·exact aay
  ·exact aay
  ·exact aco (a9f _ _ _ _)
 ·exact bav _ _ _
 ·exact aco (a3g _ _ _)
 grind [ax6]
theorem bdh (d:UnOp) (x:SV):ab7 (unAc d x):=by unfold unAc;grind [aay,aam]
theorem a3n (P:Program) (s d:TypeId) (x:SV):ab7 (anr P s d x):=by unfold anr;refine aco ?_;split<;>first | exact aay | exact aam | exact aco aay
theorem awd (P:Program) (st:List BX) (s d:TypeId) (x:SV):ab7 (afd P st s d x):=by
 unfold afd;split
 ·split
  ·exact aco aay
  ·exact aam
 grind [a3n]
theorem az9 (P:Program) (T:TypeId) (d:List (Nat×SV)):ab7 (ajm P T d):=by
 unfold ajm;split
 ·exact aco aay
 ·refine aco ?_;grind [aay,aam]
 ·exact aam
theorem anl (P:Program) (T:TypeId) (n:Nat) (d:List (Nat×SV)):ab7 (acs P T n d):=by
 unfold acs;split
 ·exact aco aay
 ·exact aam
theorem a5c (P:Program) (T:TypeId) (st:List BX) (a:SV):ab7 (adb P T st a):=by intro c v s h;unfold adb at h;grind
theorem apl (P:Program) (st:List BX) (S:TypeId) (i:Nat) (a:SV):ab7 (acu P st S i a):=by
 unfold acu;split
 ·split
  ·refine a8j ?_;split<;>first | exact aco aay | exact aam
  ·exact aam
 ·exact aam
theorem a0q (P:Program) (S:TypeId) (i:Nat) (a:SV):ab7 (ajp P S i a):=by
 unfold ajp;split
 ·split
  ·refine aco ?_;split
   ·exact aco aay
   ·refine aco ?_;grind [aay,aam]
   ·exact aam
  ·exact aam
 ·exact aam
theorem apm (P:Program) (T:TypeId) (st:List BX) (x i:SV):ab7 (acv P T st x i):=by intro c v s h;unfold acv at h;grind
theorem a0y (P:Program) (T:TypeId) (x i:SV):ab7 (ajq P T x i):=by unfold ajq;split<;>first | exact aay | exact aco aay | exact aam
theorem a12 (P:Program) (T:TypeId) (x:SV) (m d o:Option SV):ab7 (ajy P T x m d o):=by
 unfold ajy;split
 ·exact aam
 ·split
  ·exact aay
  ·split
   ·grind [aay,aam]
   ·split
    ·split<;>first | exact aco aay | exact aam
    ·exact aam
   ·exact aam
theorem aw3 (P:Program) (T:TypeId) (st:List BX) (m k:SV) (ok:Bool):ab7 (afi P T st m k ok):=by
 unfold afi;split
 ·refine aco ?_;split
  ·exact aco aay
  ·split
   ·exact aco aay
   ·exact aam
  ·exact aam
 ·exact aam
theorem a9l (P:Program) (T:TypeId) (st:List BX) (x:SV):ab7 (ar2 P T st x):=by unfold ar2;grind [aay,aam]
theorem aog (d:Bool) (ss:List SV):ab7 (ad8 d ss):=by unfold ad8;grind [aay,aam]
theorem aof (d:Bool) (ss:List SV):a2o (ad8 d ss):=by unfold ad8;intro f m h;grind
theorem ar3 (fn:Fn) (first cs:List SV):ab7 (aex fn first cs):=by unfold aex;grind [aay,aam]
theorem a8k {b:Bool}{x:Ac}{v:SV}{s:List BX} (h:(bif b then x else .fail)=.upd true v s):b=true/\x=.upd true v s:=by grind
theorem al0 (M:WRel Γ D ow μ st w) (H:∀ x,SRep Γ.P D w ow μ st (ρ x) (η x)) (o:Oper) (v:SV) (st':List BX) (h:ac Γ.P o.op ρ ρt ρf st=.upd true v st'):OpRes Γ D ow μ st w ((execOp η o).run Γ.P w) v st':=by
 cases z:o.op with
 | alloc T=>grind [ac,av1,OpRes.lift,execOp]
 | box T x=>grind [ac,av8,OpRes.lift,execOp]
 | makeSlice T n c=>
  rw [z] at h;simp only [ac] at h;cases O:a4q n with
  | true=>rw [O] at h;simp only [Ad] at h;grind [aod,OpRes.lift,execOp]
  | false=>rw [O] at h;simp only [Ae] at h;grind [ar5,OpRes.lift,execOp]
 | store T a x=>grind [ac,ax1,OpRes.liftU,execOp]
 | insert T m k x=>grind [ac,ah8,OpRes.liftU,execOp]
 | mapUpdate T m k x=>grind [ac,ah8,OpRes.liftU,execOp]
 | makeMap T r=>
  rw [z] at h;simp only [ac] at h;unfold aea at h;split at h
  ·rename_i K E Y;simp only [Ac.upd.injEq,true_and] at h;obtain ⟨rfl,rfl⟩:=h;obtain ⟨u,w',U,V⟩:=ar4 M T K E;grind [OpRes.lift,execOp]
  ·simp at h
 | call c=>
  rw [z] at h;simp only [ac] at h;unfold aj6 at h;split at h
  ·simp at h
  ·grind
  ·split at h
   ·exact absurd h (a9l _ _ _ _ _ _ _)
   ·simp at h
  ·rename_i hc;split at h
   ·rename_i x y T T' hx Y;obtain ⟨W,X⟩:=a8k h;have:=Af W;subst this;have ha:c.args=#[x,y]:=by grind
    have Z:c.argTypes=#[T,T]:=by grind
    obtain ⟨u,w',U,V⟩:=ats M T o.type _ _ _ _ v st' (H x) (H y) X;grind [OpRes.lift,execOp,resolve,invoke,builtin]
   ·simp at h
  ·exact absurd h (aog _ _ _ _ _)
  ·exact absurd h (aog _ _ _ _ _)
  ·simp at h
 | move x=>grind [ac]
 | assign x=>grind [ac]
 | pick c x y=>grind [ac]
 | build T ps=>rw [z] at h;exact absurd h (az9 _ _ _ _ _ _)
 | buildSlice T n ps=>rw [z] at h;exact absurd h (anl _ _ _ _ _ _ _)
 | load T a=>rw [z] at h;exact absurd h (a5c _ _ _ _ _ _ _)
 | nilCheck x=>rw [z] at h;simp only [ac,Av] at h;grind
 | binOp b T x y T2=>
  rw [z] at h;simp only [ac,ank,Av] at h;split at h
  ·split at h
   ·exact absurd h (axa _ _ _ _ _)
   ·simp at h
  ·exact absurd h (a8b _ _ _ _ _ _ _ _)
 | unOp u T x=>rw [z] at h;exact absurd h (bdh _ _ _ _ _)
 | convert s d x=>rw [z] at h;exact absurd h (awd _ _ _ _ _ _ _ _)
 | makeFunc fn first cs=>rw [z] at h;exact absurd h (ar3 _ _ _ _ _ _)
 | slice T x lo hi mx=>rw [z] at h;exact absurd h (a12 _ _ _ _ _ _ _ _ _)
 | fieldAddr S x i=>rw [z] at h;exact absurd h (apl _ _ _ _ _ _ _ _)
 | field S x i=>rw [z] at h;exact absurd h (a0q _ _ _ _ _ _ _)
 | indexAddr T x i=>rw [z] at h;exact absurd h (apm _ _ _ _ _ _ _ _)
 | index T x i=>rw [z] at h;exact absurd h (a0y _ _ _ _ _ _ _)
 | lookup T m k ok=>rw [z] at h;exact absurd h (aw3 _ _ _ _ _ _ _ _ _)
 | extract t i=>rw [z] at h;simp only [ac] at h;unfold ahy at h;grind
 | range T x=>grind [ac,axi,OpRes.lift,execOp]
 | next x b=>rw [z] at h;simp only [ac] at h;obtain ⟨u,w',U,V⟩:=a08 M _ _ b o.type v st' (H x) h;grind [OpRes.lift,execOp]
 | makeInterface T x=>grind [ac,ah7]
 | panic x=>rw [z] at h;simp only [ac,aor] at h;grind
 | _=>rw [z] at h;simp [ac] at h
theorem ac3 (W:∀ x,SRep Γ.P D w ow μ st (ρ x) (η x)) (ag:∀ f,η (.func f)=.func (.func f) #[] #[]) (o:Oper) (f:FuncId) (args:List SV) (h:ac Γ.P o.op ρ ρt ρf st=.call f args):
 ∃ H:Array Value,(execOp η o).run Γ.P w=(callFunc f H).run Γ.P w/\H.size=args.length/\∀ (i:Nat) (s:SV) (v:Value),args[i]?=some s->H[i]?=some v->SRep Γ.P D w ow μ st s v:=by
 have M:∀ xs:Array Operand,∀ (i:Nat) (s:SV) (v:Value),(xs.toList.map ρ)[i]?=some s->(xs.map η)[i]?=some v->SRep Γ.P D w ow μ st s v:=by grind
 cases z:o.op with
 | call c=>
  rw [z] at h;simp only [ac] at h
  unfold aj6 at h
  split at h
  ·rename_i g Z;simp only [Ac.call.injEq] at h;obtain ⟨rfl,rfl⟩:=h;refine ⟨c.args.map η,?_,by simp,M c.args⟩;grind [execOp,resolve,Deferred.ofValue,invoke]
  ·rename_i x ae Z;have V:=W x;split at h
   ·rename_i g n caps he;simp only [Ac.call.injEq] at h;obtain ⟨rfl,rfl⟩:=h;rw [he] at V;generalize aa:η x=cv at V;cases V with
    | @fn _ _ _ O vs hn af X=>
     have ad:n<=caps.length:=by grind
     have U:(caps.take n).length=O.size:=by grind
     refine ⟨O++c.args.map η++vs,?_,by grind,λi s v hs Y=>?_⟩
     ·grind [execOp,resolve,Deferred.ofValue,invoke]
     ·rw [Array.append_assoc] at Y;by_cases hi:i<O.size
      ·all_goals grind
      ·rw [Be (by omega),U] at hs;rw [Array.getElem?_append_right (by omega)] at Y;by_cases ab:i-O.size<c.args.size;all_goals grind
   ·simp at h
  ·split at h
   ·unfold ar2 at h;grind
   ·simp at h
  ·split at h
   ·simp only [Av] at h;split at h
    ·unfold ads at h;grind
    ·simp at h
   ·simp at h
  ·exact absurd h (aof _ _ _ _)
  ·exact absurd h (aof _ _ _ _)
  ·simp at h
 | move x=>grind [ac]
 | assign x=>grind [ac]
 | pick c x y=>grind [ac]
 | alloc T=>rw [z] at h;simp only [ac,ahn,Av] at h;grind
 | box T x=>rw [z] at h;simp only [ac,aty,Av] at h;grind
 | makeSlice T n c=>rw [z] at h;simp only [ac,adm,ae4,Av] at h;grind
 | store T a x=>rw [z] at h;simp only [ac,aei,Av] at h;grind
 | insert T m k x=>rw [z] at h;simp only [ac,abv,Av] at h;grind
 | mapUpdate T m k x=>rw [z] at h;simp only [ac,abv,Av] at h;grind
 | makeMap T r=>rw [z] at h;simp only [ac,aea] at h;grind
 | build T ps=>rw [z] at h;simp only [ac,ajm,Av] at h;grind
 | buildSlice T n ps=>rw [z] at h;simp only [ac,acs,Av] at h;grind
 | load T a=>rw [z] at h;simp only [ac,adb,Av] at h;grind
 | nilCheck x=>rw [z] at h;simp only [ac,Av] at h;grind
 | binOp b T x y T2=>
  rw [z] at h;simp only [ac,ank,ag4,av6,Av] at h;repeat' split at h
  all_goals first
   | (exact absurd h (ax4 _ _ _ _ _ _ _))
   | (simp at h;done)
   | (cases b<;>simp [a0z] at h;done)
   | (cases b<;>simp [a2c] at h;done)
   | (cases b<;>simp [ap2] at h;done)
 | unOp u T x=>rw [z] at h;simp only [ac,unAc] at h;grind
 | convert s d x=>rw [z] at h;simp only [ac,afd,anr,Av] at h;grind
 | makeFunc fn first cs=>rw [z] at h;simp only [ac,aex] at h;grind
 | slice T x lo hi mx=>rw [z] at h;simp only [ac,ajy,Av] at h;grind
 | fieldAddr S x i=>rw [z] at h;simp only [ac,acu,Av] at h;grind
 | field S x i=>rw [z] at h;simp only [ac,ajp,Av] at h;grind
 | indexAddr T x i=>rw [z] at h;simp only [ac,acv,Av] at h;grind
 | index T x i=>rw [z] at h;simp only [ac,ajq,Av] at h;grind
 | lookup T m k ok=>rw [z] at h;simp only [ac,afi,Av] at h;grind
 | extract t i=>rw [z] at h;simp only [ac] at h;unfold ahy at h;grind
 | range T x=>rw [z] at h;simp only [ac] at h;unfold ajs at h;grind
 | next x b=>
  rw [z] at h;simp only [ac] at h;unfold aol at h
  grind
 | makeInterface T x=>grind [ac,ah7]
 | panic x=>rw [z] at h;simp only [ac,aor] at h;grind
 | _=>rw [z] at h;simp [ac] at h
theorem ax5 (P:Program) (d:BinOp) (T:TypeId) (x y:SV) (v:SV):aeq P d T x y≠.pan v:=by unfold aeq;grind
theorem aw6 (d:Bool) (ss:List SV) (v:SV):ad8 d ss≠.pan v:=by unfold ad8;grind
theorem atp (O:∀ x,SRep Γ.P D w ow μ st (ρ x) (η x)) (o:Oper) (s:SV) (h:ac Γ.P o.op ρ ρt ρf st=.pan s):∃ u,(execOp η o).run Γ.P w=.halt (.panic u) w/\SRep Γ.P D w ow μ st s u:=by
 cases z:o.op with
 | panic x=>
  rw [z] at h;simp only [ac,aor] at h;split at h
  ·rename_i T y V;simp only [Ac.pan.injEq] at h;subst h;have H:=O x;rw [V] at H;generalize M:η x=U at H;refine ⟨U,?_,H⟩;cases H with
   | ifc H=>simp [execOp,z,M,Instr.panic,goPanic]
  ·cases h
 | call c=>
  rw [z] at h;simp only [ac] at h;unfold aj6 at h;split at h
  ·cases h
  ·all_goals grind
  ·split at h
   ·unfold ar2 at h;all_goals grind
   ·cases h
  ·split at h
   ·simp only [Av] at h;split at h
    ·unfold ads at h;all_goals grind
    ·cases h
   ·cases h
  all_goals grind [absurd,aw6]
 | move x=>grind [ac]
 | assign x=>grind [ac]
 | pick c x y=>grind [ac]
 | alloc T=>rw [z] at h;simp only [ac,ahn,Av] at h;grind
 | box T x=>rw [z] at h;simp only [ac,aty,Av] at h;grind
 | makeSlice T n c=>rw [z] at h;simp only [ac,adm,ae4,Av] at h;grind
 | store T a x=>rw [z] at h;simp only [ac,aei,Av] at h;grind
 | insert T m k x=>rw [z] at h;simp only [ac,abv,Av] at h;grind
 | mapUpdate T m k x=>rw [z] at h;simp only [ac,abv,Av] at h;grind
 | makeMap T r=>rw [z] at h;simp only [ac,aea] at h;grind
 | build T W=>rw [z] at h;simp only [ac,ajm,Av] at h;grind
 | buildSlice T n W=>rw [z] at h;simp only [ac,acs,Av] at h;grind
 | load T a=>rw [z] at h;simp only [ac,adb,Av] at h;grind
 | nilCheck x=>rw [z] at h;simp only [ac,Av] at h;grind
 | binOp b T x y X=>
  rw [z] at h;simp only [ac,ank,ag4,av6,Av] at h;repeat' split at h
  all_goals first
   | (exact absurd h (ax5 _ _ _ _ _ _))
   | (simp at h;done)
   | (cases b<;>simp [a0z] at h;done)
   | (cases b<;>simp [a2c] at h;done)
   | (cases b<;>simp [ap2] at h;done)
 | unOp u T x=>rw [z] at h;simp only [ac,unAc] at h;grind
 | convert s d x=>rw [z] at h;simp only [ac,afd,anr,Av] at h;grind
 | makeFunc fn first cs=>rw [z] at h;simp only [ac,aex] at h;grind
 | slice T x Z Y mx=>rw [z] at h;simp only [ac,ajy,Av] at h;grind
 | fieldAddr S x i=>rw [z] at h;simp only [ac,acu,Av] at h;grind
 | field S x i=>rw [z] at h;simp only [ac,ajp,Av] at h;grind
 | indexAddr T x i=>rw [z] at h;simp only [ac,acv,Av] at h;grind
 | index T x i=>rw [z] at h;simp only [ac,ajq,Av] at h;grind
 | lookup T m k ok=>rw [z] at h;simp only [ac,afi,Av] at h;grind
 | extract t i=>rw [z] at h;simp only [ac] at h;unfold ahy at h;grind
 | range T x=>rw [z] at h;simp only [ac] at h;unfold ajs at h;grind
 | next x b=>rw [z] at h;simp only [ac] at h;unfold aol at h;grind
 | makeInterface T x=>grind [ac,ah7]
 | _=>rw [z] at h;simp [ac] at h
end
end Go.Ab
