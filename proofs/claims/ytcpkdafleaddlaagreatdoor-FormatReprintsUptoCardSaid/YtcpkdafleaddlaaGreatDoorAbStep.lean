/- One operation: what the evaluator says of it, the model does. -/
import Derived.Test.YtcpkdafleaddlaaGreatDoorAbBuild
set_option linter.unusedVariables false
set_option linter.unusedSimpArgs false
set_option linter.unnecessarySimpa false
namespace Go.Ab
open Go
section
variable {Γ:Ctx}{D:Dom}{ow:Own}{μ:Nat->Nat}{st:List BX}{w:World}{η:Operand->Value}{ρ ρt ρf:Operand->SV}
theorem OpRes.lift {r:Result Next}{v:SV}{st':List BX}{s:Sem Value}{u:Value}{w':World} (m:s.run Γ.P w=.ok u w') (h:OpRes Γ D ow μ st w (.ok (.value u) w') v st') (d:r=(do pure (.value (<-s)):Sem Next).run Γ.P w):OpRes Γ D ow μ st w r v st':=by grind [Sem.run_bind,Result.andThen_ok,Sem.run_pure]
theorem OpRes.lift0 (z:WRel Γ D ow μ st w) {r:Result Next}{v:SV}{s:Sem Value} (h:∃ u,s.run Γ.P w=.ok u w/\SRep Γ.P D w ow μ st v u) (o:r=(do pure (.value (<-s)):Sem Next).run Γ.P w):OpRes Γ D ow μ st w r v st:=by obtain ⟨u,d,m⟩:=h;exact OpRes.lift d (OpRes.still z rfl m) o
theorem OpRes.liftU {r:Result Next}{v:SV}{st':List BX}{s:Sem Unit}{w':World} (m:s.run Γ.P w=.ok () w') (h:OpRes Γ D ow μ st w (.ok .skip w') v st') (d:r=(do s;pure .skip:Sem Next).run Γ.P w):OpRes Γ D ow μ st w r v st':=by grind [Sem.run_bind,Result.andThen_ok,Sem.run_pure]
theorem axm {b:Bool}{x:Ac}{v:SV} (h:x≠.val true v):(bif b then x else .fail)≠.val true v:=by grind
theorem apa (P:Program) (st:List BX) (T:TypeId) (x y:SV) (c:Bool) (v:SV):aeh P st T x y≠.val c v:=by unfold aeh;grind
theorem asd (P:Program) (T:TypeId) (st:List BX) (a x:SV) (v:SV):aff P T st a x≠.val true v:=by unfold aff;grind
theorem af7 (P:Program) (T:TypeId) (st:List BX) (m k x:SV) (v:SV):ab5 P T st m k x≠.val true v:=by unfold ab5;grind
theorem ayy (m:∀ x,SRep Γ.P D w ow μ st (ρ x) (η x)) (d:Array (Nat×Operand)):(d.toList.map λ(i,x)=>(i,ρ x)).length=(d.map λ(i,x)=>(i,η x)).size/\
 ∀ (n i:Nat) (s:SV) (j:Nat) (u:Value),(d.toList.map λ(i,x)=>(i,ρ x))[n]?=some (i,s)->(d.map λ(i,x)=>(i,η x))[n]?=some (j,u)->i=j/\SRep Γ.P D w ow μ st s u:=by
 grind
theorem a1i (z:Bool):∀ (ss:List SV) (m:List Value) (k:IntKind) (a n:Int),ss.length=m.length->(∀ (i:Nat) (s:SV) (u:Value),ss[i]?=some s->m[i]?=some u->SRep Γ.P D w ow μ st s u)->aj7 z a ss=some n->
 (m.foldlM (if z then Builtin.max2 else Builtin.min2) (.int k a):Sem Value).run Γ.P w=.ok (.int k n) w:=by
 intro ss
 induction ss with
 | nil=>
  intro m k a n o _ h
  have:m=[]:=A1 (by grind)
  subst this
  simp [aj7] at h;subst h
  simp
 | cons x r U=>
  intro m k a n o d h
  cases m with
  | nil=>simp at o
  | cons u q=>
   have H:=d 0 x u rfl rfl
   cases x with
   | int W b=>
    generalize V:u=uu at H
    cases H
    simp only [aj7] at h
    have:=U q k _ n (by simpa using o) (λi s v M O=>d (i+1) s v (by simpa using M) (by simpa using O)) h
    cases z
    ·simp only [Ae,A8,Bb] at this ⊢;grind [Builtin.min2]
    ·simp only [Ad,Ba] at this ⊢;grind [Builtin.max2]
   | _=>simp [aj7] at h
theorem aoy (o:Bool) (ss:List SV) (m:List Value) (z:ss.length=m.length) (d:∀ (i:Nat) (s:SV) (u:Value),ss[i]?=some s->m[i]?=some u->SRep Γ.P D w ow μ st s u) (v:SV) (h:ae1 o ss=.val true v):
 ∃ (x:Value) (q:List Value) (u:Value),m=x::q/\(q.foldlM (if o then Builtin.max2 else Builtin.min2) x:Sem Value).run Γ.P w=.ok u w/\SRep Γ.P D w ow μ st v u:=by
 unfold ae1 at h
 split at h
 ·rename_i k a r;cases m with
  | nil=>simp at z
  | cons x q=>
   have H:=d 0 _ x rfl rfl;generalize V:x=W at H;cases H;split at h
   ·rename_i n U;simp only [Ac.val.injEq,true_and] at h;subst h;exact ⟨_,q,_,rfl,a1i o r q k a n (by simpa using z) (λi s v M O=>d (i+1) s v (by simpa using M) (by simpa using O)) U,.int⟩
   ·cases h
 ·cases h
theorem agc (U:WRel Γ D ow μ st w) (O:∀ x,SRep Γ.P D w ow μ st (ρ x) (η x)) (o:Oper)
 (aa:∀ c x y,o.op=.pick c x y->(η c=.bool true->SRep Γ.P D w ow μ st (ρt x) (η x))/\(η c=.bool false->SRep Γ.P D w ow μ st (ρf y) (η y)))
 (v:SV) (h:ac Γ.P o.op ρ ρt ρf st=.val true v):OpRes Γ D ow μ st w ((execOp η o).run Γ.P w) v st:=by
 cases z:o.op with
 | move x=>rw [z] at h;simp only [ac,Ac.val.injEq,true_and] at h;grind [OpRes.still,execOp,Sem.run_pure]
 | assign x=>rw [z] at h;simp only [ac,Ac.val.injEq,true_and] at h;grind [OpRes.still,execOp,Sem.run_pure]
 | pick c x y=>
  rw [z] at h;simp only [ac] at h
  obtain ⟨V,Y⟩:=aa c x y z
  split at h
  ·rename_i b p q hc M hy;simp only [Ac.val.injEq,true_and] at h;subst h;have Z:=O c;rw [hc] at Z;generalize H:η c=X at Z;cases Z;have af:(execOp η o).run Γ.P w=.ok (.value (if b then η x else η y)) w:=by
    grind [execOp,asBool,Sem.run_bind,Sem.run_pure,Result.andThen_ok]
   rw [af];cases b with
   | true=>have:=V H;rw [M] at this;exact OpRes.still U rfl this
   | false=>have:=Y H;rw [hy] at this;exact OpRes.still U rfl this
  ·simp at h
 | build T ps=>
  rw [z] at h;simp only [ac] at h
  obtain ⟨q1,q2⟩:=ayy (Γ:=Γ) O ps
  exact OpRes.lift0 U (a0c T _ _ v q1 q2 h) (by grind [execOp])
 | buildSlice T n ps=>
  rw [z] at h;simp only [ac] at h
  obtain ⟨q1,q2⟩:=ayy (Γ:=Γ) O ps
  grind [apb,OpRes.lift,execOp]
 | load T a=>grind [ac,OpRes.lift0,a7t,execOp]
 | nilCheck x=>
  rw [z] at h;simp only [ac] at h
  have M:=O x
  split at h
  ·rename_i k p T W;simp only [Ac.val.injEq,true_and] at h;subst h;rw [W] at M;generalize H:η x=X at M;have h':=M;cases M;grind [OpRes.still,execOp,Sem.run_pure]
  ·rename_i T pv W;simp only [Ac.val.injEq,true_and] at h;subst h;rw [W] at M;generalize H:η x=X at M;have h':=M;cases M;grind [OpRes.still,execOp,Sem.run_pure]
  ·rename_i f cs W;simp only [Ac.val.injEq,true_and] at h;subst h;rw [W] at M;generalize H:η x=X at M;have h':=M;cases M;grind [OpRes.still,execOp,Sem.run_pure]
  ·rename_i k T W;simp only [Ac.val.injEq,true_and] at h;subst h;rw [W] at M;generalize H:η x=X at M;have h':=M;cases M;grind [OpRes.still,execOp,Sem.run_pure]
  ·rename_i k g i E p T W;cases hg:aht st k g with
   | false=>grind
   | true=>
    rw [hg] at h;simp only [Ad,Ac.val.injEq,true_and] at h;subst h;rw [W] at M;generalize H:η x=X at M;have h':=M;cases M with
    | arefOld hk ad _=>grind [aht,Nat.eq_of_beq_eq_true]
    | aref=>grind [OpRes.still,execOp,Sem.run_pure]
  ·simp at h
 | binOp b T x y T2=>
  rw [z] at h;simp only [ac] at h
  unfold aql at h
  cases hN:(bbu y&&apw Γ.P T) with
  | false=>
   rw [hN] at h
   exact OpRes.lift0 U (a97 T b _ _ _ _ v (O x) (O y) h x y) (by grind [execOp])
  | true=>
   rw [hN] at h
   simp only [Ad] at h
   simp only [Ag] at hN
   split at h
   ·rename_i hb;have hy:=O y;rw [hb] at hy;have H:η y=.nilIface:=by
     generalize η y=X at hy;cases hy with
     | eif V _=>exact V rfl
    have ae:y=.const .nilIface:=by grind [bbu]
    subst ae;have:=a01 (Γ:=Γ) (D:=D) (w:=w) T b _ _ v (O x) hN.2 h x;grind [eqGuard,binOp,OpRes.lift0,execOp]
   ·simp at h
 | unOp u T x=>grind [ac,OpRes.lift0,bi0,execOp]
 | convert s d x=>grind [ac,OpRes.lift0,axn,execOp]
 | makeFunc fn first cs=>
  rw [z] at h;simp only [ac] at h
  unfold afx at h
  split at h
  ·rename_i f;simp only [Ac.val.injEq,true_and] at h;subst h;refine OpRes.still U (u:=.func (.func f) (first.map η) (cs.map η)) (by simp [execOp,z,Instr.makeFunc]) (.fn (by simp) (by simp) (λi s v hi hv=>?_));grind
  ·simp at h
 | slice T x lo hi mx=>
  rw [z] at h;simp only [ac] at h
  refine OpRes.lift0 U (a2f T _ _ _ _ _ (lo.map η) (hi.map η) (mx.map η) v (O x) ?_ (by simp) ?_ (by simp) (by simp) h) (by grind [execOp])
  ·intro s u V Y;cases lo with
   | none=>simp at V
   | some l=>grind
  ·intro s u V Y;cases hi with
   | none=>simp at V
   | some l=>grind
 | fieldAddr S x i=>grind [ac,OpRes.lift0,aq3,execOp]
 | field S x i=>grind [ac,OpRes.lift0,a0n,execOp]
 | indexAddr T x i=>grind [ac,OpRes.lift0,aq5,execOp]
 | index T x i=>grind [ac,OpRes.lift0,a03,execOp]
 | lookup T m k ok=>grind [ac,OpRes.lift0,ayh,execOp]
 | extract t i=>
  rw [z] at h;simp only [ac] at h
  have M:=O t
  unfold ai3 at h
  split at h
  ·rename_i vs W;split at h
   ·rename_i s hs;simp only [Ac.val.injEq,true_and] at h;subst h;rw [W] at M;generalize H:η t=X at M;cases M with
    | @tup _ us ai ab=>
     have ad:i<us.size:=by grind
     have hu:us[i]?=some us[i]:=Array.getElem?_eq_getElem ad;exact OpRes.still U (u:=us[i]) (by simp [execOp,z,H,Instr.extract,hu]) (ab i _ _ hs hu)
   ·simp at h
  ·rename_i b p c W;rw [W] at M;generalize H:η t=X at M;cases M with
   | nx V Y=>
    split at h
    ·simp only [Ac.val.injEq,true_and] at h;subst h;cases b with
     | true=>have:=V rfl;subst this;exact OpRes.still U (u:=.bool true) (by simp [execOp,z,H,Instr.extract]) .bool
     | false=>have:=Y rfl;subst this;exact OpRes.still U (u:=.bool false) (by simp [execOp,z,H,Instr.extract]) .bool
    ·simp only [Ac.val.injEq] at h;obtain ⟨hb,rfl⟩:=h;have:=V hb;subst this;exact OpRes.still U (u:=.int .i64 p) (by simp [execOp,z,H,Instr.extract]) .int
    ·simp only [Ac.val.injEq] at h;obtain ⟨hb,rfl⟩:=h;have:=V hb;subst this;exact OpRes.still U (u:=.int .i32 c) (by simp [execOp,z,H,Instr.extract]) .int
    ·cases h
  ·simp at h
 | call c=>
  rw [z] at h
  simp only [ac] at h
  unfold alz at h
  split at h
  ·simp at h
  ·grind
  ·rename_i hc;split at h
   ·rename_i x T M hT;have ha:c.args=#[x]:=by grind
    have ag:c.argTypes=#[T]:=by grind
    refine OpRes.lift0 U (bcc U T _ _ v (O x) h o.type) ?_;grind [execOp,resolve,invoke,builtin]
   ·simp at h
  ·split at h
   ·exact absurd h (axm (apa _ _ _ _ _ _ _))
   ·simp at h
  ·rename_i hc;obtain ⟨x,q,u,e1,e2,e3⟩:=aoy (Γ:=Γ) (D:=D) (w:=w) (ow:=ow) (μ:=μ) (st:=st) false _ (c.args.map η).toList (by simp) (λi s u V Y=>by
    grind) v h
   refine OpRes.lift0 U ⟨u,e2,e3⟩ ?_;simp only [execOp,z,resolve,hc,invoke,builtin,Builtin.min_,Sem.run_bind,Sem.run_pure,Result.andThen_ok,e1];simp
  ·rename_i hc;obtain ⟨x,q,u,e1,e2,e3⟩:=aoy (Γ:=Γ) (D:=D) (w:=w) (ow:=ow) (μ:=μ) (st:=st) true _ (c.args.map η).toList (by simp) (λi s u V Y=>by
    grind) v h
   refine OpRes.lift0 U ⟨u,e2,e3⟩ ?_;simp only [execOp,z,resolve,hc,invoke,builtin,Builtin.max_,Sem.run_bind,Sem.run_pure,Result.andThen_ok,e1];simp
  ·simp at h
 | makeInterface T x=>
  rw [z] at h;simp only [ac,ajh] at h
  split at h
  ·cases h
  ·cases h
  ·rename_i d ah hT;simp only [Ac.val.injEq,true_and] at h;subst h;refine OpRes.lift0 U (s:=Instr.makeInterface T (η x)) ⟨.iface T (η x),?_,.ifc (O x)⟩ (by grind [execOp]);unfold Instr.makeInterface;simp only [Sem.run_bind,run_underlying hT,Result.andThen_ok];simp_all
 | panic x=>rw [z] at h;simp only [ac,arw] at h;grind
 | alloc T=>rw [z] at h;simp only [ac,aip,Az] at h;grind
 | box T x=>rw [z] at h;simp only [ac,axe,Az] at h;grind
 | makeSlice T n c=>rw [z] at h;simp only [ac,ad8,af6,Az] at h;grind
 | store T a x=>grind [ac,absurd,asd]
 | insert T m k x=>grind [ac,absurd,af7]
 | mapUpdate T m k x=>grind [ac,absurd,af7]
 | makeMap T r=>rw [z] at h;simp only [ac] at h;unfold ae4 at h;grind
 | range T x=>rw [z] at h;simp only [ac] at h;unfold alm at h;grind
 | next x b=>
  rw [z] at h;simp only [ac] at h;unfold arp at h
  grind
 | _=>rw [z] at h;simp [ac] at h
end
end Go.Ab
namespace Go.Ab
open Go
section
variable {Γ:Ctx}{D:Dom}{ow:Own}{μ:Nat->Nat}{st:List BX}{w:World}{η:Operand->Value}{ρ ρt ρf:Operand->SV}
def acn (x:Ac):Prop:=∀ c v s,x≠.upd c v s
def a9s (x:Ac):Prop:=∀ f d,x≠.call f d
theorem aax {c:Bool}{v:SV}:acn (.val c v):=λ_ _ _ h=>by cases h
theorem aam:acn .fail:=λ_ _ _ h=>by cases h
theorem bgn (d:BinOp) (k:IntKind) (x y:Int):acn (a7j d k x y):=by cases d<;>first | exact aax | exact aam
theorem bin (d:BinOp) (x y:Bo):acn (a9g d x y):=by cases d<;>first | exact aax | exact aam
theorem baa (d:BinOp) (x y:Bool):acn (ate d x y):=by cases d<;>first | exact aax | exact aam
theorem ac2 {b:Bool}{x:Ac} (h:acn x):acn (bif b then x else .fail):=by grind [aam]
theorem bfm {b:Bool}{x:Ac} (h:acn x):acn (bif b then .fail else x):=by grind [aam]
theorem a1m (d:BinOp) (x:SV):acn (ah8 d x):=by
 unfold ah8;repeat' split
 all_goals (intro c v st' h;simp at h)
theorem a2p (P:Program) (d:BinOp) (T:TypeId) (x y:SV):acn (afo P d T x y):=by
 unfold afo;split
 ·refine ac2 ?_;grind [aax,aam]
 ·exact aam
theorem a2n (P:Program) (d:BinOp) (T:TypeId) (x y:SV):a9s (afo P d T x y):=by unfold afo;intro f m h;grind
theorem bfd (P:Program) (d:BinOp) (T:TypeId) (x y:SV):acn (az9 P d T x y):=by
 unfold az9;split
 ·split
  ·exact aax
  ·exact aax
  ·exact ac2 (bgn _ _ _ _)
 ·exact bin _ _ _
 ·exact ac2 (baa _ _ _)
 grind [a2p]
theorem bmx (d:UnOp) (x:SV):acn (unAc d x):=by unfold unAc;grind [aax,aam]
theorem bam (P:Program) (s d:TypeId) (x:SV):acn (aqt P s d x):=by unfold aqt;refine ac2 ?_;split<;>first | exact aax | exact aam | exact ac2 aax
theorem a0h (P:Program) (st:List BX) (s d:TypeId) (x:SV):acn (age P st s d x):=by
 unfold age;split
 ·split
  ·exact ac2 aax
  ·exact aam
 grind [bam]
theorem a6c (P:Program) (T:TypeId) (d:List (Nat×SV)):acn (ak7 P T d):=by
 unfold ak7;split
 ·exact ac2 aax
 ·refine ac2 ?_;grind [aax,aam]
 ·exact aam
theorem aqn (P:Program) (T:TypeId) (n:Nat) (d:List (Nat×SV)):acn (ade P T n d):=by
 unfold ade;split
 ·exact ac2 aax
 ·exact aam
theorem bcg (P:Program) (T:TypeId) (st:List BX) (a:SV):acn (adr P T st a):=by intro c v s h;unfold adr at h;grind
theorem ass (P:Program) (st:List BX) (S:TypeId) (i:Nat) (a:SV):acn (adf P st S i a):=by
 unfold adf;split
 ·split
  ·refine bfm ?_;split<;>first | exact ac2 aax | exact aam
  ·exact aam
 ·exact aam
theorem a6z (P:Program) (S:TypeId) (i:Nat) (a:SV):acn (alc P S i a):=by
 unfold alc;split
 ·split
  ·refine ac2 ?_;split
   ·exact ac2 aax
   ·refine ac2 ?_;grind [aax,aam]
   ·exact aam
  ·exact aam
 ·exact aam
theorem asu (P:Program) (T:TypeId) (st:List BX) (x i:SV):acn (adg P T st x i):=by intro c v s h;unfold adg at h;grind
theorem a7i (P:Program) (T:TypeId) (x i:SV):acn (ale P T x i):=by unfold ale;split<;>first | exact aax | exact ac2 aax | exact aam
theorem a9d (P:Program) (T:TypeId) (x:SV) (m d o:Option SV):acn (alp P T x m d o):=by
 unfold alp;split
 ·exact aam
 ·split
  ·exact aax
  ·split
   ·grind [aax,aam]
   ·split
    ·split<;>first | exact ac2 aax | exact aam
    ·exact aam
   ·exact aam
theorem a1e (P:Program) (T:TypeId) (st:List BX) (m k:SV) (ok:Bool):acn (agk P T st m k ok):=by
 unfold agk;split
 ·refine ac2 ?_;split
  ·exact ac2 aax
  ·split
   ·exact ac2 aax
   ·exact aam
  ·exact aam
 ·exact aam
theorem bgw (P:Program) (T:TypeId) (st:List BX) (x:SV):acn (avo P T st x):=by unfold avo;grind [aax,aam]
theorem arj (d:Bool) (ss:List SV):acn (ae1 d ss):=by unfold ae1;grind [aax,aam]
theorem ari (d:Bool) (ss:List SV):a9s (ae1 d ss):=by unfold ae1;intro f m h;grind
theorem avp (fn:Fn) (first cs:List SV):acn (afx fn first cs):=by unfold afx;grind [aax,aam]
theorem bfn {b:Bool}{x:Ac}{v:SV}{s:List BX} (h:(bif b then x else .fail)=.upd true v s):b=true/\x=.upd true v s:=by grind
theorem aoo (M:WRel Γ D ow μ st w) (H:∀ x,SRep Γ.P D w ow μ st (ρ x) (η x)) (o:Oper) (v:SV) (st':List BX) (h:ac Γ.P o.op ρ ρt ρf st=.upd true v st'):OpRes Γ D ow μ st w ((execOp η o).run Γ.P w) v st':=by
 cases z:o.op with
 | alloc T=>grind [ac,az4,OpRes.lift,execOp]
 | box T x=>grind [ac,a0b,OpRes.lift,execOp]
 | makeSlice T n c=>
  rw [z] at h;simp only [ac] at h;cases O:bbw n with
  | true=>rw [O] at h;simp only [Ad] at h;grind [arh,OpRes.lift,execOp]
  | false=>rw [O] at h;simp only [Ae] at h;grind [avr,OpRes.lift,execOp]
 | store T a x=>grind [ac,a2k,OpRes.liftU,execOp]
 | insert T m k x=>grind [ac,aji,OpRes.liftU,execOp]
 | mapUpdate T m k x=>grind [ac,aji,OpRes.liftU,execOp]
 | makeMap T r=>
  rw [z] at h;simp only [ac] at h;unfold ae4 at h;split at h
  ·rename_i K E Y;simp only [Ac.upd.injEq,true_and] at h;obtain ⟨rfl,rfl⟩:=h;obtain ⟨u,w',U,V⟩:=avq M T K E;grind [OpRes.lift,execOp]
  ·simp at h
 | call c=>
  rw [z] at h;simp only [ac] at h;unfold alz at h;split at h
  ·simp at h
  ·grind
  ·split at h
   ·exact absurd h (bgw _ _ _ _ _ _ _)
   ·simp at h
  ·rename_i hc;split at h
   ·rename_i x y T T' hx Y;obtain ⟨W,X⟩:=bfn h;have:=Af W;subst this;have ha:c.args=#[x,y]:=by grind
    have Z:c.argTypes=#[T,T]:=by grind
    obtain ⟨u,w',U,V⟩:=aw7 M T o.type _ _ _ _ v st' (H x) (H y) X;grind [OpRes.lift,execOp,resolve,invoke,builtin]
   ·simp at h
  ·exact absurd h (arj _ _ _ _ _)
  ·exact absurd h (arj _ _ _ _ _)
  ·simp at h
 | move x=>grind [ac]
 | assign x=>grind [ac]
 | pick c x y=>grind [ac]
 | build T ps=>rw [z] at h;exact absurd h (a6c _ _ _ _ _ _)
 | buildSlice T n ps=>rw [z] at h;exact absurd h (aqn _ _ _ _ _ _ _)
 | load T a=>rw [z] at h;exact absurd h (bcg _ _ _ _ _ _ _)
 | nilCheck x=>rw [z] at h;simp only [ac,Az] at h;grind
 | binOp b T x y T2=>
  rw [z] at h;simp only [ac,aql,Az] at h;split at h
  ·split at h
   ·exact absurd h (a1m _ _ _ _ _)
   ·simp at h
  ·exact absurd h (bfd _ _ _ _ _ _ _ _)
 | unOp u T x=>rw [z] at h;exact absurd h (bmx _ _ _ _ _)
 | convert s d x=>rw [z] at h;exact absurd h (a0h _ _ _ _ _ _ _ _)
 | makeFunc fn first cs=>rw [z] at h;exact absurd h (avp _ _ _ _ _ _)
 | slice T x lo hi mx=>rw [z] at h;exact absurd h (a9d _ _ _ _ _ _ _ _ _)
 | fieldAddr S x i=>rw [z] at h;exact absurd h (ass _ _ _ _ _ _ _ _)
 | field S x i=>rw [z] at h;exact absurd h (a6z _ _ _ _ _ _ _)
 | indexAddr T x i=>rw [z] at h;exact absurd h (asu _ _ _ _ _ _ _ _)
 | index T x i=>rw [z] at h;exact absurd h (a7i _ _ _ _ _ _ _)
 | lookup T m k ok=>rw [z] at h;exact absurd h (a1e _ _ _ _ _ _ _ _ _)
 | extract t i=>rw [z] at h;simp only [ac] at h;unfold ai3 at h;grind
 | range T x=>grind [ac,a1w,OpRes.lift,execOp]
 | next x b=>rw [z] at h;simp only [ac] at h;obtain ⟨u,w',U,V⟩:=a77 M _ _ b o.type v st' (H x) h;grind [OpRes.lift,execOp]
 | makeInterface T x=>grind [ac,ajh]
 | panic x=>rw [z] at h;simp only [ac,arw] at h;grind
 | _=>rw [z] at h;simp [ac] at h
theorem adl (W:∀ x,SRep Γ.P D w ow μ st (ρ x) (η x)) (ag:∀ f,η (.func f)=.func (.func f) #[] #[]) (o:Oper) (f:FuncId) (args:List SV) (h:ac Γ.P o.op ρ ρt ρf st=.call f args):
 ∃ H:Array Value,(execOp η o).run Γ.P w=(callFunc f H).run Γ.P w/\H.size=args.length/\∀ (i:Nat) (s:SV) (v:Value),args[i]?=some s->H[i]?=some v->SRep Γ.P D w ow μ st s v:=by
 have M:∀ xs:Array Operand,∀ (i:Nat) (s:SV) (v:Value),(xs.toList.map ρ)[i]?=some s->(xs.map η)[i]?=some v->SRep Γ.P D w ow μ st s v:=by grind
 cases z:o.op with
 | call c=>
  rw [z] at h;simp only [ac] at h
  unfold alz at h
  split at h
  ·rename_i g Z;simp only [Ac.call.injEq] at h;obtain ⟨rfl,rfl⟩:=h;refine ⟨c.args.map η,?_,by simp,M c.args⟩;grind [execOp,resolve,Deferred.ofValue,invoke]
  ·rename_i x ae Z;have V:=W x;split at h
   ·rename_i g n caps he;simp only [Ac.call.injEq] at h;obtain ⟨rfl,rfl⟩:=h;rw [he] at V;generalize aa:η x=cv at V;cases V with
    | @fn _ _ _ O vs hn af X=>
     have ad:n<=caps.length:=by grind
     have U:(caps.take n).length=O.size:=by grind
     refine ⟨O++c.args.map η++vs,?_,by grind,λi s v hs Y=>?_⟩
     ·grind [execOp,resolve,Deferred.ofValue,invoke]
     ·rw [Array.append_assoc] at Y;by_cases hi:i<O.size
      ·all_goals grind
      ·rw [Bc (by omega),U] at hs;rw [Array.getElem?_append_right (by omega)] at Y;by_cases ab:i-O.size<c.args.size;all_goals grind
   ·simp at h
  ·split at h
   ·unfold avo at h;grind
   ·simp at h
  ·split at h
   ·simp only [Az] at h;split at h
    ·unfold aeh at h;grind
    ·simp at h
   ·simp at h
  ·exact absurd h (ari _ _ _ _)
  ·exact absurd h (ari _ _ _ _)
  ·simp at h
 | move x=>grind [ac]
 | assign x=>grind [ac]
 | pick c x y=>grind [ac]
 | alloc T=>rw [z] at h;simp only [ac,aip,Az] at h;grind
 | box T x=>rw [z] at h;simp only [ac,axe,Az] at h;grind
 | makeSlice T n c=>rw [z] at h;simp only [ac,ad8,af6,Az] at h;grind
 | store T a x=>rw [z] at h;simp only [ac,aff,Az] at h;grind
 | insert T m k x=>rw [z] at h;simp only [ac,ab5,Az] at h;grind
 | mapUpdate T m k x=>rw [z] at h;simp only [ac,ab5,Az] at h;grind
 | makeMap T r=>rw [z] at h;simp only [ac,ae4] at h;grind
 | build T ps=>rw [z] at h;simp only [ac,ak7,Az] at h;grind
 | buildSlice T n ps=>rw [z] at h;simp only [ac,ade,Az] at h;grind
 | load T a=>rw [z] at h;simp only [ac,adr,Az] at h;grind
 | nilCheck x=>rw [z] at h;simp only [ac,Az] at h;grind
 | binOp b T x y T2=>
  rw [z] at h;simp only [ac,aql,ah8,az9,Az] at h;repeat' split at h
  all_goals first
   | (exact absurd h (a2n _ _ _ _ _ _ _))
   | (simp at h;done)
   | (cases b<;>simp [a7j] at h;done)
   | (cases b<;>simp [a9g] at h;done)
   | (cases b<;>simp [ate] at h;done)
 | unOp u T x=>rw [z] at h;simp only [ac,unAc] at h;grind
 | convert s d x=>rw [z] at h;simp only [ac,age,aqt,Az] at h;grind
 | makeFunc fn first cs=>rw [z] at h;simp only [ac,afx] at h;grind
 | slice T x lo hi mx=>rw [z] at h;simp only [ac,alp,Az] at h;grind
 | fieldAddr S x i=>rw [z] at h;simp only [ac,adf,Az] at h;grind
 | field S x i=>rw [z] at h;simp only [ac,alc,Az] at h;grind
 | indexAddr T x i=>rw [z] at h;simp only [ac,adg,Az] at h;grind
 | index T x i=>rw [z] at h;simp only [ac,ale,Az] at h;grind
 | lookup T m k ok=>rw [z] at h;simp only [ac,agk,Az] at h;grind
 | extract t i=>rw [z] at h;simp only [ac] at h;unfold ai3 at h;grind
 | range T x=>rw [z] at h;simp only [ac] at h;unfold alm at h;grind
 | next x b=>
  rw [z] at h;simp only [ac] at h;unfold arp at h
  grind
 | makeInterface T x=>grind [ac,ajh]
 | panic x=>rw [z] at h;simp only [ac,arw] at h;grind
 | _=>rw [z] at h;simp [ac] at h
theorem a2o (P:Program) (d:BinOp) (T:TypeId) (x y:SV) (v:SV):afo P d T x y≠.pan v:=by unfold afo;grind
theorem a1h (d:Bool) (ss:List SV) (v:SV):ae1 d ss≠.pan v:=by unfold ae1;grind
theorem aw5 (O:∀ x,SRep Γ.P D w ow μ st (ρ x) (η x)) (o:Oper) (s:SV) (h:ac Γ.P o.op ρ ρt ρf st=.pan s):∃ u,(execOp η o).run Γ.P w=.halt (.panic u) w/\SRep Γ.P D w ow μ st s u:=by
 cases z:o.op with
 | panic x=>
  rw [z] at h;simp only [ac,arw] at h;split at h
  ·rename_i T y V;simp only [Ac.pan.injEq] at h;subst h;have H:=O x;rw [V] at H;generalize M:η x=U at H;refine ⟨U,?_,H⟩;cases H with
   | ifc H=>simp [execOp,z,M,Instr.panic,goPanic]
  ·cases h
 | call c=>
  rw [z] at h;simp only [ac] at h;unfold alz at h;split at h
  ·cases h
  ·all_goals grind
  ·split at h
   ·unfold avo at h;all_goals grind
   ·cases h
  ·split at h
   ·simp only [Az] at h;split at h
    ·unfold aeh at h;all_goals grind
    ·cases h
   ·cases h
  all_goals grind [absurd,a1h]
 | move x=>grind [ac]
 | assign x=>grind [ac]
 | pick c x y=>grind [ac]
 | alloc T=>rw [z] at h;simp only [ac,aip,Az] at h;grind
 | box T x=>rw [z] at h;simp only [ac,axe,Az] at h;grind
 | makeSlice T n c=>rw [z] at h;simp only [ac,ad8,af6,Az] at h;grind
 | store T a x=>rw [z] at h;simp only [ac,aff,Az] at h;grind
 | insert T m k x=>rw [z] at h;simp only [ac,ab5,Az] at h;grind
 | mapUpdate T m k x=>rw [z] at h;simp only [ac,ab5,Az] at h;grind
 | makeMap T r=>rw [z] at h;simp only [ac,ae4] at h;grind
 | build T W=>rw [z] at h;simp only [ac,ak7,Az] at h;grind
 | buildSlice T n W=>rw [z] at h;simp only [ac,ade,Az] at h;grind
 | load T a=>rw [z] at h;simp only [ac,adr,Az] at h;grind
 | nilCheck x=>rw [z] at h;simp only [ac,Az] at h;grind
 | binOp b T x y X=>
  rw [z] at h;simp only [ac,aql,ah8,az9,Az] at h;repeat' split at h
  all_goals first
   | (exact absurd h (a2o _ _ _ _ _ _))
   | (simp at h;done)
   | (cases b<;>simp [a7j] at h;done)
   | (cases b<;>simp [a9g] at h;done)
   | (cases b<;>simp [ate] at h;done)
 | unOp u T x=>rw [z] at h;simp only [ac,unAc] at h;grind
 | convert s d x=>rw [z] at h;simp only [ac,age,aqt,Az] at h;grind
 | makeFunc fn first cs=>rw [z] at h;simp only [ac,afx] at h;grind
 | slice T x Z Y mx=>rw [z] at h;simp only [ac,alp,Az] at h;grind
 | fieldAddr S x i=>rw [z] at h;simp only [ac,adf,Az] at h;grind
 | field S x i=>rw [z] at h;simp only [ac,alc,Az] at h;grind
 | indexAddr T x i=>rw [z] at h;simp only [ac,adg,Az] at h;grind
 | index T x i=>rw [z] at h;simp only [ac,ale,Az] at h;grind
 | lookup T m k ok=>rw [z] at h;simp only [ac,agk,Az] at h;grind
 | extract t i=>rw [z] at h;simp only [ac] at h;unfold ai3 at h;grind
 | range T x=>rw [z] at h;simp only [ac] at h;unfold alm at h;grind
 | next x b=>rw [z] at h;simp only [ac] at h;unfold arp at h;grind
 | makeInterface T x=>grind [ac,ajh]
 | _=>rw [z] at h;simp [ac] at h
end
end Go.Ab
