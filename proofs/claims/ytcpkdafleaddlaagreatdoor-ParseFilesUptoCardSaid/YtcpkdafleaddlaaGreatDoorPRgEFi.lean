/- The reference's reader and the specification: unions, reserved numbers and names (an error may leave things behind). -/
import Derived.Test.YtcpkdafleaddlaaGreatDoorPMsgPFi
set_option linter.unusedVariables false
set_option linter.unusedSimpArgs false
set_option linter.unnecessarySimpa false
namespace Go.Ab
open Go
set_option maxRecDepth 100000
noncomputable section
inductive RG {α R:Type} (N:Nat) (t:List PV) (A:α->Nat->R) (E:Nat->Int->R->Prop) (I:α->Nat->Prop) (x:Rs α) (y:Nat->Option R):Prop
 | ok (v:α) (j:Nat):j<=t.length->I v j->x=.ok v (ts t j)->(∀ n,N<=n->y n=some (A v j))->RG N t A E I x y
 | er (j:Nat) (e:Int) (r:R):j<=t.length->e≠0->x=.er (ts t j) e->(∀ n,N<=n->y n=some r)->E j e r->RG N t A E I x y
section
variable {N:Nat}{t:List PV}
theorem RG.seq {α β R V:Type}{A:α->Nat->R}{E:Nat->Int->R->Prop}{I:α->Nat->Prop}{Y:β->Nat->V}{U:Nat->Int->V->Prop}{Z:β->Nat->Prop}{x:Rs α}{y:Nat->Option R}{f:α->List Tk->Rs β}{g:Nat->R->Option V}
 (h:RG N t A E I x y) (hc:∀ v j,j<=t.length->I v j->x=.ok v (ts t j)->RG N t Y U Z (f v (ts t j)) (λn=>g n (A v j)))
 (hE:∀ j e r,j<=t.length->e≠0->E j e r->∃ O,(∀ n,g n r=some O)/\U j e O):RG N t Y U Z (x.bind f) (λn=>(y n).bind (g n)):=by
 rcases h with ⟨v,j,z,hi,H,M⟩ | ⟨j,e,r,z,he,H,M,hr⟩
 ·rw [H];rcases hc v j z hi H with ⟨w,k,m,o,W,X⟩ | ⟨k,e,r,m,o,W,X,h5⟩
  ·exact .ok w k m o W λn d=>by rw [M n d];exact X n d
  ·exact .er k e r m o W (λn d=>by rw [M n d];exact X n d) h5
 ·obtain ⟨O,m,o⟩:=hE j e r z he hr;rw [H];exact .er j e O z he rfl (λn d=>by rw [M n d];exact m n) o
theorem RG.all {α R:Type}{M:Nat}{A:α->Nat->R}{E:Nat->Int->R->Prop}{I:α->Nat->Prop}{x:Rs α}{y:Option R} (h:RG M t A E I x (λ_=>y)):RG N t A E I x (λ_=>y):=by
 rcases h with ⟨v,j,d,H,m,o⟩ | ⟨j,e,r,d,z,m,o,O⟩
 ·exact .ok v j d H m λ_ _=>o M (Nat.le_refl _)
 ·exact .er j e r d z m (λ_ _=>o M (Nat.le_refl _)) O
theorem RF.rg {α R:Type}{q:QF}{c:Prop}{mk:α->Q4->R}{f:List Tk->Rs α}{F:Q4->Option R} (h:RF t q mk c f F) (z:c) (i:Nat) (M:i<=t.length):
 RG N t (λv j=>mk v (t,((j:Nat):Int),0,q)) (λj e r=>∃ v,r=mk v (t,((j:Nat):Int),e,q)) (λ_ _=>True) (f (ts t i)) (λ_=>F (t,(i:Int),0,q)):=by
 rcases h.rp z i M with ⟨v,j,d,m,o⟩ | ⟨j,e,v,d,H,m,o⟩
 ·exact .ok v j d trivial m λ_ _=>o
 ·exact .er j e _ d H m (λ_ _=>o) ⟨v,rfl⟩
inductive RL {α β R S σ:Type} (N:Nat) (t:List PV) (st:β->Nat->σ) (spec:List Tk->β->Rs α) (J:β->Nat->Prop) (A:α->Nat->R) (E:Nat->Int->R->Prop) (I:α->Nat->Prop) (K:S->Option R) (Kr:Nat->Int->σ->Prop) (i:Nat) (x:Rs α) (y:Nat->Option (σ⊕S)):Prop
 | go (b:β) (j:Nat):i<j->j<=t.length->J b j->x=spec (ts t j) b->(∀ n,N<=n->y n=some (.inl (st b j)))->RL N t st spec J A E I K Kr i x y
 | fin (r:S):(∀ n,N<=n->y n=some (.inr r))->RG N t A E I x (λ_=>K r)->RL N t st spec J A E I K Kr i x y
 | er (j:Nat) (e:Int) (s:σ):j<=t.length->e≠0->x=.er (ts t j) e->(∀ n,N<=n->y n=some (.inl s))->Kr j e s->RL N t st spec J A E I K Kr i x y
section
variable {α β R S σ:Type}{st:β->Nat->σ}{spec:List Tk->β->Rs α}{J:β->Nat->Prop}{A:α->Nat->R}{E:Nat->Int->R->Prop}{I:α->Nat->Prop}{K:S->Option R}{Kr:Nat->Int->σ->Prop}{i:Nat}
theorem RL.loop {step:Nat->σ->Option (σ⊕S)} (h:∀ i b,i<=t.length->J b i->RL N t st spec J A E I K Kr i (spec (ts t i) b) (λn=>step n (st b i)))
 (hK:∀ j e s,j<=t.length->e≠0->Kr j e s->∃ r r',(∀ n,step n s=some (.inr r))/\K r=some r'/\E j e r'):∀ (m i:Nat) (b:β),t.length-i<=m->i<=t.length->J b i->RG N t A E I (spec (ts t i) b) (λn=>(aaz (step n) (st b i)).bind K):=by
 have X:∀ i b,(RL N t st spec J A E I K Kr i (spec (ts t i) b) (λn=>step n (st b i)))->(∀ M j,i<j->j<=t.length->J M j->RG N t A E I (spec (ts t j) M) (λn=>(aaz (step n) (st M j)).bind K))->RG N t A E I (spec (ts t i) b) (λn=>(aaz (step n) (st b i)).bind K):=λi b hr ih=>by
  rcases hr with ⟨M,j,o,H,Y,h4,Z⟩ | ⟨r,o,H⟩ | ⟨j,e,s,o,H,Y,h4,Z⟩
  ·rw [h4];rcases ih M j o H Y with ⟨v,k,O,U,V,W⟩ | ⟨k,e,z,O,U,V,W,g5⟩
   ·exact .ok v k O U V λn d=>by rw [aan (Z n d)];exact W n d
   ·exact .er k e z O U V (λn d=>by rw [aan (Z n d)];exact W n d) g5
  ·rcases H with ⟨v,k,O,U,V,W⟩ | ⟨k,e,z,O,U,V,W,g5⟩
   ·exact .ok v k O U V λn d=>by rw [aac (o n d)];exact W n d
   ·exact .er k e z O U V (λn d=>by rw [aac (o n d)];exact W n d) g5
  ·obtain ⟨r,r',k1,k2,k3⟩:=hK j e s o H Z;exact .er j e r' o H Y (λn d=>by rw [aan (h4 n d),aac (k1 n)];exact k2) k3
 intro m
 induction m with
 | zero=>intro i b hm hi hj;exact X i b (h i b hi hj) λM j o H _=>by omega
 | succ m ih=>intro i b hm hi hj;exact X i b (h i b hi hj) λM j o H Y=>ih j M (by omega) H Y
theorem RL.seq {z U:Type}{A0:z->Nat->U}{E0:Nat->Int->U->Prop}{I0:z->Nat->Prop}{x0:Rs z}{y0:Nat->Option U}{f:z->List Tk->Rs α}{g:Nat->U->Option (σ⊕S)}
 (h:RG N t A0 E0 I0 x0 y0) (hc:∀ v j,j<=t.length->I0 v j->x0=.ok v (ts t j)->RL N t st spec J A E I K Kr i (f v (ts t j)) (λn=>g n (A0 v j)))
 (hE:∀ j e r,j<=t.length->e≠0->E0 j e r->(∃ s,(∀ n,g n r=some (.inl s))/\Kr j e s)\/(∃ X W,(∀ n,g n r=some (.inr X))/\K X=some W/\E j e W)):RL N t st spec J A E I K Kr i (x0.bind f) (λn=>(y0 n).bind (g n)):=by
 rcases h with ⟨v,j,O,hi,V,H⟩ | ⟨j,e,r,O,he,V,H,hr⟩
 ·rw [V];rcases hc v j O hi V with ⟨b',k,m,o,M,Y,Z⟩ | ⟨r,m,o⟩ | ⟨k,e,s,m,o,M,Y,Z⟩
  ·exact .go b' k m o M Y λn d=>by rw [H n d];exact Z n d
  ·exact .fin r (λn d=>by rw [H n d];exact m n d) o
  ·exact .er k e s m o M (λn d=>by rw [H n d];exact Y n d) Z
 ·rw [V];rcases hE j e r O he hr with ⟨s,m,o⟩ | ⟨X,W,m,o,M⟩
  ·exact .er j e s O he rfl (λn d=>by rw [H n d];exact m n) o
  ·exact .fin X (λn d=>by rw [H n d];exact m n) (.er j e W O he rfl (λ_ _=>o) M)
end
end
theorem avs:∀ (m i:Nat) (s:Bq),s.length<=m->s.length+i<=120->(s=[]\/∀ p,p∈abb 46 s->p≠[])->
 aaz (S217_5step 0) (s,(i:Int))=some (bif s==[]||(abb 46 s).all λx=>!aip x then .inr () else .inl false):=by
 intro m
 induction m with
 | zero=>
  intro i s hm _ _
  have:s=[]:=Az (by omega)
  subst this
  exact aac (by simp only [S217_5step,S217_5];cases decide ((i:Int)<120)<;>rfl)
 | succ m ih=>
  intro i s hm hs hp
  cases s with
  | nil=>exact aac (by simp only [S217_5step,S217_5];cases decide ((i:Int)<120)<;>rfl)
  | cons c r=>
   have H:((c::r)==([]:Bq))=false:=rfl
   have X:decide ((i:Int)<120)=true:=Ah (by simp only [Ao] at hs;omega)
   obtain ⟨O,o,h1,W⟩:=axn (c::r) (by omega)
   have U:∀ p,p∈abb 46 (c::r)->p≠[]:=by
    rcases hp with h | h
    ·cases h
    ·exact h
   have d:S217_5step 0 (c::r,(i:Int))=some (bif aip o then .inr (.inl false) else .inl (O,((i+1:Nat):Int))):=by simp only [S217_5step,S217_5,H,X,Aj,Ad,h1,Aa,alp,aa9 (show i<=9223372036854775000 by omega)];cases aip o<;>rfl
   rcases W with ⟨W,Y⟩ | ⟨rfl,rfl,Y⟩
   ·have ab:O.length<(c::r).length:=by rw [W];simp
    have M:abb 46 (c::r)=abb 46 O++[o]:=by rw [W,a2b,ao2 _ _ Y]
    have aa:O≠[]:=by intro e;exact U [] (by rw [M,e];simp [abb]) rfl
    have V:(O==([]:Bq))=false:=by simpa using aa
    have Z:∀ p,p∈abb 46 O->p≠[]:=λp h=>U p (by rw [M];simp [h]);have X:=ih (i+1) O (by omega) (by omega) (Or.inr Z);rw [M,List.all_append,H];rw [V] at X;cases z:aip o with
    | true=>rw [z] at d;rw [aac d];simp [z]
    | false=>rw [z] at d;rw [aan d,X];simp [z]
   ·rw [ao2 _ _ Y,H];cases z:aip (c::r) with
    | true=>rw [z] at d;rw [aac d];simp [z]
    | false=>rw [z] at d;rw [aan d,aac (y:=.inr ()) (by simp only [S217_5step,S217_5];cases decide (((i+1:Nat):Int)<120)<;>rfl)];simp [z]
theorem a2i (s:Bq) (M:s.length<=1048576):F217 0 s=some (defP s):=by
 unfold F217 defP;rw [ad4 s M,Aa];cases m:ae2 s with
 | false=>rfl
 | true=>
  have d:(abb 46 s).all acj=true:=by unfold ae2 at m;simp only [Ai] at m;exact m.2
  have z:s≠[]:=by intro e;subst e;simp [abb,acj] at d
  have o:(s==([]:Bq))=false:=by simpa using z
  have h:=avs s.length 0 s (by omega) (ars m) (Or.inr λp H=>a90 (Bi.1 d p H));simp only [Am,Ae,aal];rw [show (0:Int)=((0:Nat):Int) from rfl,h,o];cases (abb 46 s).all λx=>!aip x<;>rfl
theorem azh (o s:Bq) (d:o.length<=1048576) (m:s.length<=1048576):F220 0 o s=some (akj o s):=by
 unfold F220 akj;cases h:(o==[]) with
 | true=>rfl
 | false=>have z:decide (o.length+([46]:Bq).length<=aau)=true:=afb (by simp;omega);have H:decide ((o++([46]:Bq)).length+s.length<=aau)=true:=afb (by simp;omega);grind
theorem a6d {s:Bq} (h:acj s=true):(46:UInt8)∉s:=by
 intro d;cases s with
 | nil=>cases d
 | cons c r=>
  simp only [acj,Ai] at h;rcases Bl.1 d with e | d
  ·have:=h.1.2;rw [<-e] at this;exact absurd this (by decide)
  ·exact absurd (Bi.1 h.2 46 d) (by decide)
theorem a5o {o:Bq}{l r:List Tk}{v:Bq} (h:afk o l=.ok v r):v.length<=120:=by
 unfold afk ae9 at h;cases d:(aaw l==1) with
 | false=>rw [d] at h;cases h
 | true=>
  cases m:ahi o (abr l) with
  | false=>rw [d,m] at h;cases h
  | true=>rw [d,m] at h;cases h;exact aqi m
def a9p (o s:Bq):Option Bool:=(F217 0 s).bind λU=>
 let d:=!U
 let m:=!(o==([]:Bq))
 (bif bif m then !d else false then F218 0 s else some false).bind λH=>
 let z:=!H
 (bif bif !z then bif m then !d else false else false then F220 0 o s else some []).bind λM=>
 (bif bif !z then bif m then !d else false else false then F219 0 M else some false).bind λO=>
 some (bif d then true else (bif m then (bif z then true else (!O)) else false))
theorem a9q (o s:Bq) (X:o.length<=120) (H:s.length<=1048576):a9p o s=some (!ahi o s):=by
 unfold a9p ahi;rw [a2i s H,Aa];cases m:defP s with
 | false=>cases o==[]<;>rfl
 | true=>
  cases W:(o==[]) with
  | true=>rfl
  | false=>
   have M:=avt s H;have V:asz s=acj s:=by
    unfold asz;cases d:acj s with
    | false=>rfl
    | true=>unfold defP at m;have z:(46:UInt8)∉s:=a6d d;rw [ao2 46 s z,Ai] at m;simpa using m.2
   rw [V] at M;cases d:acj s with
   | false=>simp [M,d]
   | true=>
    have U:s.length<=120:=by unfold acj at d;grind
    have O:(akj o s).length<=1048576:=by unfold akj;cases o==[]<;>simp<;>omega
    simp [M,d,azh o s (by omega) H,ad4 (akj o s) O]
section
variable {t:List PV}{q:QF}{c:Prop}
theorem a7u (d:TOk t) (s:Bq):RF t q (λ_ z=>z) c (eatS 1 s) (F221 0 () s):=bbs d 1 rfl s λz=>rfl
theorem a9r (d:TOk t) (o:Bq) (O:o.length<=120):RF t q (λv z=>(v,z)) c (afk o) (F103 0 () o):=by
 have V:=d.len;refine ⟨λ_ i H=>?_,λj e U m=>⟨[],?_⟩⟩
 ·have key:F103 0 () o (t,(i:Int),0,q)=bif aaw (ts t i)==1 then (bif aaa (i:Int) t.length then (a9p o ((t.getD i .bad).fld 1).asStr).bind λy=>bif y then some ([],(t,(i:Int),8,q)) else (F220 0 o ((t.getD i .bad).fld 1).asStr).bind λz=>some (z,(t,IntKind.wrap .i64 ((i:Int)+1),0,q)) else none) else some ([],(t,(i:Int),2,q)):=by
   unfold F103 a9p;simp only [art 1 rfl,a0p,Aa,Option.bind_assoc,Ag];cases (aaw (ts t i)==1)<;>rfl
  rw [key];unfold afk ae9;cases M:(aaw (ts t i)==1) with
  | false=>exact .er i 2 [] H (by decide) rfl rfl
  | true=>
   have h:=abt (show ((1:Int)==0)=false from rfl) M;simp only [Ad,aab,h,decide_true,a9q o _ O (aq0 d h),Aa,ada h,aa9 (show i<=9223372036854775000 by omega)];cases W:ahi o ((t.getD i .bad).fld 1).asStr with
   | true=>rw [azh o _ (by omega) (aq0 d h)];exact .ok _ (i+1) h (by rw [Ad,aao];rfl) rfl
   | false=>exact .er i 8 [] H (by decide) rfl rfl
 ·unfold F103;rw [amp 1 _ e m];simp only [Aa,Aj,Ad,ai8 2 _ e m]
theorem adr (s:Bq) (a e:Int) (d:e≠0):F104 0 () s (t,a,e,q)=some (t,a,e,q):=by unfold F104;simp only [mayE 4 s a e d,Aa,Aj,Ad,ai8 2 a e d]
theorem ba9 (s:Bq) (a e:Int) (d:e≠0):F221 0 () s (t,a,e,q)=some (t,a,e,q):=by unfold F221;simp only [mayE 1 s a e d,Aa,Aj,Ad,ai8 2 a e d]
theorem partE (a e:Int) (d:e≠0):F136 0 () (t,a,e,q)=some ([],(t,a,e,q)):=by unfold F136;simp only [amp 1 a e d,Aa,Aj,Ad,ai8 2 a e d]
theorem a5q (o:Bq) (a e:Int) (d:e≠0):F103 0 () o (t,a,e,q)=some ([],(t,a,e,q)):=by unfold F103;simp only [amp 1 a e d,Aa,Aj,Ad,ai8 2 a e d]
theorem be2 (a e:Int) (d:e≠0):F116 0 () (t,a,e,q)=some ([],(t,a,e,q)):=by unfold F116;simp only [amp 1 a e d,Aa,Aj,Ad,ai8 2 a e d]
theorem numE (m a e:Int) (d:e≠0):F226 0 () m (t,a,e,q)=some (0,(t,a,e,q)):=by unfold F226;simp only [amp 2 a e d,Aa,Aj,Ad,ai8 2 a e d]
theorem afn (a e:Int) (d:e≠0):F222 0 () (t,a,e,q)=some ([],(t,a,e,q)):=by unfold F222;simp only [bneI d,Ad]
theorem baa (a e:Int) (d:e≠0):F227 0 () (t,a,e,q)=some ([],false,(t,a,e,q)):=by unfold F227;simp only [adr _ a e d,mayE 1 _ a e d,be2 a e d,Aa]
theorem ah4 {k:Int}{w w':Bq}{l:List Tk} (h:isS k w l=true) (d:(w==w')=false):isS k w' l=false:=by
 cases l with
 | nil=>rfl
 | cons x r=>simp only [isS,Ai,Bo] at h;simp only [isS,h.2,d,Bool.and_false]
abbrev axb (t:List PV) (q:QF) (v:List PV) (j:Nat):List PV×Q4:=(v,(t,((j:Nat):Int),0,q))
abbrev axc (t:List PV) (q:QF) (j:Nat) (e:Int) (r:List PV×Q4):Prop:=∃ v,r=(v,(t,((j:Nat):Int),e,q))/\v.length<=t.length+1
theorem axw (o:TOk t) (w:Bq) (N j:Nat) (m:j<=t.length) (v:List PV) {I:List PV->Nat->Prop} (d:I v (j+1)) (z:v.length<=t.length+1):
 RG N t (axb t q) (axc t q) I (bif isS 4 w (ts t j) then .ok v (ts t j).tail else .er (ts t j) 2) (λ_=>(F104 0 () w (t,(j:Int),0,q)).bind λy=>some (v,y)):=by
 unfold F104
 simp only [mayR o 4 rfl,Aa]
 cases h:isS 4 w (ts t j) with
 | true=>exact .ok v (j+1) (abl h) d (by rw [Ad,aao]) λ_ _=>rfl
 | false=>exact .er j 2 _ m (by decide) rfl (λ_ _=>rfl) ⟨_,rfl,z⟩
theorem anyR (o:TOk t) (i:Nat) (m:i<=t.length):(abd (ts t i)=.er (ts t i) 2/\F105 0 () 3 (t,(i:Int),0,q)=some (false,(t,(i:Int),0,q)))\/(i<t.length/\abd (ts t i)=.ok ((t.getD i .bad).fld 1).asStr (ts t (i+1))/\F105 0 () 3 (t,(i:Int),0,q)=some (true,(t,(i:Int),0,q))):=by
 rw [art 3 rfl];unfold abd ae9;cases d:(aaw (ts t i)==3) with
 | false=>exact Or.inl ⟨rfl,rfl⟩
 | true=>have h:=abt (show ((3:Int)==0)=false from rfl) d;exact Or.inr ⟨h,by rw [Ad,Ad,ada h,aao],rfl⟩
theorem goneR (o:TOk t) (X:t.length<=100000) (N d:Nat) (O:d<=t.length):
 RG N t (axb t q) (axc t q) (λv j=>v.length+d<=j) (ake (ts t d) []) (λ_=>F224 0 () (t,(d:Int),0,q)):=by
 have Z:=o.len
 unfold F224
 simp only [aal]
 refine RL.loop (st:=λ(b:List PV) (j:Nat)=>((),b,(t,(j:Int),0,q))) (spec:=λl b=>ake l b) (J:=λb j=>b.length+d<=j) (step:=λ_=>S224_3step 0) (Kr:=λ_ _ _=>False) (λi b U Y=>?_) (λ_ _ _ _ _ h=>h.elim) t.length d [] (by omega) O (by simp)
 show RL _ _ _ _ _ _ _ _ _ _ i (ake (ts t i) b) _
 have W:∀ x:PV,decide (b.length+[x].length<=aaf)=true:=λx=>accL (by simp;omega)
 rw [amy]
 simp only [S224_3step,S224_3,show ((0:Int)==0)=true from rfl,Ad]
 rcases anyR (q:=q) o i U with ⟨z,H⟩ | ⟨m,z,H⟩
 ·rw [z,H];exact .fin (.inl ([],(t,(i:Int),2,q))) (λ_ _=>rfl) (.er i 2 _ U (by decide) rfl (λ_ _=>rfl) ⟨_,rfl,Nat.zero_le _⟩)
 ·rw [z,H,Rs.bind_ok];simp only [Aa,Am,Ae,aab,m,decide_true,Ad,Ag,W,aa9 (show i<=9223372036854775000 by omega),mayR o 4 rfl];unfold eatS;cases V:isS 4 [44] (ts t (i+1)) with
  | true=>have M:isS 4 [59] (ts t (i+1))=false:=ah4 V (by decide);simp only [M,Ae,Ad,Rs.bind_ok,aao,Aa,Am];exact .go (b++[PV.str ((t.getD i .bad).fld 1).asStr]) (i+1+1) (by omega) (abl V) (by simp;omega) rfl λ_ _=>rfl
  | false=>simp only [Ae,Aa,Aj,Ad,Rs.bind_er];exact .fin (.inr ((),b++[PV.str ((t.getD i .bad).fld 1).asStr],(t,((i+1:Nat):Int),0,q))) (λ_ _=>rfl) (axw o [59] N (i+1) m _ (by simp;omega) (by simp;omega))
end
end
end Go.Ab
namespace Go.Ab
open Go
set_option maxRecDepth 100000
noncomputable section
section
variable {t:List PV}{q:QF}{c:Prop}{N:Nat}
theorem RL.comma {S o:Type}{st:List PV->Nat->o}{spec:List Tk->List PV->Rs (List PV)}{J I:List PV->Nat->Prop}{K:S->Option (List PV×Q4)}{Kr:Nat->Int->o->Prop}{i:Nat}{mr:Q4->S}{ml:Q4->o}
 (H:TOk t) (j:Nat) (W:j<=t.length) (V:i<=j) (l:List PV) (O:J l (j+1)) (M:I l (j+1)) (X:l.length<=t.length+1) (m:ml (t,((j+1:Nat):Int),0,q)=st l (j+1)) (U:K (mr (t,(j:Int),0,q))=(F104 0 () [59] (t,(j:Int),0,q)).bind λy=>some (l,y)):
 RL N t st spec J (axb t q) (axc t q) I K Kr i (bif isS 4 [59] (ts t j) then .ok l (ts t j).tail else (eatS 4 [44] (ts t j)).bind λ_ Y=>spec Y l) (λ_=>(F102 0 () 4 [44] (t,(j:Int),0,q)).bind λy=>bif !y.1 then some (.inr (mr y.2)) else some (.inl (ml y.2))):=by
 simp only [mayR H 4 rfl,Aa]
 unfold eatS
 cases z:isS 4 [44] (ts t j) with
 | true=>
  have d:isS 4 [59] (ts t j)=false:=ah4 z (by decide)
  simp only [d,Ae,Ad,Rs.bind_ok,aao,Am]
  exact .go l (j+1) (by omega) (abl z) O rfl λ_ _=>by rw [m]
 | false=>
  simp only [Ae,Aj,Ad,Rs.bind_er]
  refine .fin (mr (t,(j:Int),0,q)) (λ_ _=>rfl) ?_
  rw [U]
  exact axw H [59] N j W l M X
theorem bbu (W:TNum t) (h5:t.length<=100000) (d:Int) (m:Nat) (M:m<=t.length):
 RG N t (axb t q) (axc t q) (λv j=>v.length+m<=j) (adh d (ts t m) []) (λ_=>F225 0 () d (t,(m:Int),0,q)):=by
 have H:=W.toTOk
 unfold F225
 simp only [aal]
 refine RL.loop (st:=λ(b:List PV) (j:Nat)=>((),d,b,(t,(j:Int),0,q))) (spec:=λl b=>adh d l b) (J:=λb j=>b.length+m<=j) (step:=λ_=>S225_3step 0) (Kr:=λ_ _ _=>False) (λi b Z hJ=>?_) (λ_ _ _ _ _ h=>h.elim) t.length m [] (by omega) M (by simp)
 show RL _ _ _ _ _ _ _ _ _ _ i (adh d (ts t i) b) _
 have ea:∀ x:PV,decide (b.length+[x].length<=aaf)=true:=λx=>accL (by simp;omega)
 rw [as3]
 unfold avk
 simp only [S225_3step,S225_3,show ((0:Int)==0)=true from rfl,Ad,Rs.bind_assoc,Rs.bind_ok,ea]
 refine RL.seq ((numR W d).rg (c:=True) trivial i Z) (λa j O _ hx=>?_) (λj e r O o V=>?_)
 ·have q1:=abg Z O (ajk _ _) hx;simp only [mayR H 4 rfl,Aa];cases hs:isS 4 [45] (ts t j) with
  | true=>
   simp only [Ad,aao];refine RL.seq ((numR W d).rg (c:=True) trivial (j+1) (abl hs)) (λY k U _ X=>?_) (λk e r U o V=>?_)
   ·have q2:=abg (abl hs) U (ajk _ _) X;exact RL.comma (mr:=λz=>((),b++[PV.agg [PV.int a,PV.int Y]],z)) (ml:=λz=>((),d,b++[PV.agg [PV.int a,PV.int Y]],z)) H k U (by omega) _ (by simp;omega) (by simp;omega) (by simp;omega) rfl rfl
   ·obtain ⟨v,rfl⟩:=V;refine .inr ⟨((),b++[PV.agg [PV.int a,PV.int v]],(t,(k:Int),e,q)),(b++[PV.agg [PV.int a,PV.int v]],(t,(k:Int),e,q)),λ_=>?_,?_,⟨_,rfl,by simp;omega⟩⟩
    ·simp only [mayE _ _ _ e o,Aa,Aj,Ad]
    ·simp only [adr _ _ e o,Aa]
  | false=>simp only [Ae,Rs.bind_ok];exact RL.comma (mr:=λz=>((),b++[PV.agg [PV.int a,PV.int a]],z)) (ml:=λz=>((),d,b++[PV.agg [PV.int a,PV.int a]],z)) H j O (by omega) _ (by simp;omega) (by simp;omega) (by simp;omega) rfl rfl
 ·obtain ⟨v,rfl⟩:=V;refine .inr ⟨((),b++[PV.agg [PV.int v,PV.int v]],(t,(j:Int),e,q)),(b++[PV.agg [PV.int v,PV.int v]],(t,(j:Int),e,q)),λ_=>?_,?_,⟨_,rfl,by simp;omega⟩⟩
  ·simp only [mayE _ _ _ e o,Aa,Aj,Ad,Ae]
  ·simp only [adr _ _ e o,Aa]
def a5h (d:Bq) (l:List Tk) (b:List PV):Rs (List PV):=bif b.isEmpty then abz parV aae d l b else bif isS 4 [125] l then .ok b l.tail else abz parV aae d l b
theorem aoe (m:Bq) (l:List PV) (a e:Int) (d:e≠0):S223_5step 0 ((),m,l,(t,a,e,q))=some (.inr ((),l,(t,a,e,q))):=by simp only [S223_5step,S223_5,beqI d,aag,Ae]
theorem bez (ht:TNum t) (h5:t.length<=100000) (z:Nat) (W:z<=t.length):
 RG N t (axb t q) (axc t q) (λv j=>v.length+z<=j) ((ai9 (ts t z)).bind λd r2=>(eatS 4 [123] r2).bind λ_ r3=>abz parV aae d r3 []) (λ_=>F223 0 () (t,(z:Int),0,q)):=by
 have h0:=ht.toTOk
 unfold F223
 simp only [aal]
 refine RG.seq ((a6a h0).rg (c:=True) trivial z W) (λd j1 O _ ab=>?_) (λj e r H m U=>?_)
 ·have q1:=abg W O (afu _) ab;refine RG.seq ((ajb h0 [123]).rg (c:=True) trivial j1 O) (λ_ j2 X _ ad=>?_) (λj e r H m U=>?_)
  ·have q2:=abg O X (aba _ _ _) ad;have:=RL.loop (N:=N) (t:=t) (A:=axb t q) (E:=axc t q) (I:=λv j=>v.length+z<=j) (K:=λo:Unit×List PV×Q4=>(F104 0 () [125] o.2.2).bind λV=>some (o.2.1,V))
    (st:=λ(b:List PV) (j:Nat)=>((),d,b,(t,(j:Int),0,q))) (spec:=λl b=>a5h d l b) (J:=λb j=>b.length+z<=j) (step:=λ_=>S223_5step 0) (Kr:=λj e s=>∃ l,s=((),d,l,(t,((j:Nat):Int),e,q))/\l.length<=t.length+1) (λi b hi hJ=>?_) (λj e s H m hs=>?_) t.length j2 [] (by omega) X (by simp;omega)
   ·exact this
   ·have ea:∀ x:PV,decide (b.length+[x].length<=aaf)=true:=λx=>accL (by simp;omega);have M:∀ y:Nat->Option ((Unit×Bq×List PV×Q4)⊕(Unit×List PV×Q4)),(∀ n,y n=(F53 0 () (t,(i:Int),0,q)).bind λY=>(F122 0 () (af0 2 0 Y.1 d) false Y.2).bind λZ=>some (.inl ((),d,b++[Z.1],Z.2)))->
     RL N t (λ(b:List PV) (j:Nat)=>((),d,b,((t,(j:Int),0,q):Q4))) (λl b=>a5h d l b) (λb j=>b.length+z<=j) (axb t q) (axc t q) (λv j=>v.length+z<=j) (λo:Unit×List PV×Q4=>(F104 0 () [125] o.2.2).bind λV=>some (o.2.1,V)) (λj e s=>∃ l,s=((),d,l,(t,((j:Nat):Int),e,q))/\l.length<=t.length+1) i (abz parV aae d (ts t i) b) y:=λy hy=>by
     obtain rfl:y=λ_=>_:=funext hy
     rw [alm]
     refine RL.seq ((typR h0).rg (c:=True) trivial i hi) (λty j H _ hx=>?_) (λj e r H m U=>?_)
     ·have p1:=abg hi H (aq1 _) hx;refine RL.seq ((endR ht h5 2 0 ty d false (λh=>by cases h)).rg (c:=True) trivial j H) (λx k hk _ hx=>?_) (λj e r H m U=>?_)
      ·have p2:=abg H hk (alu parV aae _ _ _ _ _ _) hx;refine .go (b++[x]) k (by omega) hk (by simp;omega) ?_ λ_ _=>rfl;have e:(b++[x]).isEmpty=false:=by cases b<;>rfl
       simp only [a5h,e,Ae]
      ·obtain ⟨v,rfl⟩:=U;exact .inl ⟨_,λ_=>rfl,⟨_,rfl,by simp;omega⟩⟩
     ·obtain ⟨v,rfl⟩:=U;obtain ⟨w,hw⟩:=(endR (q:=q) (c:=True) ht h5 2 0 v d false (λh=>by cases h)).st j e H m;exact .inl ⟨((),d,b++[w],(t,(j:Int),e,q)),λ_=>by rw [hw];rfl,⟨_,rfl,by simp;omega⟩⟩
    show RL _ _ _ _ _ _ _ _ _ _ i (a5h d (ts t i) b) _;unfold a5h;simp only [S223_5step,S223_5,show ((0:Int)==0)=true from rfl,Ad,ea];cases b with
    | nil=>exact M _ λ_=>rfl
    | cons b0 bs=>
     have e1:(((b0::bs).length:Int)==0)=false:=beqI (by simp only [Ao];omega);simp only [e1,Aj,Ad,Ae,isR 4 rfl,Aa,List.isEmpty_cons];cases hs:isS 4 [125] (ts t i) with
     | true=>refine .fin ((),b0::bs,(t,(i:Int),0,q)) (λ_ _=>rfl) ?_;have:=axw (q:=q) h0 [125] N i hi (b0::bs) (I:=λv j=>v.length+z<=j) (by omega) (by omega);rw [hs] at this;exact this
     | false=>exact M _ λ_=>rfl
   ·obtain ⟨l,rfl,aa⟩:=hs;exact ⟨_,(l,(t,(j:Int),e,q)),λ_=>aoe d l _ e m,by simp only [adr _ _ e m,Aa],⟨_,rfl,aa⟩⟩
  ·obtain ⟨v,rfl⟩:=U;exact ⟨([],(t,(j:Int),e,q)),λ_=>by rw [aac (aoe d [] _ e m)];simp only [adr _ _ e m,Aa],⟨_,rfl,Nat.zero_le _⟩⟩
 ·obtain ⟨v,rfl⟩:=U;exact ⟨([],(t,(j:Int),e,q)),λ_=>by simp only [adr _ _ e m,Aa];rw [aac (aoe v [] _ e m)];simp only [adr _ _ e m,Aa],⟨_,rfl,Nat.zero_le _⟩⟩
theorem bev (O:TOk t):RF t q (λv z=>(v.2,v.1,z)) c avd (F227 0 ()):=by
 have V:∀ (U:Prop) (b:Bool),RF t q (λ(v:Bool×Bq) z=>(v.2,v.1,z)) U (λr=>(ack r).bind λs m=>(eatS 4 [41] m).bind λ_ o=>.ok (b,s) o) (λz=>(F116 0 () z).bind λd=>(F104 0 () [41] d.2).bind λH=>some (d.1,b,H)):=λU b=>
  RF.step (azw O) (G:=λs z=>(F104 0 () [41] z).bind λH=>some (s,b,H)) (λ_ _=>rfl) λs=>RF.step (ajb O [41]) (G:=λ_ z=>some (s,b,z)) (λ_ _=>rfl) λ_=>RF.ret' (b,s) λ_=>rfl
 refine RF.congr (RF.step (f2:=λ_ r=>bif isS 1 [115,116,114,101,97,109] r then ((ack r.tail).bind λs m=>(eatS 4 [41] m).bind λ_ o=>.ok (true,s) o) else ((ack r).bind λs m=>(eatS 4 [41] m).bind λ_ o=>.ok (false,s) o))
  (g:=λW=>(F102 0 () 1 [115,116,114,101,97,109] W).bind λM=>(F116 0 () M.2).bind λd=>(F104 0 () [41] d.2).bind λH=>some (d.1,M.1,H)) (ajb O [40]) (G:=λ_ z=>(F102 0 () 1 [115,116,114,101,97,109] z).bind λM=>(F116 0 () M.2).bind λd=>(F104 0 () [41] d.2).bind λH=>some (d.1,M.1,H)) (λ_ _=>rfl) λ_=>RF.may (f1:=λr=>(ack r).bind λs m=>(eatS 4 [41] m).bind λ_ o=>.ok (true,s) o) (f2:=λr=>(ack r).bind λs m=>(eatS 4 [41] m).bind λ_ o=>.ok (false,s) o) (g:=λM=>(F116 0 () M.2).bind λd=>(F104 0 () [41] d.2).bind λH=>some (d.1,M.1,H)) O 1 rfl [115,116,114,101,97,109] (V _ true) (V _ false)) (λr=>?_) (λz=>rfl)
 unfold avd;congr 1;funext _ r;cases isS 1 [115,116,114,101,97,109] r<;>rfl
def E4 (t:List PV) (L:Nat) (j:Nat) (e:Int) (r:Q4):Prop:=∃ (m o:Bq) (ss d ms es:List PV),r=(t,((j:Nat):Int),e,m,o,(),(),(),ss,d,ms,es)/\L<=ms.length
end
end
end Go.Ab
namespace Go.Ab
open Go
set_option maxRecDepth 100000
noncomputable section
section
variable {t:List PV}{N:Nat}
theorem azi (a e:Int) (M:e≠0) (z H:Bq) (ss o ms es:List PV) (d:Bq) (b m:List PV):
 S110_5step 0 ((),(),t,a,e,z,H,(),(),(),ss,o,ms,es,d,b,m)=some (.inr ((),(),t,a,e,z,H,(),(),(),ss,o,ms,es,d,b,m)):=by
 simp only [S110_5step,S110_5,beqI M,Ae]
def svcK (d:Unit×Unit×(List PV)×Int×Int×Bq×Bq×Unit×Unit×Unit×(List PV)×(List PV)×(List PV)×(List PV)×Bq×(List PV)×(List PV)):Option Q4:=
 (F104 0 () ([125]:Bq) (d.2.2.1,d.2.2.2.1,d.2.2.2.2.1,d.2.2.2.2.2.1,d.2.2.2.2.2.2.1,(),(),(),d.2.2.2.2.2.2.2.2.2.2.1,d.2.2.2.2.2.2.2.2.2.2.2.1,d.2.2.2.2.2.2.2.2.2.2.2.2.1,d.2.2.2.2.2.2.2.2.2.2.2.2.2.1)).bind λm=>
  bif decide (m.2.2.2.2.2.2.2.2.1.length+[(PV.agg [(PV.str d.2.2.2.2.2.2.2.2.2.2.2.2.2.2.1),(PV.slice d.2.2.2.2.2.2.2.2.2.2.2.2.2.2.2.1),(PV.slice d.2.2.2.2.2.2.2.2.2.2.2.2.2.2.2.2)])].length<=aaf) then
  some (m.1,m.2.1,m.2.2.1,m.2.2.2.1,m.2.2.2.2.1,(),(),(),m.2.2.2.2.2.2.2.2.1++[(PV.agg [(PV.str d.2.2.2.2.2.2.2.2.2.2.2.2.2.2.1),(PV.slice d.2.2.2.2.2.2.2.2.2.2.2.2.2.2.2.1),(PV.slice d.2.2.2.2.2.2.2.2.2.2.2.2.2.2.2.2)])],m.2.2.2.2.2.2.2.2.2) else none
theorem bdd (O:TOk t) (j:Nat) (h:isS 4 [125] (ts t j)=true) (z H:Bq) (ss o ms es:List PV) (U:ss.length<=100000) (d:Bq) (b m:List PV):
 svcK ((),(),t,(j:Int),0,z,H,(),(),(),ss,o,ms,es,d,b,m)=some (t,((j+1:Nat):Int),0,z,H,(),(),(),ss++[PV.agg [PV.str d,PV.slice b,PV.slice m]],o,ms,es):=by
 have M:∀ x:PV,decide (ss.length+[x].length<=aaf)=true:=λx=>accL (by simp;omega)
 unfold svcK F104
 simp only [mayR O 4 rfl,h,Ad,Aa,Am,Ae,M]
theorem a7d (a e:Int) (O:e≠0) (z H:Bq) (ss o ms es:List PV) (U:ss.length<=100000) (d:Bq) (b m:List PV):
 svcK ((),(),t,a,e,z,H,(),(),(),ss,o,ms,es,d,b,m)=some (t,a,e,z,H,(),(),(),ss++[PV.agg [PV.str d,PV.slice b,PV.slice m]],o,ms,es):=by
 have M:∀ x:PV,decide (ss.length+[x].length<=aaf)=true:=λx=>accL (by simp;omega)
 unfold svcK
 simp only [adr _ _ e O,Aa,M,Ad]
theorem svcR (ht:TNum t) (h5:t.length<=100000) (i0:Nat) (ao:i0<=t.length) (U V:Bq) (ss O ms es:List PV) (hs:ss.length<=100000):
 RG N t (λ(v:PV) (j:Nat)=>((t,(j:Int),0,U,V,(),(),(),ss++[v],O,ms,es):Q4)) (E4 t ms.length) (λ_ _=>True) (svcS parV aae (ts t i0)) (λ_=>F110 0 () (t,(i0:Int),0,U,V,(),(),(),ss,O,ms,es)):=by
 have X:=ht.toTOk
 unfold F110 svcS
 simp only [aal]
 have M:∀ (j:Nat) (e:Int) (d:Bq) (o:List PV),e≠0->∃ Y,((aaz (S110_5step 0) ((),(),t,(j:Int),e,U,V,(),(),(),ss,O,ms,es,d,[],o)).bind svcK)=some Y/\E4 t ms.length j e Y:=λj e d o m=>
  ⟨_,by rw [aac (azi _ e m U V ss O ms es d [] o),Aa,a7d _ e m _ _ _ _ _ _ hs],⟨_,_,_,_,_,_,rfl,Nat.le_refl _⟩⟩
 refine RG.seq ((a7u X [115,101,114,118,105,99,101]).rg (c:=True) trivial i0 ao) (λ_ j1 aa _ ak=>?_) (λj e r W m z=>?_)
 rotate_left
 ·obtain ⟨v,rfl⟩:=z;simp only [a5q _ _ e m,afn _ e m,adr _ _ e m,Aa];obtain ⟨Y,Z,h2⟩:=M j e [] [] m;exact ⟨Y,λ_=>Z,h2⟩
 have q1:=abg ao aa (aba _ _ _) ak
 refine RG.seq ((a9r X [] (by simp)).rg (c:=True) trivial j1 aa) (λd j2 ab _ al=>?_) (λj e r W m z=>?_)
 rotate_left
 ·obtain ⟨v,rfl⟩:=z;simp only [afn _ e m,adr _ _ e m,Aa];obtain ⟨Y,Z,h2⟩:=M j e v [] m;exact ⟨Y,λ_=>Z,h2⟩
 have q2:=abg aa ab (ag3 _ _) al
 refine RG.seq ((aqj aux ht h5).rg (c:=True) trivial j2 ab) (λo j3 ad _ am=>?_) (λj e r W m z=>?_)
 rotate_left
 ·obtain ⟨v,rfl⟩:=z;simp only [adr _ _ e m,Aa];obtain ⟨Y,Z,h2⟩:=M j e d v m;exact ⟨Y,λ_=>Z,h2⟩
 have q3:=amk ab ad (ac7 parV aae _) am
 refine RG.seq ((ajb X [123]).rg (c:=True) trivial j3 ad) (λ_ j4 ap _ an=>?_) (λj e r W m z=>?_)
 rotate_left
 ·obtain ⟨v,rfl⟩:=z;obtain ⟨Y,Z,h2⟩:=M j e d o m;exact ⟨Y,λ_=>Z,h2⟩
 have q4:=abg ad ap (aba _ _ _) an
 have lp:=RL.loop (N:=N) (t:=t) (A:=λ(v:PV) (j:Nat)=>((t,(j:Int),0,U,V,(),(),(),ss++[v],O,ms,es):Q4)) (E:=E4 t ms.length) (I:=λ_ _=>True) (K:=svcK)
  (st:=λ(b:List PV) (j:Nat)=>((),(),t,(j:Int),(0:Int),U,V,(),(),(),ss,O,ms,es,d,b,o)) (spec:=λl b=>(ak0 parV aae l b).bind λx r4=>.ok (PV.agg [PV.str d,PV.slice x,PV.slice o]) r4) (J:=λb j=>b.length<=j) (step:=λ_=>S110_5step 0)
  (Kr:=λj e s=>∃ b,s=((),(),t,((j:Nat):Int),e,U,V,(),(),(),ss,O,ms,es,d,b,o)) (λi b hi hJ=>?_) (λj e s W m au=>?_) t.length j4 [] (by omega) ap (by simp)
 ·exact lp
 ·have ea:∀ x:PV,decide (b.length+[x].length<=aaf)=true:=λx=>accL (by simp;omega);show RL _ _ _ _ _ _ _ _ _ _ i ((ak0 parV aae (ts t i) b).bind _) _;rw [axs];simp only [S110_5step,S110_5,show ((0:Int)==0)=true from rfl,Ad,isR 4 rfl,Aa];cases hb:isS 4 [125] (ts t i) with
  | true=>simp only [Am,Ae,Ad,Rs.bind_ok];exact .fin ((),(),t,(i:Int),0,U,V,(),(),(),ss,O,ms,es,d,b,o) (λ_ _=>rfl) (.ok _ (i+1) (abl hb) trivial (by rw [aao]) λ_ _=>bdd X i hb U V ss O ms es hs d b o)
  | false=>
   simp only [Aj,Ad,Ae,rpcS,Rs.bind_assoc,Rs.bind_ok];refine RL.seq ((a7u X [114,112,99]).rg (c:=True) trivial i hi) (λ_ k1 ae _ ak=>?_) (λj e r W m z=>?_);rotate_left
   ·obtain ⟨v,rfl⟩:=z;simp only [partE _ e m,baa _ e m,ba9 _ _ e m,afn _ e m,adr _ _ e m,Aa,Ae,aag,ea,Ad];exact .inl ⟨_,λ_=>rfl,⟨_,rfl⟩⟩
   have p1:=abg hi ae (aba _ _ _) ak;refine RL.seq ((a6a X).rg (c:=True) trivial k1 ae) (λmn k2 af _ al=>?_) (λj e r W m z=>?_);rotate_left
   ·obtain ⟨v,rfl⟩:=z;simp only [baa _ e m,ba9 _ _ e m,afn _ e m,adr _ _ e m,Aa,Ae,aag,ea,Ad];exact .inl ⟨_,λ_=>rfl,⟨_,rfl⟩⟩
   have p2:=abg ae af (afu _) al;refine RL.seq ((bev X).rg (c:=True) trivial k2 af) (λv1 k3 ag _ am=>?_) (λj e r W m z=>?_);rotate_left
   ·obtain ⟨⟨m1,s1⟩,rfl⟩:=z;cases m1<;>simp only [baa _ e m,ba9 _ _ e m,afn _ e m,adr _ _ e m,Aa,Ae,aag,ea,Ad]<;>exact .inl ⟨_,λ_=>rfl,⟨_,rfl⟩⟩
   have p3:=abg af ag (asx _) am;refine RL.seq ((a7u X [114,101,116,117,114,110,115]).rg (c:=True) trivial k3 ag) (λ_ k4 ah _ an=>?_) (λj e r W m z=>?_);rotate_left
   ·obtain ⟨v,rfl⟩:=z;obtain ⟨m1,s1⟩:=v1;cases m1<;>simp only [baa _ e m,ba9 _ _ e m,afn _ e m,adr _ _ e m,Aa,Ae,aag,ea,Ad]<;>exact .inl ⟨_,λ_=>rfl,⟨_,rfl⟩⟩
   have p4:=abg ag ah (aba _ _ _) an;refine RL.seq ((bev X).rg (c:=True) trivial k4 ah) (λv2 k5 ai _ av=>?_) (λj e r W m z=>?_);rotate_left
   ·obtain ⟨⟨m2,s2⟩,rfl⟩:=z;obtain ⟨m1,s1⟩:=v1;cases m1<;>cases m2<;>simp only [afn _ e m,adr _ _ e m,Aa,Ae,aag,ea,Ad]<;>exact .inl ⟨_,λ_=>rfl,⟨_,rfl⟩⟩
   have p5:=abg ah ai (asx _) av;obtain ⟨m1,s1⟩:=v1;obtain ⟨m2,s2⟩:=v2;have tl:∀ (sh:Int),RL N t (λ(b:List PV) (j:Nat)=>((),(),t,(j:Int),(0:Int),U,V,(),(),(),ss,O,ms,es,d,b,o)) (λl b=>(ak0 parV aae l b).bind λx r4=>.ok (PV.agg [PV.str d,PV.slice x,PV.slice o]) r4) (λb j=>b.length<=j)
    (λ(v:PV) (j:Nat)=>((t,(j:Int),0,U,V,(),(),(),ss++[v],O,ms,es):Q4)) (E4 t ms.length) (λ_ _=>True) svcK (λj e s=>∃ b,s=((),(),t,((j:Nat):Int),e,U,V,(),(),(),ss,O,ms,es,d,b,o)) i
    ((acw parV aae (ts t k5)).bind λl r5=>(eatS 4 [59] r5).bind λ_ r6=>(ak0 parV aae r6 (b++[PV.agg [PV.str mn,PV.str s1,PV.str s2,PV.int sh,PV.slice l]])).bind λx r4=>.ok (PV.agg [PV.str d,PV.slice x,PV.slice o]) r4)
    (λ_=>(F222 0 () (t,(k5:Int),0,U,V,(),(),(),ss,O,ms,es)).bind λar=>(F104 0 () ([59]:Bq) ar.2).bind λH=>
     some (.inl ((),(),H.1,H.2.1,H.2.2.1,H.2.2.2.1,H.2.2.2.2.1,(),(),(),H.2.2.2.2.2.2.2.2.1,H.2.2.2.2.2.2.2.2.2.1,H.2.2.2.2.2.2.2.2.2.2.1,H.2.2.2.2.2.2.2.2.2.2.2,d,b++[PV.agg [PV.str mn,PV.str s1,PV.str s2,PV.int sh,PV.slice ar.1]],o))):=λsh=>by
    refine RL.seq ((aqj aux ht h5).rg (c:=True) trivial k5 ai) (λl k6 aj _ aw=>?_) (λj e r W m z=>?_)
    ·have p6:=amk ai aj (ac7 parV aae _) aw;refine RL.seq ((ajb X [59]).rg (c:=True) trivial k6 aj) (λ_ k7 aq _ ax=>?_) (λj e r W m z=>?_)
     ·have p7:=abg aj aq (aba _ _ _) ax;exact .go (b++[PV.agg [PV.str mn,PV.str s1,PV.str s2,PV.int sh,PV.slice l]]) k7 (by omega) aq (by simp;omega) rfl λ_ _=>rfl
     ·obtain ⟨v,rfl⟩:=z;exact .inl ⟨_,λ_=>rfl,⟨_,rfl⟩⟩
    ·obtain ⟨v,rfl⟩:=z;simp only [adr _ _ e m,Aa];exact .inl ⟨_,λ_=>rfl,⟨_,rfl⟩⟩
   simp only [ea,Ad];cases m1<;>cases m2
   ·exact tl 1
   ·exact tl 2
   ·exact tl 3
   ·exact tl 4
 ·obtain ⟨b,rfl⟩:=au;exact ⟨_,_,λ_=>azi _ e m U V ss O ms es d b o,a7d _ e m _ _ _ _ _ _ hs d b o,⟨_,_,_,_,_,_,rfl,Nat.le_refl _⟩⟩
end
end
end Go.Ab
namespace Go.Ab
open Go
set_option maxRecDepth 100000
noncomputable section
section
variable {t:List PV}{N:Nat}
theorem a4r (a e:Int) (V:e≠0) (M U:Bq) (ss H ms es:List PV) (d:Bq) (O:Bool) (o z m:List PV):
 S109_6step 0 ((),(),t,a,e,M,U,(),(),(),ss,H,ms,es,d,O,o,z,m)=some (.inr ((),(),t,a,e,M,U,(),(),(),ss,H,ms,es,d,O,o,z,m)):=by
 simp only [S109_6step,S109_6,beqI V,Ae]
def awm (d:Unit×Unit×(List PV)×Int×Int×Bq×Bq×Unit×Unit×Unit×(List PV)×(List PV)×(List PV)×(List PV)×Bq×Bool×(List PV)×(List PV)×(List PV)):Option Q4:=
 (F104 0 () ([125]:Bq) (d.2.2.1,d.2.2.2.1,d.2.2.2.2.1,d.2.2.2.2.2.1,d.2.2.2.2.2.2.1,(),(),(),d.2.2.2.2.2.2.2.2.2.2.1,d.2.2.2.2.2.2.2.2.2.2.2.1,d.2.2.2.2.2.2.2.2.2.2.2.2.1,d.2.2.2.2.2.2.2.2.2.2.2.2.2.1)).bind λm=>
  bif decide (m.2.2.2.2.2.2.2.2.2.2.2.length+[(PV.agg [(PV.str d.2.2.2.2.2.2.2.2.2.2.2.2.2.2.1),(PV.bool d.2.2.2.2.2.2.2.2.2.2.2.2.2.2.2.1),(PV.slice d.2.2.2.2.2.2.2.2.2.2.2.2.2.2.2.2.1),(PV.slice d.2.2.2.2.2.2.2.2.2.2.2.2.2.2.2.2.2.1),(PV.slice d.2.2.2.2.2.2.2.2.2.2.2.2.2.2.2.2.2.2)])].length<=aaf) then
  some (m.1,m.2.1,m.2.2.1,m.2.2.2.1,m.2.2.2.2.1,(),(),(),m.2.2.2.2.2.2.2.2.1,m.2.2.2.2.2.2.2.2.2.1,m.2.2.2.2.2.2.2.2.2.2.1,m.2.2.2.2.2.2.2.2.2.2.2++[(PV.agg [(PV.str d.2.2.2.2.2.2.2.2.2.2.2.2.2.2.1),(PV.bool d.2.2.2.2.2.2.2.2.2.2.2.2.2.2.2.1),(PV.slice d.2.2.2.2.2.2.2.2.2.2.2.2.2.2.2.2.1),(PV.slice d.2.2.2.2.2.2.2.2.2.2.2.2.2.2.2.2.2.1),(PV.slice d.2.2.2.2.2.2.2.2.2.2.2.2.2.2.2.2.2.2)])]) else none
theorem a8r (W:TOk t) (j:Nat) (h:isS 4 [125] (ts t j)=true) (M U:Bq) (ss H ms es:List PV) (X:es.length<=100000) (d:Bq) (O:Bool) (o z m:List PV):
 awm ((),(),t,(j:Int),0,M,U,(),(),(),ss,H,ms,es,d,O,o,z,m)=some (t,((j+1:Nat):Int),0,M,U,(),(),(),ss,H,ms,es++[PV.agg [PV.str d,PV.bool O,PV.slice o,PV.slice z,PV.slice m]]):=by
 have V:∀ x:PV,decide (es.length+[x].length<=aaf)=true:=λx=>accL (by simp;omega)
 unfold awm F104
 simp only [mayR W 4 rfl,h,Ad,Aa,Am,Ae,V]
theorem ayr (a e:Int) (W:e≠0) (M U:Bq) (ss H ms es:List PV) (X:es.length<=100000) (d:Bq) (O:Bool) (o z m:List PV):
 awm ((),(),t,a,e,M,U,(),(),(),ss,H,ms,es,d,O,o,z,m)=some (t,a,e,M,U,(),(),(),ss,H,ms,es++[PV.agg [PV.str d,PV.bool O,PV.slice o,PV.slice z,PV.slice m]]):=by
 have V:∀ x:PV,decide (es.length+[x].length<=aaf)=true:=λx=>accL (by simp;omega)
 unfold awm
 simp only [adr _ _ e W,Aa,V,Ad]
theorem ays (ht:TNum t) (h5:t.length<=100000) (H:Bq) (ho:H.length<=120) (X:Bool) (i0:Nat) (al:i0<=t.length) (W sp:Bq) (ss Y ms es:List PV) (hs:es.length<=100000):
 RG N t (λ(v:PV) (j:Nat)=>((t,(j:Int),0,W,sp,(),(),(),ss,Y,ms,es++[v]):Q4)) (E4 t ms.length) (λ_ _=>True)
  ((eatS 1 [101,110,117,109] (ts t i0)).bind λ_ r=>(afk H r).bind λW r2=>(acw parV aae r2).bind λl r3=>(eatS 4 [123] r3).bind λ_ r4=>(ad3 parV aae r4 [] []).bind λx r5=>.ok (PV.agg [PV.str W,PV.bool X,PV.slice x.1,PV.slice x.2,PV.slice l]) r5)
  (λ_=>(F221 0 () [101,110,117,109] (t,(i0:Int),0,W,sp,(),(),(),ss,Y,ms,es)).bind λy3=>(F103 0 () H y3).bind λy4=>(F222 0 () y4.2).bind λy5=>(F104 0 () [123] y5.2).bind λy6=>
   (aaz (S109_6step 0) ((),(),y6.1,y6.2.1,y6.2.2.1,y6.2.2.2.1,y6.2.2.2.2.1,(),(),(),y6.2.2.2.2.2.2.2.2.1,y6.2.2.2.2.2.2.2.2.2.1,y6.2.2.2.2.2.2.2.2.2.2.1,y6.2.2.2.2.2.2.2.2.2.2.2,y4.1,X,[],[],y5.1)).bind awm):=by
 have h0:=ht.toTOk
 have O:∀ (j:Nat) (e:Int) (d:Bq) (o:List PV),e≠0->∃ Z,((aaz (S109_6step 0) ((),(),t,(j:Int),e,W,sp,(),(),(),ss,Y,ms,es,d,X,[],[],o)).bind awm)=some Z/\E4 t ms.length j e Z:=λj e d o m=>
  ⟨_,by rw [aac (a4r _ e m W sp ss Y ms es d X [] [] o),Aa,ayr _ e m _ _ _ _ _ _ hs],⟨_,_,_,_,_,_,rfl,Nat.le_refl _⟩⟩
 refine RG.seq ((a7u h0 [101,110,117,109]).rg (c:=True) trivial i0 al) (λ_ j1 aa _ aq=>?_) (λj e r V m z=>?_)
 rotate_left
 ·obtain ⟨v,rfl⟩:=z;simp only [a5q _ _ e m,afn _ e m,adr _ _ e m,Aa];obtain ⟨Z,h1,h2⟩:=O j e [] [] m;exact ⟨Z,λ_=>h1,h2⟩
 have q1:=abg al aa (aba _ _ _) aq
 refine RG.seq ((a9r h0 H ho).rg (c:=True) trivial j1 aa) (λd j2 ab _ ai=>?_) (λj e r V m z=>?_)
 rotate_left
 ·obtain ⟨v,rfl⟩:=z;simp only [afn _ e m,adr _ _ e m,Aa];obtain ⟨Z,h1,h2⟩:=O j e v [] m;exact ⟨Z,λ_=>h1,h2⟩
 have q2:=abg aa ab (ag3 _ _) ai
 refine RG.seq ((aqj aux ht h5).rg (c:=True) trivial j2 ab) (λo j3 ad _ aj=>?_) (λj e r V m z=>?_)
 rotate_left
 ·obtain ⟨v,rfl⟩:=z;simp only [adr _ _ e m,Aa];obtain ⟨Z,h1,h2⟩:=O j e d v m;exact ⟨Z,λ_=>h1,h2⟩
 have q3:=amk ab ad (ac7 parV aae _) aj
 refine RG.seq ((ajb h0 [123]).rg (c:=True) trivial j3 ad) (λ_ j4 an _ ak=>?_) (λj e r V m z=>?_)
 rotate_left
 ·obtain ⟨v,rfl⟩:=z;obtain ⟨Z,h1,h2⟩:=O j e d o m;exact ⟨Z,λ_=>h1,h2⟩
 have q4:=abg ad an (aba _ _ _) ak
 have lp:=RL.loop (N:=N) (t:=t) (A:=λ(v:PV) (j:Nat)=>((t,(j:Int),0,W,sp,(),(),(),ss,Y,ms,es++[v]):Q4)) (E:=E4 t ms.length) (I:=λ_ _=>True) (K:=awm)
  (st:=λ(b:List PV×List PV) (j:Nat)=>((),(),t,(j:Int),(0:Int),W,sp,(),(),(),ss,Y,ms,es,d,X,b.1,b.2,o)) (spec:=λl b=>(ad3 parV aae l b.1 b.2).bind λx r5=>.ok (PV.agg [PV.str d,PV.bool X,PV.slice x.1,PV.slice x.2,PV.slice o]) r5) (J:=λb j=>b.1.length<=j/\b.2.length<=j) (step:=λ_=>S109_6step 0)
  (Kr:=λj e s=>∃ U M,s=((),(),t,((j:Nat):Int),e,W,sp,(),(),(),ss,Y,ms,es,d,X,U,M,o)) (λi b hi hJ=>?_) (λj e s V m ap=>?_) t.length j4 ([],[]) (by omega) an ⟨by simp,by simp⟩
 ·exact lp
 ·obtain ⟨U,M⟩:=b;obtain ⟨av,aw⟩:U.length<=i/\M.length<=i:=hJ;have ea:∀ x:PV,decide (U.length+[x].length<=aaf)=true:=λx=>accL (by simp;omega);show RL _ _ _ _ _ _ _ _ _ _ i ((ad3 parV aae (ts t i) U M).bind _) _;rw [ary];simp only [S109_6step,S109_6,show ((0:Int)==0)=true from rfl,Ad,isR 4 rfl,Aa];cases hb:isS 4 [125] (ts t i) with
  | true=>simp only [Am,Ae,Ad,Rs.bind_ok];exact .fin ((),(),t,(i:Int),0,W,sp,(),(),(),ss,Y,ms,es,d,X,U,M,o) (λ_ _=>rfl) (.ok _ (i+1) (abl hb) trivial (by rw [aao]) λ_ _=>a8r h0 i hb W sp ss Y ms es hs d X U M o)
  | false=>
   simp only [Aj,Ad,Ae,mayR h0 1 rfl,Aa];cases z:isS 1 [114,101,115,101,114,118,101,100] (ts t i) with
   | true=>
    simp only [Ad,Rs.bind_assoc,aao];have am:=abl z;refine RL.seq (bbu ht h5 2147483647 (i+1) am) (λl j V hl hx=>?_) (λj e r V m z=>?_)
    ·have q5:=amk am V (ai6 2147483647 _ []) hx;have hl:l.length+(i+1)<=j:=hl;have ec:decide (M.length+l.length<=aaf)=true:=accL (by omega);simp only [ec,Ad];exact .go (U,M++l) j (by omega) V ⟨show U.length<=j by omega,by simp;omega⟩ rfl λ_ _=>rfl
    ·obtain ⟨v,rfl,hv⟩:=z;have ec:decide (M.length+v.length<=aaf)=true:=accL (by omega);simp only [ec,Ad];exact .inl ⟨_,λ_=>rfl,⟨_,_,rfl⟩⟩
   | false=>
    simp only [Ae,a4s,Rs.bind_assoc,Rs.bind_ok];refine RL.seq ((a6a h0).rg (c:=True) trivial i hi) (λmn k2 ae _ ai=>?_) (λj e r V m z=>?_);rotate_left
    ·obtain ⟨v,rfl⟩:=z;simp only [numE _ _ e m,afn _ e m,adr _ _ e m,Aa,ea,Ad];exact .inl ⟨_,λ_=>rfl,⟨_,_,rfl⟩⟩
    have p2:=abg hi ae (afu _) ai;refine RL.seq ((ajb h0 [61]).rg (c:=True) trivial k2 ae) (λ_ k3 af _ aj=>?_) (λj e r V m z=>?_);rotate_left
    ·obtain ⟨v,rfl⟩:=z;simp only [numE _ _ e m,afn _ e m,adr _ _ e m,Aa,ea,Ad];exact .inl ⟨_,λ_=>rfl,⟨_,_,rfl⟩⟩
    have p3:=abg ae af (aba _ _ _) aj;refine RL.seq ((numR ht 2147483647).rg (c:=True) trivial k3 af) (λn k4 ag _ ak=>?_) (λj e r V m z=>?_);rotate_left
    ·obtain ⟨v,rfl⟩:=z;simp only [afn _ e m,adr _ _ e m,Aa,ea,Ad];exact .inl ⟨_,λ_=>rfl,⟨_,_,rfl⟩⟩
    have p4:=abg af ag (ajk _ _) ak;refine RL.seq ((aqj aux ht h5).rg (c:=True) trivial k4 ag) (λl k5 ah _ ar=>?_) (λj e r V m z=>?_);rotate_left
    ·obtain ⟨v,rfl⟩:=z;simp only [adr _ _ e m,Aa,ea,Ad];exact .inl ⟨_,λ_=>rfl,⟨_,_,rfl⟩⟩
    have p5:=amk ag ah (ac7 parV aae _) ar;refine RL.seq ((ajb h0 [59]).rg (c:=True) trivial k5 ah) (λ_ k6 ao _ au=>?_) (λj e r V m z=>?_);rotate_left
    ·obtain ⟨v,rfl⟩:=z;simp only [ea,Ad];exact .inl ⟨_,λ_=>rfl,⟨_,_,rfl⟩⟩
    have p6:=abg ah ao (aba _ _ _) au;simp only [ea,Ad];exact .go (U++[PV.agg [PV.str mn,PV.int n,PV.slice l]],M) k6 (by omega) ao ⟨by simp;omega,show M.length<=k6 by omega⟩ rfl λ_ _=>rfl
 ·obtain ⟨U,M,rfl⟩:=ap;exact ⟨_,_,λ_=>a4r _ e m W sp ss Y ms es d X U M o,ayr _ e m _ _ _ _ _ _ hs d X U M o,⟨_,_,_,_,_,_,rfl,Nat.le_refl _⟩⟩
theorem bd4 (O:TNum t) (U:t.length<=100000) (d:Bq) (V:d.length<=120) (m:Nat) (M:m<=t.length) (z H:Bq) (ss o ms es:List PV) (W:es.length<=100000):
 RG N t (λ(v:PV) (j:Nat)=>((t,(j:Int),0,z,H,(),(),(),ss,o,ms,es++[v]):Q4)) (E4 t ms.length) (λ_ _=>True) (an1 parV aae d (ts t m)) (λ_=>F109 0 () d (t,(m:Int),0,z,H,(),(),(),ss,o,ms,es)):=by
 unfold F109 an1
 simp only [aal,mayR O.toTOk 1 rfl,Aa]
 cases h:isS 1 [111,112,101,110] (ts t m) with
 | true=>
  simp only [Ad,aao]
  exact ays O U d V true (m+1) (abl h) z H ss o ms es W
 | false=>exact ays O U d V false m M z H ss o ms es W
end
end
end Go.Ab
namespace Go.Ab
open Go
set_option maxRecDepth 100000
noncomputable section
theorem Rs.congr {d m:Type}{x:Rs d}{f g:d->List Tk->Rs m} (h:∀ v r,x=.ok v r->f v r=g v r):x.bind f=x.bind g:=by
 cases x with
 | ok v r=>exact h v r rfl
 | er=>rfl
section
variable (pv:Int->Bq->PV×Int) (kd:Bq->Int)
theorem ag1 (d:Bq->List PV->List PV->List Tk->Rs (List PV×List PV)) (M:∀ n a b ts,Sh (d n a b ts) ts) (V:∀ n a b ts,d n a b ts=(d n [] b ts).bind λv r=>.ok (a++v.1,v.2) r) (o:Bq):
 ∀ (m:Nat) (ts:List Tk) (b:MB),ts.length<=m->aca pv kd d o ts b=(aca pv kd d o ts { b with ms:=[] }).bind λv r=>.ok { v with ms:=b.ms++v.ms } r:=by
 intro m
 induction m with
 | zero=>
  intro ts b U
  obtain rfl:ts=[]:=Az (by omega)
  rw [ag0 pv kd d M,ag0 pv kd d M]
  rfl
 | succ m H=>
  intro ts b U
  rw [ag0 pv kd d M,ag0 pv kd d M]
  cases W:isS 4 [125] ts with
  | true=>simp [Rs.bind_ok]
  | false=>
   cases X:isS 1 [117,110,105,111,110] ts with
   | true=>
    simp only [Ad,Ae,Rs.bind_assoc]
    exact Rs.congr λv r z=>H r _ (by have:=am8 pv kd ts v r z;omega)
   | false=>
    cases Y:isS 1 [109,101,115,115,97,103,101] ts with
    | true=>
     simp only [Ad,Ae]
     rw [V o b.ms b.es ts]
     simp only [Rs.bind_assoc,Rs.bind_ok]
     refine Rs.congr λv r z=>?_
     have hr:=M o [] b.es ts v r z
     rw [H r { b with ms:=b.ms++v.1,es:=v.2 } (by omega),H r { b with ms:=v.1,es:=v.2 } (by omega)]
     simp only [Rs.bind_assoc,Rs.bind_ok,Ax]
    | false=>
     cases Z:(isS 1 [101,110,117,109] ts||isS 1 [111,112,101,110] ts) with
     | true=>
      simp only [Ad,Ae,Rs.bind_assoc]
      exact Rs.congr λv r z=>H r _ (by have:=aft pv kd o ts v r z;omega)
     | false=>
      cases O:isS 1 [114,101,115,101,114,118,101,100] ts with
      | true=>
       have ht:=ac5 O
       cases h5:(aaw ts.tail==3) with
       | true=>
        simp only [Ad,Ae,Rs.bind_assoc]
        exact Rs.congr λv r z=>H r _ (by have:=aws ts.tail [] v r z;omega)
       | false=>
        simp only [Ad,Ae,Rs.bind_assoc]
        exact Rs.congr λv r z=>H r _ (by have:=ai6 65535 ts.tail [] v r z;omega)
      | false=>
       simp only [Ae,Rs.bind_assoc]
       exact Rs.congr λv r z=>H r _ (by have:=akc pv kd ts v r z;omega)
theorem bbr {d:Type} (a:List d) (x y:d) (b:List d):(a++[x]++b).set a.length y=a++y::b:=by simp
theorem aus:∀ (d:Nat) (n:Bq) (a b:List PV) (ts:List Tk),msgS pv kd d n a b ts=(msgS pv kd d n [] b ts).bind λv r=>.ok (a++v.1,v.2) r:=by
 intro d;induction d with
 | zero=>intro n a b ts;rfl
 | succ d m=>intro n a b ts;unfold msgS;simp only [Rs.bind_assoc,Rs.bind_ok];refine Rs.congr λ_ r _=>Rs.congr λo H _=>Rs.congr λl M _=>Rs.congr λ_ z _=>?_;rw [ag1 pv kd (msgS pv kd d) (ah9 pv kd d) m o _ z _ (Nat.le_refl _),ag1 pv kd (msgS pv kd d) (ah9 pv kd d) m o _ z ⟨[],[],[],[]++_,b⟩ (Nat.le_refl _)];simp only [Rs.bind_assoc,Rs.bind_ok];refine Rs.congr λv r _=>?_;rw [bbr];simp
theorem bcq (d:Nat) (n:Bq) (ms es:List PV) (ts:List Tk):msgS pv kd (d+1) n ms es ts=(eatS 1 [109,101,115,115,97,103,101] ts).bind λ_ r=>(afk n r).bind λm z=>(acw pv kd z).bind λl H=>(eatS 4 [123] H).bind λ_ o=>
 (aca pv kd (msgS pv kd d) m o ⟨[],[],[],ms++[ag2 m [] [] [] l],es⟩).bind λb M=>.ok (b.ms.set ms.length (ag2 m b.fs b.rs b.gs l),b.es) M:=by
 rw [msgS]
 refine Rs.congr λ_ r _=>Rs.congr λm z _=>Rs.congr λl H _=>Rs.congr λ_ o _=>?_
 rw [ag1 pv kd (msgS pv kd d) (ah9 pv kd d) (aus pv kd d) m _ o _ (Nat.le_refl _),ag1 pv kd (msgS pv kd d) (ah9 pv kd d) (aus pv kd d) m _ o ⟨[],[],[],ms++[ag2 m [] [] [] l],es⟩ (Nat.le_refl _)]
 simp only [Rs.bind_assoc,Rs.bind_ok,bbr]
end
section
variable {t:List PV}
theorem bd0 {w:Bq}{l:List Tk} (h:isS 1 w l=true) (d:(w==[109,97,112])=false) (m:af3 w=0):ahr l=0:=by
 cases l with
 | nil=>cases h
 | cons x r=>simp only [isS,Ai,Bo] at h;unfold ahr;simp only [isS,aaw,abr,h.1,h.2,d,m,Bool.and_false,Ae,aag]
theorem a0r {l:List Tk} (h:ahr l=0):afh parV aae l=.er l 2:=by
 unfold ahr at h;unfold afh;cases d:isS 1 [109,97,112] l with
 | true=>rw [d] at h;cases h
 | false=>
  rw [d] at h;cases m:(aaw l==1) with
  | false=>rfl
  | true=>rw [m] at h;simp only [Ad,Ae] at h;simp only [h,Ae];rfl
def MBn (L:Nat) (b:MB) (j:Nat):Prop:=b.fs.length<=j/\b.rs.length<=j/\b.gs.length<=j/\b.ms.length<=j/\b.es.length<=j/\L<=b.ms.length
abbrev MSt:Type:=Unit×Int×Unit×Int×(List PV)×Int×Int×Bq×Bq×Unit×Unit×Unit×(List PV)×(List PV)×(List PV)×(List PV)×Bq×(List PV)×(List PV)×(List PV)×(List PV)
abbrev MSr:Type:=Unit×Unit×Int×(List PV)×Int×Int×Bq×Bq×Unit×Unit×Unit×(List PV)×(List PV)×(List PV)×(List PV)×Bq×(List PV)×(List PV)×(List PV)×(List PV)
def msgK (d:MSr):Option Q4:=
 (F104 0 () ([125]:Bq) (d.2.2.2.1,d.2.2.2.2.1,d.2.2.2.2.2.1,d.2.2.2.2.2.2.1,d.2.2.2.2.2.2.2.1,(),(),(),d.2.2.2.2.2.2.2.2.2.2.2.1,d.2.2.2.2.2.2.2.2.2.2.2.2.1,d.2.2.2.2.2.2.2.2.2.2.2.2.2.1,d.2.2.2.2.2.2.2.2.2.2.2.2.2.2.1)).bind λm=>
  bif aaa d.2.2.1 m.2.2.2.2.2.2.2.2.2.2.1.length then
  some (m.1,m.2.1,m.2.2.1,m.2.2.2.1,m.2.2.2.2.1,(),(),(),m.2.2.2.2.2.2.2.2.1,m.2.2.2.2.2.2.2.2.2.1,m.2.2.2.2.2.2.2.2.2.2.1.set d.2.2.1.toNat (PV.agg [(PV.str d.2.2.2.2.2.2.2.2.2.2.2.2.2.2.2.1),(PV.slice d.2.2.2.2.2.2.2.2.2.2.2.2.2.2.2.2.1),(PV.slice d.2.2.2.2.2.2.2.2.2.2.2.2.2.2.2.2.2.1),(PV.slice d.2.2.2.2.2.2.2.2.2.2.2.2.2.2.2.2.2.2.1),(PV.slice d.2.2.2.2.2.2.2.2.2.2.2.2.2.2.2.2.2.2.2)]),m.2.2.2.2.2.2.2.2.2.2.2)
  else none
theorem ay7 (V:(Unit×Bq×Int×Q4)->Option (Q4)) (a e:Int) (U:e≠0) (O z:Int) (H M:Bq) (ss o ms es:List PV) (d:Bq) (fs rs gs m:List PV):
 B108_9step 0 V ((),O,(),z,t,a,e,H,M,(),(),(),ss,o,ms,es,d,fs,rs,gs,m)=some (.inr ((),(),z,t,a,e,H,M,(),(),(),ss,o,ms,es,d,fs,rs,gs,m)):=by
 simp only [B108_9step,B108_9,beqI U,Ae]
theorem bcp (O:TOk t) (j k:Nat) (h:isS 4 [125] (ts t j)=true) (z H:Bq) (ss o ms es:List PV) (M:k<ms.length) (d:Bq) (fs rs gs m:List PV):
 msgK ((),(),(k:Int),t,(j:Int),0,z,H,(),(),(),ss,o,ms,es,d,fs,rs,gs,m)=some (t,((j+1:Nat):Int),0,z,H,(),(),(),ss,o,ms.set k (ag2 d fs rs gs m),es):=by
 unfold msgK F104
 simp only [mayR O 4 rfl,h,Ad,Aa,Am,Ae,aab,M,decide_true,Ag]
 rfl
theorem a5j (a e:Int) (k:Nat) (M:e≠0) (z H:Bq) (ss o ms es:List PV) (O:k<ms.length) (d:Bq) (fs rs gs m:List PV):
 msgK ((),(),(k:Int),t,a,e,z,H,(),(),(),ss,o,ms,es,d,fs,rs,gs,m)=some (t,a,e,z,H,(),(),(),ss,o,ms.set k (ag2 d fs rs gs m),es):=by
 unfold msgK
 simp only [adr _ _ e M,Aa,aab,O,decide_true,Ad,Ag]
 rfl
abbrev mRes (t:List PV) (nm sp:Bq) (ss im:List PV) (v:List PV×List PV) (j:Nat):Q4:=(t,((j:Nat):Int),0,nm,sp,(),(),(),ss,im,v.1,v.2)
theorem a5k (ht:TNum t) (h5:t.length<=100000) (N d:Nat) (a2:Nat) (ha:a2<=15) (z:Nat) (m:Bq) (ab:m.length<=120) (V W:Bq) (ss U:List PV) (o:List PV) (af:z<=t.length)
 (ih:∀ (i:Nat) (ms es:List PV),i<=t.length->ms.length<=i->es.length<=i->RG N t (mRes t V W ss U) (E4 t ms.length) (λv j=>v.1.length<=j/\v.2.length<=j/\ms.length<=v.1.length) (msgS parV aae d m ms es (ts t i)) (λn=>G108 0 n ((),m,(((a2+1:Nat)):Int),(t,(i:Int),0,V,W,(),(),(),ss,U,ms,es))))
 (i:Nat) (b:MB) (hi:i<=t.length) (hJ:MBn (z+1) b i):
 RL N t (λ(b:MB) (j:Nat)=>(((),(a2:Int),(),(z:Int),t,(j:Int),0,V,W,(),(),(),ss,U,b.ms,b.es,m,b.fs,b.rs,b.gs,o):MSt)) (λl b=>(aca parV aae (msgS parV aae d) m l b).bind λb r5=>.ok (b.ms.set z (ag2 m b.fs b.rs b.gs o),b.es) r5) (MBn (z+1)) (mRes t V W ss U) (E4 t z) (λv j=>v.1.length<=j/\v.2.length<=j/\z<=v.1.length) msgK
  (λj e s=>∃ (V W:Bq) (ss U ms es fs rs gs:List PV),s=((),(a2:Int),(),(z:Int),t,((j:Nat):Int),e,V,W,(),(),(),ss,U,ms,es,m,fs,rs,gs,o)/\z+1<=ms.length) i ((aca parV aae (msgS parV aae d) m (ts t i) b).bind λb r5=>.ok (b.ms.set z (ag2 m b.fs b.rs b.gs o),b.es) r5)
  (λn=>B108_9step 0 (G108 0 n) ((),(a2:Int),(),(z:Int),t,(i:Int),0,V,W,(),(),(),ss,U,b.ms,b.es,m,b.fs,b.rs,b.gs,o)):=by
 have h0:=ht.toTOk
 obtain ⟨j1,j2,j3,j4,j5,Y⟩:=hJ
 rw [ag0 parV aae _ (ah9 parV aae d),amv]
 simp only [B108_9step,B108_9,show ((0:Int)==0)=true from rfl,Ad,isR 4 rfl,Aa]
 cases hb:isS 4 [125] (ts t i) with
 | true=>
  simp only [Am,Ae,Ad,Rs.bind_ok]
  exact .fin ((),(),(z:Int),t,(i:Int),0,V,W,(),(),(),ss,U,b.ms,b.es,m,b.fs,b.rs,b.gs,o) (λ_ _=>rfl)
   (.ok (b.ms.set z (ag2 m b.fs b.rs b.gs o),b.es) (i+1) (abl hb) ⟨by rw [List.length_set];omega,show b.es.length<=i+1 by omega,by rw [List.length_set];omega⟩ (by rw [aao]) λ_ _=>bcp h0 i z hb V W ss U b.ms b.es (by omega) m b.fs b.rs b.gs o)
 | false=>
  simp only [Aj,Ad,Ae,bdz,Aa]
  cases hc:(ahr (ts t i) != 0) with
  | true=>
   have ad:ahr (ts t i)≠0:=by simpa using hc
   have no:∀ w:Bq,(w==[109,97,112])=false->af3 w=0->isS 1 w (ts t i)=false:=λw h1 h2=>by
    cases hw:isS 1 w (ts t i) with
    | false=>rfl
    | true=>exact absurd (bd0 hw h1 h2) ad
   simp only [no [117,110,105,111,110] rfl rfl,no [109,101,115,115,97,103,101] rfl rfl,no [101,110,117,109] rfl rfl,no [111,112,101,110] rfl rfl,no [114,101,115,101,114,118,101,100] rfl rfl,Ad,Ae,Rs.bind_assoc]
   have ea:∀ x:PV,decide (b.fs.length+[x].length<=aaf)=true:=λx=>accL (by simp;omega)
   simp only [ea,Ad]
   refine RL.seq ((bcf ht h5).rg trivial i hi) (λx j H _ hx=>?_) (λj e r H he O=>?_)
   ·have q1:=abg hi H (akc parV aae _) hx;exact .go { b with fs:=b.fs++[x] } j q1 H ⟨by simp;omega,by simp;omega,by simp;omega,by simp;omega,by simp;omega,Y⟩ rfl λ_ _=>rfl
   ·obtain ⟨v,rfl⟩:=O;exact .inl ⟨_,λ_=>rfl,⟨_,_,_,_,_,_,_,_,_,rfl,Y⟩⟩
  | false=>
   have hz:ahr (ts t i)=0:=by simpa using hc
   simp only [Ae,mayR h0 1 rfl,Aa]
   cases hu:isS 1 [117,110,105,111,110] (ts t i) with
   | true=>
    have aa:=abl hu
    simp only [Ad,aq2,eatS,hu,Rs.bind_ok,aao,Rs.bind_assoc]
    have key:=bez (N:=N) (q:=(V,W,(),(),(),ss,U,b.ms,b.es)) ht h5 (i+1) aa
    have e1:∀ (f:List PV->List Tk->Rs (List PV×List PV)),((ai9 (ts t (i+1))).bind λun r2=>(eatS 4 [123] r2).bind λ_ r3=>(abz parV aae un r3 []).bind f)=((ai9 (ts t (i+1))).bind λun r2=>(eatS 4 [123] r2).bind λ_ r3=>abz parV aae un r3 []).bind f:=λf=>by simp only [Rs.bind_assoc]
    have e2:∀ (f:List PV->List Tk->Rs (List PV×List PV)),((ai9 (ts t (i+1))).bind λun r2=>(bif isS 4 [123] r2 then Rs.ok () r2.tail else Rs.er r2 2).bind λ_ r3=>(abz parV aae un r3 []).bind f)=((ai9 (ts t (i+1))).bind λun r2=>(eatS 4 [123] r2).bind λ_ r3=>abz parV aae un r3 []).bind f:=λf=>e1 f
    rw [e2]
    refine RL.seq key (λv j H X hx=>?_) (λj e r H he O=>?_)
    ·have X:v.length+(i+1)<=j:=X;have Z:decide (b.fs.length+v.length<=aaf)=true:=accL (by omega);simp only [Z,Ad];exact .go { b with fs:=b.fs++v } j (by omega) H ⟨by simp;omega,by simp;omega,by simp;omega,by simp;omega,by simp;omega,Y⟩ rfl λ_ _=>rfl
    ·obtain ⟨v,rfl,X⟩:=O;have Z:decide (b.fs.length+v.length<=aaf)=true:=accL (by omega);simp only [Z,Ad];exact .inl ⟨_,λ_=>rfl,⟨_,_,_,_,_,_,_,_,_,rfl,Y⟩⟩
   | false=>
    simp only [Ae,mayR h0 1 rfl,Aa]
    cases O:isS 1 [114,101,115,101,114,118,101,100] (ts t i) with
    | true=>
     have aa:=abl O
     simp only [Ad,Ae,ah4 O (show ([114,101,115,101,114,118,101,100]==[109,101,115,115,97,103,101])=false from rfl),ah4 O (show ([114,101,115,101,114,118,101,100]==[101,110,117,109])=false from rfl),ah4 O (show ([114,101,115,101,114,118,101,100]==[111,112,101,110])=false from rfl),art 3 rfl,Aa,aao]
     cases hk:(aaw (ts t (i+1))==3) with
     | true=>
      simp only [Ad,Rs.bind_assoc]
      refine RL.seq (goneR h0 h5 N (i+1) aa) (λv j H X hx=>?_) (λj e r H he O=>?_)
      ·have X:v.length+(i+1)<=j:=X;have Z:decide (b.gs.length+v.length<=aaf)=true:=accL (by omega);simp only [Z,Ad];exact .go { b with gs:=b.gs++v } j (by omega) H ⟨by simp;omega,by simp;omega,by simp;omega,by simp;omega,by simp;omega,Y⟩ rfl λ_ _=>rfl
      ·obtain ⟨v,rfl,X⟩:=O;have Z:decide (b.gs.length+v.length<=aaf)=true:=accL (by omega);simp only [Z,Ad];exact .inl ⟨_,λ_=>rfl,⟨_,_,_,_,_,_,_,_,_,rfl,Y⟩⟩
     | false=>
      simp only [Ae,Rs.bind_assoc]
      refine RL.seq (bbu ht h5 65535 (i+1) aa) (λv j H X hx=>?_) (λj e r H he O=>?_)
      ·have X:v.length+(i+1)<=j:=X;have Z:decide (b.rs.length+v.length<=aaf)=true:=accL (by omega);simp only [Z,Ad];exact .go { b with rs:=b.rs++v } j (by omega) H ⟨by simp;omega,by simp;omega,by simp;omega,by simp;omega,by simp;omega,Y⟩ rfl λ_ _=>rfl
      ·obtain ⟨v,rfl,X⟩:=O;have Z:decide (b.rs.length+v.length<=aaf)=true:=accL (by omega);simp only [Z,Ad];exact .inl ⟨_,λ_=>rfl,⟨_,_,_,_,_,_,_,_,_,rfl,Y⟩⟩
    | false=>
     simp only [Ae,isR 1 rfl,Aa]
     cases hm:isS 1 [109,101,115,115,97,103,101] (ts t i) with
     | true=>
      have w:IntKind.wrap .i64 ((a2:Int)+1)=((a2+1:Nat):Int):=aa9 (by omega)
      simp only [Ad,w,Rs.bind_assoc]
      refine RL.seq (ih i b.ms b.es hi j4 j5) (λv j H X hx=>?_) (λj e r H he O=>?_)
      ·have q1:=abg hi H (ah9 parV aae d _ _ _ _) hx;exact .go { b with ms:=v.1,es:=v.2 } j q1 H ⟨by simp;omega,by simp;omega,by simp;omega,X.1,X.2.1,Nat.le_trans Y X.2.2⟩ rfl λ_ _=>rfl
      ·obtain ⟨_,_,_,_,ae,_,rfl,hl⟩:=O;exact .inl ⟨_,λ_=>rfl,⟨_,_,_,_,_,_,_,_,_,rfl,Nat.le_trans Y hl⟩⟩
     | false=>
      simp only [Ae,isR 1 rfl,Aa]
      have en:∀ y:Nat->Option (MSt⊕MSr),(∀ n,y n=(F109 0 () m (t,(i:Int),0,V,W,(),(),(),ss,U,b.ms,b.es)).bind λM=>some (.inl ((),(a2:Int),(),(z:Int),M.1,M.2.1,M.2.2.1,M.2.2.2.1,M.2.2.2.2.1,(),(),(),M.2.2.2.2.2.2.2.2.1,M.2.2.2.2.2.2.2.2.2.1,M.2.2.2.2.2.2.2.2.2.2.1,M.2.2.2.2.2.2.2.2.2.2.2,m,b.fs,b.rs,b.gs,o)))->
       RL N t (λ(b:MB) (j:Nat)=>(((),(a2:Int),(),(z:Int),t,(j:Int),0,V,W,(),(),(),ss,U,b.ms,b.es,m,b.fs,b.rs,b.gs,o):MSt)) (λl b=>(aca parV aae (msgS parV aae d) m l b).bind λb r5=>.ok (b.ms.set z (ag2 m b.fs b.rs b.gs o),b.es) r5) (MBn (z+1)) (mRes t V W ss U) (E4 t z) (λv j=>v.1.length<=j/\v.2.length<=j/\z<=v.1.length) msgK
        (λj e s=>∃ (V W:Bq) (ss U ms es fs rs gs:List PV),s=((),(a2:Int),(),(z:Int),t,((j:Nat):Int),e,V,W,(),(),(),ss,U,ms,es,m,fs,rs,gs,o)/\z+1<=ms.length) i
        (((an1 parV aae m (ts t i)).bind λx r=>aca parV aae (msgS parV aae d) m r { b with es:=b.es++[x] }).bind λb r5=>.ok (b.ms.set z (ag2 m b.fs b.rs b.gs o),b.es) r5) y:=λy hy=>by
       obtain rfl:y=λ_=>_:=funext hy
       rw [Rs.bind_assoc]
       refine RL.seq (bd4 ht h5 m ab i hi V W ss U b.ms b.es (by omega)) (λx j H _ hx=>?_) (λj e r H he O=>?_)
       ·have q1:=abg hi H (aft parV aae _ _) hx;exact .go { b with es:=b.es++[x] } j q1 H ⟨by simp;omega,by simp;omega,by simp;omega,by simp;omega,by simp;omega,Y⟩ rfl λ_ _=>rfl
       ·obtain ⟨_,_,_,_,ae,_,rfl,hl⟩:=O;exact .inl ⟨_,λ_=>rfl,⟨_,_,_,_,_,_,_,_,_,rfl,Nat.le_trans Y hl⟩⟩
      cases he:isS 1 [101,110,117,109] (ts t i) with
      | true=>
       simp only [Ad]
       exact en _ λ_=>rfl
      | false=>
       simp only [Ae,isR 1 rfl,Aa]
       cases ho:isS 1 [111,112,101,110] (ts t i) with
       | true=>
        simp only [Ad]
        exact en _ λ_=>rfl
       | false=>
        simp only [Ae,a0p,Aa,a0r hz,Rs.bind_er]
        exact .er i 2 _ hi (by decide) rfl (λ_ _=>rfl) ⟨_,_,_,_,_,_,_,_,_,rfl,Y⟩
theorem bei (ht:TNum t) (h5:t.length<=100000) (nm sp:Bq) (ss im:List PV):∀ (d X:Nat),X+d=16->∀ (H:Bq),H.length<=120->∀ (i:Nat) (ms es:List PV),i<=t.length->ms.length<=i->es.length<=i->
 RG (d+1) t (mRes t nm sp ss im) (E4 t ms.length) (λv j=>v.1.length<=j/\v.2.length<=j/\ms.length<=v.1.length) (msgS parV aae d H ms es (ts t i)) (λn=>G108 0 n ((),H,((X:Nat):Int),(t,(i:Int),0,nm,sp,(),(),(),ss,im,ms,es))):=by
 have h0:=ht.toTOk
 have W:∀ {N:Nat}{A:List PV×List PV->Nat->Q4}{E:Nat->Int->Q4->Prop}{I:List PV×List PV->Nat->Prop}{x:Rs (List PV×List PV)}{y y':Nat->Option Q4},RG N t A E I x y->(∀ n,y' (n+1)=y n)->RG (N+1) t A E I x y':=λ{N A E I x y y'} h hy=>by
  have hs:∀ n,N+1<=n->y' n=y (n-1):=λn hn=>by obtain ⟨m,rfl⟩:∃ m,n=m+1:=⟨n-1,by omega⟩;rw [hy];rfl
  rcases h with ⟨v,j,h1,h2,h3,h4⟩ | ⟨j,e,z,h1,h2,h3,h4,h5⟩
  ·exact .ok v j h1 h2 h3 λn hn=>by rw [hs n hn];exact h4 _ (by omega)
  ·exact .er j e z h1 h2 h3 (λn hn=>by rw [hs n hn];exact h4 _ (by omega)) h5
 intro d
 induction d with
 | zero=>
  intro X ha H ho i ms es hi hm M
  obtain rfl:X=16:=by omega
  refine W (N:=0) (y:=λ_=>some (t,(i:Int),17,nm,sp,(),(),(),ss,im,ms,es)) ?_ λn=>rfl
  exact .er i 17 _ hi (by decide) rfl (λ_ _=>rfl) ⟨_,_,_,_,_,_,rfl,Nat.le_refl _⟩
 | succ d ih=>
  intro X ha H ho i ms es hi hm M
  have hd:decide (((X:Nat):Int)>=16)=false:=Al (by omega)
  refine W (y:=λn=>B108 0 (G108 0 n) () H ((X:Nat):Int) (t,(i:Int),0,nm,sp,(),(),(),ss,im,ms,es)) ?_ λn=>rfl
  rw [bcq]
  simp only [B108,hd,Ae,aal]
  have ec:∀ x:PV,decide (ms.length+[x].length<=aaf)=true:=λx=>accL (by simp;omega)
  have U:∀ (j:Nat) (e:Int) (o:Bq) (O:List PV),e≠0->∃ r',(∀ n,((aaz (B108_9step 0 (G108 0 n)) ((),(X:Int),(),(ms.length:Int),t,(j:Int),e,nm,sp,(),(),(),ss,im,ms++[ag2 o [] [] [] O],es,o,[],[],[],O)).bind msgK)=some r')/\E4 t ms.length j e r':=λj e o O M=>
   ⟨_,λn=>by rw [aac (ay7 _ _ e M _ _ nm sp ss im _ es o [] [] [] O),Aa,a5j _ e ms.length M _ _ _ _ _ _ (by simp)],⟨_,_,_,_,_,_,rfl,by simp⟩⟩
  refine RG.seq ((a7u h0 [109,101,115,115,97,103,101]).rg (c:=True) trivial i hi) (λ_ j1 Y _ ag=>?_) (λj e r hj M hr=>?_)
  rotate_left
  ·obtain ⟨v,rfl⟩:=hr;simp only [a5q _ _ e M,afn _ e M,adr _ _ e M,Aa,ec,Ad];exact U j e [] [] M
  have q1:=abg hi Y (aba _ _ _) ag
  refine RG.seq ((a9r h0 H ho).rg (c:=True) trivial j1 Y) (λo j2 Z _ ad=>?_) (λj e r hj M hr=>?_)
  rotate_left
  ·obtain ⟨v,rfl⟩:=hr;simp only [afn _ e M,adr _ _ e M,Aa,ec,Ad];exact U j e v [] M
  have q2:=abg Y Z (ag3 _ _) ad
  have V:o.length<=120:=a5o ad
  refine RG.seq ((aqj aux ht h5).rg (c:=True) trivial j2 Z) (λO j3 aa _ ah=>?_) (λj e r hj M hr=>?_)
  rotate_left
  ·obtain ⟨v,rfl⟩:=hr;simp only [adr _ _ e M,Aa,ec,Ad];exact U j e o v M
  have q3:=amk Z aa (ac7 parV aae _) ah
  refine RG.seq ((ajb h0 [123]).rg (c:=True) trivial j3 aa) (λ_ j4 ab _ ai=>?_) (λj e r hj M hr=>?_)
  rotate_left
  ·obtain ⟨v,rfl⟩:=hr;simp only [ec,Ad];exact U j e o O M
  have q4:=abg aa ab (aba _ _ _) ai
  simp only [ec,Ad]
  refine RL.loop (step:=λn=>B108_9step 0 (G108 0 n)) (K:=msgK)
   (λi' b af hJ=>a5k ht h5 (d+1) d X (by omega) ms.length o V nm sp ss im O (by omega) (λi2 al ae h1 h2 h3=>ih (X+1) (by omega) o V i2 al ae h1 h2 h3) i' b af hJ) (λj e s hj M hs=>?_) t.length j4 ⟨[],[],[],ms++[ag2 o [] [] [] O],es⟩ (by omega) ab ⟨by simp,by simp,by simp,by simp;omega,show es.length<=j4 by omega,by simp⟩
  obtain ⟨am,an,ao,aj,ak,es',fs,rs,gs,rfl,hl⟩:=hs
  exact ⟨_,_,λn=>ay7 _ _ e M _ _ am an ao aj ak es' o fs rs gs O,a5j _ e ms.length M _ _ _ _ _ _ (by omega) _ _ _ _ _,⟨_,_,_,_,_,_,rfl,by simp;omega⟩⟩
theorem msgR (ht:TNum t) (W:t.length<=100000) (o H:Bq) (ss d:List PV) (i:Nat) (ms es:List PV) (Y:i<=t.length) (Z:ms.length<=i) (X:es.length<=i):
 RG 0 t (mRes t o H ss d) (E4 t ms.length) (λv j=>v.1.length<=j/\v.2.length<=j/\ms.length<=v.1.length) (msgS parV aae 16 [] ms es (ts t i)) (λ_=>F108 0 () [] (0:Int) (t,(i:Int),0,o,H,(),(),(),ss,d,ms,es)):=by
 have m:∀ z,(∀ n,17<=n->G108 0 n ((),[],((0:Nat):Int),(t,(i:Int),0,o,H,(),(),(),ss,d,ms,es))=some z)->F108 0 () [] (0:Int) (t,(i:Int),0,o,H,(),(),(),ss,d,ms,es)=some z:=λz h=>ali 17 h
 rcases bei ht W o H ss d 16 0 (by omega) [] (by simp) i ms es Y Z X with ⟨v,j,M,O,U,V⟩ | ⟨j,e,z,M,O,U,V,W⟩
 ·exact .ok v j M O U λ_ _=>m _ V
 ·exact .er j e z M O U (λ_ _=>m _ V) W
end
end
end Go.Ab
namespace Go.Ab
open Go
set_option maxRecDepth 100000
noncomputable section
theorem a5p (l:List Tk):afk [] l=ae9 1 defP l:=by
 have d:∀ s,ahi [] s=defP s:=λs=>by unfold ahi;simp
 unfold afk ae9;rw [d];cases (aaw l==1) with
 | false=>rfl
 | true=>cases defP (abr l)<;>rfl
theorem baw {l:List Tk} (h:isS 1 [115,101,114,118,105,99,101] l=false):svcS parV aae l=.er l 2:=by unfold svcS eatS;rw [h];rfl
section
variable {t:List PV}
def EF (t:List PV) (j:Nat) (e:Int) (r:Q4):Prop:=∃ q:QF,r=(t,((j:Nat):Int),e,q)
theorem bcd {L j:Nat}{e:Int}{r:Q4} (h:E4 t L j e r):EF t j e r:=by obtain ⟨_,_,_,_,_,_,rfl,_⟩:=h;exact ⟨_,rfl⟩
abbrev fRes (t:List PV) (nm:Bq) (v:Bq×List PV×FB) (j:Nat):Q4:=(t,((j:Nat):Int),0,nm,v.1,(),(),(),v.2.2.ss,v.2.1,v.2.2.ms,v.2.2.es)
theorem ayo (a e:Int) (d:e≠0) (q:QF):S46_10step 0 ((),(t,a,e,q))=some (.inr (t,a,e,q)):=by simp only [S46_10step,S46_10,beqI d,Ae]
theorem defsR (ht:TNum t) (h5:t.length<=100000) (M o:Bq) (m:List PV) (i0:Nat) (aa:i0<=t.length):
 RG 0 t (fRes t M) (EF t) (λ_ _=>True) ((afs parV aae (ts t i0) ⟨[],[],[]⟩).bind λb V=>.ok (o,m,b) V) (λ_=>(aaz (S46_10step 0) ((),(t,(i0:Int),0,M,o,(),(),(),[],m,[],[]))).bind λH=>some H):=by
 have h0:=ht.toTOk
 refine RL.loop (t:=t) (st:=λ(b:FB) (j:Nat)=>((),((t,(j:Int),0,M,o,(),(),(),b.ss,m,b.ms,b.es):Q4))) (spec:=λl b=>(afs parV aae l b).bind λb V=>.ok (o,m,b) V) (J:=λb j=>b.ms.length<=j/\b.es.length<=j/\b.ss.length<=j) (step:=λ_=>S46_10step 0) (K:=λH=>some H)
  (Kr:=λj e s=>∃ q:QF,s=((),(t,((j:Nat):Int),e,q))) (λi b O hJ=>?_) (λj e s z W hs=>?_) t.length i0 ⟨[],[],[]⟩ (by omega) aa ⟨by simp,by simp,by simp⟩
 ·obtain ⟨j1,j2,j3⟩:=hJ;show RL _ _ _ _ _ _ _ _ _ _ i ((afs parV aae (ts t i) b).bind _) _;rw [awh,amv];simp only [S46_10step,S46_10,show ((0:Int)==0)=true from rfl,Ad];by_cases ab:i<t.length
  ·have d:decide ((i:Int)<(t.length:Int))=true:=Ah (by omega);have U:(ts t i).isEmpty=false:=by rw [ad7 ab];rfl
   simp only [d,U,Ad,Ae,isR 1 rfl,Aa];have en:∀ y:Nat->Option ((Unit×Q4)⊕Q4),(∀ n,y n=(F109 0 () [] (t,(i:Int),0,M,o,(),(),(),b.ss,m,b.ms,b.es)).bind λad=>some (.inl ((),ad)))->
    RL 0 t (λ(b:FB) (j:Nat)=>((),((t,(j:Int),0,M,o,(),(),(),b.ss,m,b.ms,b.es):Q4))) (λl b=>(afs parV aae l b).bind λb V=>.ok (o,m,b) V) (λb j=>b.ms.length<=j/\b.es.length<=j/\b.ss.length<=j) (fRes t M) (EF t) (λ_ _=>True) (λH=>some H) (λj e s=>∃ q:QF,s=((),(t,((j:Nat):Int),e,q))) i
     (((an1 parV aae [] (ts t i)).bind λx r=>afs parV aae r { b with es:=b.es++[x] }).bind λb V=>.ok (o,m,b) V) y:=λy hy=>by
    obtain rfl:y=λ_=>_:=funext hy
    rw [Rs.bind_assoc]
    refine RL.seq (bd4 ht h5 [] (by simp) i O M o b.ss m b.ms b.es (by omega)) (λx j z _ Y=>?_) (λj e r z W X=>?_)
    ·have Z:=abg O z (aft parV aae _ _) Y;exact .go { b with es:=b.es++[x] } j Z z ⟨by simp;omega,by simp;omega,by simp;omega⟩ rfl λ_ _=>rfl
    ·obtain ⟨q,rfl⟩:=bcd X;exact .inl ⟨_,λ_=>rfl,⟨_,rfl⟩⟩
   cases hm:isS 1 [109,101,115,115,97,103,101] (ts t i) with
   | true=>
    simp only [Ad,Rs.bind_assoc];refine RL.seq (msgR ht h5 M o b.ss m i b.ms b.es O j1 j2) (λv j z hv Y=>?_) (λj e r z W X=>?_)
    ·have Z:=abg O z (ah9 parV aae 16 _ _ _ _) Y;exact .go { b with ms:=v.1,es:=v.2 } j Z z ⟨hv.1,hv.2.1,by simp;omega⟩ rfl λ_ _=>rfl
    ·obtain ⟨q,rfl⟩:=bcd X;exact .inl ⟨_,λ_=>rfl,⟨_,rfl⟩⟩
   | false=>
    simp only [Ae,isR 1 rfl,Aa];cases W:isS 1 [101,110,117,109] (ts t i) with
    | true=>simp only [Ad];exact en _ λ_=>rfl
    | false=>
     simp only [Ae,isR 1 rfl,Aa];cases ho:isS 1 [111,112,101,110] (ts t i) with
     | true=>simp only [Ad];exact en _ λ_=>rfl
     | false=>
      simp only [Ae,isR 1 rfl,Aa];cases hv:isS 1 [115,101,114,118,105,99,101] (ts t i) with
      | true=>
       simp only [Ad,Rs.bind_assoc];refine RL.seq (svcR ht h5 i O M o b.ss m b.ms b.es (by omega)) (λx j z _ Y=>?_) (λj e r z W X=>?_)
       ·have Z:=abg O z (a7e parV aae _) Y;exact .go { b with ss:=b.ss++[x] } j Z z ⟨by simp;omega,by simp;omega,by simp;omega⟩ rfl λ_ _=>rfl
       ·obtain ⟨q,rfl⟩:=bcd X;exact .inl ⟨_,λ_=>rfl,⟨_,rfl⟩⟩
      | false=>simp only [Ae,baw hv,Rs.bind_er,a0p,Aa];exact .er i 2 _ O (by decide) rfl (λ_ _=>rfl) ⟨_,rfl⟩
  ·have d:decide ((i:Int)<(t.length:Int))=false:=Al (by omega);have U:(ts t i).isEmpty=true:=by rw [afp (by omega)];rfl
   simp only [d,U,Ad,Ae,Rs.bind_ok];exact .fin (t,(i:Int),0,M,o,(),(),(),b.ss,m,b.ms,b.es) (λ_ _=>rfl) (.ok (o,m,b) i O trivial rfl λ_ _=>rfl)
 ·obtain ⟨q,rfl⟩:=hs;exact ⟨_,_,λ_=>ayo _ e W q,rfl,⟨q,rfl⟩⟩
abbrev impK (z:Q4⊕(Unit×Q4)):Option Q4:=sumE (λy49=>some y49) (λy50=>(aaz (S46_10step 0) ((),y50.2)).bind λy85=>some y85) z
theorem ayx (a e:Int) (d:e≠0) (q:QF):S46_4step 0 ((),(t,a,e,q))=some (.inr (.inr ((),(t,a,e,q)))):=by simp only [S46_4step,S46_4,beqI d,Ae,aag]
theorem a4j (a e:Int) (d:e≠0) (q:QF):impK (.inr ((),(t,a,e,q)))=some (t,a,e,q):=by unfold impK;simp only [aa7,aac (ayo a e d q),Aa]
theorem bd8 (ht:TNum t) (h5:t.length<=100000) (o d:Bq) (O:Nat) (X:O<=t.length):
 RG 0 t (fRes t o) (EF t) (λ_ _=>True) ((ac4 (ts t O) []).bind λY Z=>(afs parV aae Z ⟨[],[],[]⟩).bind λb r3=>.ok (d,Y,b) r3) (λ_=>(aaz (S46_4step 0) ((),(t,(O:Int),0,o,d,(),(),(),[],[],[],[]))).bind impK):=by
 have H:=ht.toTOk
 have hl:=H.len
 refine RL.loop (t:=t) (st:=λ(b:List PV) (j:Nat)=>((),((t,(j:Int),0,o,d,(),(),(),[],b,[],[]):Q4))) (spec:=λl b=>(ac4 l b).bind λY Z=>(afs parV aae Z ⟨[],[],[]⟩).bind λb r3=>.ok (d,Y,b) r3) (J:=λb j=>b.length<=j) (step:=λ_=>S46_4step 0) (K:=impK)
  (Kr:=λj e s=>∃ q:QF,s=((),(t,((j:Nat):Int),e,q))) (λi b hi hJ=>?_) (λj e s M W hs=>?_) t.length O [] (by omega) X (by simp)
 ·have hJ:b.length<=i:=hJ;have eb:∀ x:PV,decide (b.length+[x].length<=aaf)=true:=λx=>accL (by simp;omega);show RL _ _ _ _ _ _ _ _ _ _ i ((ac4 (ts t i) b).bind _) _;rw [ald];simp only [S46_4step,S46_4,show ((0:Int)==0)=true from rfl,Ad,mayR H 1 rfl,Aa];cases hm:isS 1 [105,109,112,111,114,116] (ts t i) with
  | true=>
   have z:=abl hm;simp only [Ad,aao];rcases anyR (q:=(o,d,(),(),(),[],b,[],[])) H (i+1) z with ⟨U,V⟩ | ⟨m,U,V⟩
   ·rw [U,V];exact .fin (.inl (t,((i+1:Nat):Int),2,o,d,(),(),(),[],b,[],[])) (λ_ _=>rfl) (.er (i+1) 2 _ z (by decide) rfl (λ_ _=>rfl) ⟨_,rfl⟩)
   ·rw [U,V];simp only [Rs.bind_ok,Rs.bind_assoc,Aa,Am,Ae,aab,m,decide_true,Ad,Ag,eb,aa9 (show i+1<=9223372036854775000 by omega)];refine RL.seq ((ajb H [59]).rg (c:=True) trivial (i+1+1) m) (λ_ j M _ hx=>?_) (λj e r M W hr=>?_)
    ·have q1:=abg m M (aba _ _ _) hx;exact .go (b++[PV.str ((t.getD (i+1) .bad).fld 1).asStr]) j (by omega) M (by simp;omega) rfl λ_ _=>rfl
    ·obtain ⟨v,rfl⟩:=hr;exact .inl ⟨_,λ_=>rfl,⟨_,rfl⟩⟩
  | false=>simp only [Ae,Rs.bind_ok];exact .fin (.inr ((),(t,(i:Int),0,o,d,(),(),(),[],b,[],[]))) (λ_ _=>rfl) (defsR ht h5 o d b i hi)
 ·obtain ⟨q,rfl⟩:=hs;exact ⟨_,_,λ_=>ayx _ e W q,a4j _ e W q,⟨q,rfl⟩⟩
theorem fileR (W:TNum t) (X:t.length<=100000) (m:Bq):
 RG 0 t (fRes t m) (EF t) (λ_ _=>True) (amd (ts t 0)) (λ_=>F46 0 () (t,(0:Int),0,m,[],(),(),(),[],[],[],[])):=by
 have z:=W.toTOk
 have er:∀ (j:Nat) (e:Int) (q:QF),e≠0->∃ o,((aaz (S46_4step 0) ((),(t,(j:Int),e,q))).bind impK)=some o/\EF t j e o:=λj e q d=>
  ⟨_,by rw [aac (ayx _ e d q),Aa,a4j _ e d q],⟨q,rfl⟩⟩
 unfold F46 amd avj
 have hm:F102 0 () 1 [115,112,97,99,101] (t,(0:Int),0,m,[],(),(),(),[],[],[],[])=_:=mayR z 1 rfl [115,112,97,99,101] 0
 simp only [aal,hm,Aa]
 cases h:isS 1 [115,112,97,99,101] (ts t 0) with
 | true=>
  have O:=abl h
  simp only [Ad,aao,<-a5p,Rs.bind_assoc,Rs.bind_ok]
  refine RG.seq ((a9r z [] (by simp)).rg (c:=True) trivial (0+1) O) (λY j U _ hx=>?_) (λj e r U d V=>?_)
  ·refine RG.seq ((ajb z [59]).rg (c:=True) trivial j U) (λ_ k Z _ hx=>?_) (λj e r U d V=>?_)
   ·exact bd8 W X m Y k Z
   ·obtain ⟨v,rfl⟩:=V;obtain ⟨o,H,M⟩:=er j e (m,Y,(),(),(),[],[],[],[]) d;exact ⟨o,λ_=>H,M⟩
  ·obtain ⟨v,rfl⟩:=V;simp only [adr _ _ e d,Aa];obtain ⟨o,H,M⟩:=er j e (m,v,(),(),(),[],[],[],[]) d;exact ⟨o,λ_=>H,M⟩
 | false=>
  simp only [Ae,Rs.bind_ok]
  exact bd8 W X m [] 0 (Nat.zero_le _)
end
theorem a1m (d o:Bq) (xs:List PV) (l0:Int) (hs:F45 0 o=some (xs,l0,0)) (ht:TNum xs) (W:xs.length<=100000):F16 0 d o=some (awo d xs):=by
 unfold F16 awo;rw [hs,Aa,alb];simp only [show ((0:Int) != 0)=false from rfl,Ae];rcases fileR ht W d with ⟨v,j,Z,_,m,O⟩ | ⟨j,e,z,Z,Y,m,O,X⟩
 ·rw [O 0 (Nat.le_refl _),m,Rs.bind_ok];rfl
 ·obtain ⟨q,rfl⟩:=X;rw [O 0 (Nat.le_refl _),m,Rs.bind_er];have aa:0<xs.length:=by
   rcases Nat.eq_zero_or_pos xs.length with h | h
   ·obtain ⟨v,hv⟩:=au0;rw [afp (by omega),hv] at m;cases m
   ·exact h
  have w:IntKind.wrap .i64 ((xs.length:Int)-1)=((xs.length-1:Nat):Int):=by rw [abi (by omega) (by omega)];omega
  have V:xs.length-(ts xs j).length=j:=by rw [adi];omega
  simp only [Aa,beqI Y,Ae,V];by_cases M:j<xs.length
  ·have H:decide ((j:Int)>=(xs.length:Int))=false:=Al (by omega);simp only [H,Ae,aab,M,decide_true,Ad,Ag];unfold a5b;rw [if_neg (by omega)];rfl
  ·have H:decide ((j:Int)>=(xs.length:Int))=true:=Ah (by omega);have U:xs.length-1<xs.length:=by omega
   simp only [H,Ad,w,aab,U,decide_true,Ag];unfold a5b;rw [if_pos (by omega)];rfl
end
end Go.Ab
namespace Go.Ab
open Go
set_option maxRecDepth 100000
noncomputable section
theorem afv {s:Bq}{i:Nat} (h:¬i<s.length):s.getD i 0=0:=by simp [List.getD,Bj (show s.length<=i by omega)]
theorem ara (s:Bq) (i:Nat):F100 0 s (i:Int)=some (((s.getD i 0).toNat:Nat):Int):=by
 unfold F100;by_cases h:i<s.length
 ·simp only [abh,h,decide_true,Ad,aab,Ag]
 ·simp only [abh,h,decide_false,Ae,afv h];rfl
theorem agl (c:UInt8):F290 0 (c.toNat:Int)=some (letB c):=by have h:=agc c;unfold F231 at h;unfold F290;rw [<-h]
theorem aou (c:UInt8):F213 0 (c.toNat:Int)=some (digC c):=aj8 c
theorem bet (c:UInt8) (h:letB c=false) (d:digC c=false):alnB c=(c==95):=by
 have d:digB c.toNat=false:=by unfold digC at d;unfold digB;simpa using d
 unfold letB at h;unfold alnB;rw [h,d,Bool.false_or,Bool.false_or,<-a0a];rfl
theorem runG {H V:Type}{p:UInt8->Bool}{step:H->Option (H⊕V)} (s:Bq) (st:Nat->H) (z:Nat->V) (M:∀ i,i<=s.length->step (st i)=some (bif decide (i<s.length)&&p (s.getD i 0) then .inl (st (i+1)) else .inr (z i))):∀ m i,s.length-i<=m->i<=s.length->aaz step (st i)=some (z (i+runN p (s.drop i))):=by
 have d:step (st s.length)=some (.inr (z s.length)):=by rw [M _ (Nat.le_refl _)];simp
 intro m;induction m with
 | zero=>
  intro i W O;obtain rfl:i=s.length:=by omega
  rw [aac d,List.drop_length];rfl
 | succ m X=>
  intro i W O;by_cases o:i<s.length
  ·have h:=M i O;rw [aaj o 0,acz];simp only [o,decide_true,Bool.true_and] at h;cases U:p (s.getD i 0) with
   | true=>rw [U] at h;rw [aan h,X (i+1) (by omega) (by omega),if_pos rfl,show i+1+runN p (s.drop (i+1))=i+(runN p (s.drop (i+1))+1) by omega]
   | false=>rw [U] at h;rw [aac h];rfl
  ·obtain rfl:i=s.length:=by omega
   rw [aac d,List.drop_length];rfl
theorem ata (p:UInt8->Bool):∀ (l:Bq) (x:UInt8),x∈l.take (runN p l)->p x=true:=by
 intro l;induction l with
 | nil=>intro x h;simp at h
 | cons c r m=>
  intro x h;rw [acz] at h;cases d:p c with
  | true=>
   rw [d,if_pos rfl,List.take_succ_cons] at h;rcases Bl.1 h with rfl | h
   ·exact d
   ·exact m x h
  | false=>rw [d] at h;simp at h
theorem a6o (s:Bq) (U:s.length<=1048576) (i:Nat) (z:i<=s.length):aaz (S211_7step 0) (s,(i:Int))=some (s,((i+runN alnB (s.drop i):Nat):Int)):=
 runG s (λi=>(s,(i:Int))) (λi=>(s,(i:Int))) (p:=alnB) (λj O=>by
  obtain ⟨c,m⟩:∃ c,s.getD j 0=c:=⟨_,rfl⟩;have M:¬j<s.length->alnB c=false:=λh=>by rw [<-m,afv h];decide
  have H:(decide (j<s.length)&&alnB c)=alnB c:=by
   by_cases h:j<s.length
   ·simp [h]
   ·simp [h,M h]
  rw [m,H];simp only [S211_7step,S211_7,ara,m,Aa,agl,aa9 (show j<=9223372036854775000 by omega)];cases o:letB c with
  | true=>simp only [Am,Ae,Ad,Aa,an9 o]
  | false=>
   simp only [Aj,Ad,Ae,Aa,aou];cases d:digC c with
   | true=>
    have:alnB c=true:=by unfold alnB;unfold digC at d;unfold digB;simp only [d,Bool.or_true,Bool.true_or]
    simp only [Am,Ae,Ad,Aa,this]
   | false=>simp only [Aj,Ad,Ae,Aa,bet c o d,bqI (c:=c) (k:=95) (n:=95) rfl];cases (c==95)<;>rfl) s.length i (by omega) z
def endN' (s:Bq) (e k:Nat):Nat:=bif letB (s.getD k 0) then k+eat (s.drop k) else e
theorem aqp (s:Bq) (hl:s.length<=1048576):∀ (m e k:Nat),s.length-k<=m->k<=s.length->∃ z,aaz (S211_6step 0) (s,(e:Int),(k:Int))=some z/\(z=.inl ((endN' s e k:Nat):Int)\/z=.inr ((endN' s e k:Nat):Int)):=by
 intro m;induction m with
 | zero=>
  intro e k hm hk;obtain rfl:k=s.length:=by omega
  have h0:s.getD s.length 0=0:=afv (by omega);refine ⟨.inr (e:Int),aac ?_,Or.inr ?_⟩
  ·simp only [S211_6step,S211_6,ara,h0,Aa,agl,show letB 0=false by decide,Ae]
  ·simp only [endN',h0,show letB 0=false by decide,Ae]
 | succ m ih=>
  intro e k hm hk;cases d:letB (s.getD k 0) with
  | false=>
   refine ⟨.inr (e:Int),aac ?_,Or.inr ?_⟩
   ·simp only [S211_6step,S211_6,ara,Aa,agl,d,Ae]
   ·simp only [endN',d,Ae]
  | true=>
   have X:k<s.length:=by
    rcases Nat.lt_or_ge k s.length with h | h
    ·exact h
    ·rw [afv (by omega)] at d;exact absurd d (by decide)
   have Y:1<=runN alnB (s.drop k):=by rw [aaj X 0,acz,if_pos (an9 d)];omega
   have U:=aid alnB (s.drop k);rw [Ar] at U;obtain ⟨n,hn⟩:∃ n,runN alnB (s.drop k)=n:=⟨_,rfl⟩;have O:=a6o s hl k hk;have H:=awk (s.drop k);rw [hn] at Y U O H;rw [A8] at H;have step:S211_6step 0 (s,(e:Int),(k:Int))=some (bif (s.getD (k+n) 0)==46 then .inl (s,((k+n:Nat):Int),((k+n+1:Nat):Int)) else .inr (.inl ((k+n:Nat):Int))):=by simp only [S211_6step,S211_6,ara,Aa,agl,d,Ad,aal,O,bne,bqI (c:=s.getD (k+n) 0) (k:=46) (n:=46) rfl,aa9 (show k+n<=9223372036854775000 by omega)];cases (s.getD (k+n) 0==46)<;>rfl
   cases M:(s.getD (k+n) 0==46) with
   | false=>
    have W:eat (s.drop (k+n))=0:=by
     by_cases h:k+n<s.length
     ·have Z:=am6 alnB (s.drop k) (s.getD (k+n) 0) (s.drop (k+n+1)) (by rw [hn,A8,aaj h 0]);have o:s.getD (k+n) 0≠46:=by simpa using M
      rw [aaj h 0,aek,if_neg (by rw [Z];decide),if_neg o]
     ·rw [Aq (by omega)];rfl
    rw [M] at step;refine ⟨_,aac step,Or.inl ?_⟩;simp only [endN',d,Ad];rw [H,W,Nat.add_zero]
   | true=>
    rw [M] at step;have o:s.getD (k+n) 0=46:=by simpa using M
    have V:k+n<s.length:=by
     rcases Nat.lt_or_ge (k+n) s.length with h | h
     ·exact h
     ·rw [afv (by omega)] at o;exact absurd o (by decide)
    obtain ⟨z,h1,h2⟩:=ih (k+n) (k+n+1) (by omega) (by omega);refine ⟨z,by rw [aan step];exact h1,?_⟩;have hE:endN' s (k+n) (k+n+1)=endN' s e k:=by
     simp only [endN',d,Ad];rw [H,aaj V 0,o,aek,if_neg (by decide),if_pos rfl];by_cases h:k+n+1<s.length
     ·rw [aaj h 0];simp only;cases letB (s.getD (k+n+1) 0)<;>simp<;>omega
     ·rw [afv h,Aq (by omega),show letB 0=false by decide];rfl
    rw [<-hE];exact h2
theorem a93 (s:Bq) (W:s.length<=1048576) (i:Nat) (c:UInt8) (r:Bq) (d:s.drop i=c::r):F211 0 s (i:Int)=some ((bif ady c r then i+aeb (c::r) else i:Nat):Int):=by
 have V:i<s.length:=by
  rcases Nat.lt_or_ge i s.length with h | h
  ·exact h
  ·rw [Aq h] at d;cases d
 have U:s.getD i 0=c:=by rw [aaj V 0] at d;exact (List.cons.inj d).1
 have o:s.drop (i+1)=r:=by rw [aaj V 0] at d;exact (List.cons.inj d).2
 unfold F211;simp only [ara,U,Aa,bqI (c:=c) (k:=46) (n:=46) rfl,aal,aa9 (show i<=9223372036854775000 by omega)];cases m:(c==46) with
 | true=>
  obtain rfl:c=46:=by simpa using m
  obtain ⟨z,H,M⟩:=aqp s W s.length i (i+1) (by omega) (by omega);have O:endN' s i (i+1)=bif ady 46 r then i+aeb (46::r) else i:=by
   unfold endN' ady;rw [o];by_cases h:i+1<s.length
   ·rw [aaj h 0] at o;rw [<-o];simp only [show letB 46=false by decide,Bool.false_or,show ((46:UInt8)==46)=true from rfl,Bool.true_and,aeb,Ad];cases letB (s.getD (i+1) 0)<;>simp<;>omega
   ·rw [Aq (by omega)] at o;rw [afv h,<-o];rfl
  rw [Ad,H,<-O];rcases M with rfl | rfl<;>rfl
 | false=>
  obtain ⟨z,H,M⟩:=aqp s W s.length i i (by omega) (by omega);have O:endN' s i i=bif ady c r then i+aeb (c::r) else i:=by unfold endN' ady;simp only [U,d,m,Bool.false_and,Bool.or_false,aeb,Ae]
  rw [Ae,H,<-O];rcases M with rfl | rfl<;>rfl
theorem bd7 (s:Bq) (d:s.length<=1048576):F212 0 s=some (aik s):=by
 unfold F212;have h:=ara s 0;rw [show ((0:Nat):Int)=(0:Int) from rfl] at h;rw [h,Aa,bqI (c:=s.getD 0 0) (k:=46) (n:=46) rfl];cases s with
 | nil=>rw [show (([]:Bq).getD 0 0==46)=false from rfl,Ae,ad4 [] (by simp)];rfl
 | cons c r=>
  have m:decide ((0:Int)<=1/\(1:Int)<=((c::r).length:Int)/\((c::r).length:Int)<=((c::r).length:Int))=true:=Ah (by simp only [Ao];omega);have o:((c::r).take ((c::r).length:Int).toNat).drop (1:Int).toNat=r:=by rw [Ag,List.take_length];rfl
  show (bif c==46 then _ else _)=some (bif c==46 then ae2 r else ae2 (c::r));cases c==46 with
  | true=>simp only [m,o,Ad,ad4 r (by simp only [Ao] at d;omega),Aa]
  | false=>simp only [Ae,ad4 (c::r) d,Aa]
def signL:Bq:=[123,125,91,93,40,41,60,62,61,59,44,64,45]
theorem a6y:((List.range 256).all λb=>aig (UInt8.ofNat b)==signL.contains (UInt8.ofNat b))=true:=by kernel_rfl
theorem bab (c:UInt8):aig c=signL.contains c:=by have:=Bi.1 a6y c.toNat (List.mem_range.2 (UInt8.toNat_lt c));rw [UInt8.ofNat_toNat] at this;exact eq_of_beq this
theorem a1s (c:UInt8):∀ (m i:Nat),i+m=13->aaz (S216_5step 0) ([c],(i:Int))=some (bif (signL.drop i).contains c then .inl true else .inr ()):=by
 intro m;induction m with
 | zero=>
  intro i U;obtain rfl:i=13:=by omega
  exact aac rfl
 | succ m V=>
  intro i U;have w:=aa9 (show i<=9223372036854775000 by omega);have H:decide ((i:Int)<13)=true:=Ah (by omega);have o:i<signL.length:=by show i<13;omega
  have M:aaa (i:Int) (([123,125,91,93,40,41,60,62,61,59,44,64,45]:Bq).length)=true:=by rw [aab];exact Ah o
  have W:((([123,125,91,93,40,41,60,62,61,59,44,64,45]:Bq).getD ((i:Int)).toNat 0).toNat:Int)=((signL.getD i 0).toNat:Int):=rfl;have X:([c]:Bq).getD (0:Int).toNat 0=c:=rfl;have O:(((signL.getD i 0).toNat:Int)==((c.toNat:Nat):Int))=(signL.getD i 0==c):=by rw [eqB,a0a]
  have d:S216_5step 0 ([c],(i:Int))=some (bif signL.getD i 0==c then .inr (.inl true) else .inl ([c],((i+1:Nat):Int))):=by unfold S216_5step S216_5;rw [H,Ad,M,Ad];show (bif aaa (0:Int) ([c]:Bq).length then (bif (((signL.getD i 0).toNat:Int)==((c.toNat:Nat):Int)) then _ else _) else none)=_;rw [in0,Ad,O,w];cases (signL.getD i 0==c)<;>rfl
  rw [aaj o 0,List.contains_cons];have z:(c==signL.getD i 0)=(signL.getD i 0==c):=Bool.eq_iff_iff.2 ⟨λh=>Bo.2 (Bo.1 h).symm,λh=>Bo.2 (Bo.1 h).symm⟩;rw [z];cases h:(signL.getD i 0==c) with
  | true=>rw [h] at d;rw [aac d];rfl
  | false=>rw [h] at d;rw [aan d,V (i+1) (by omega)];rfl
theorem a95 (c:UInt8):F216 0 [c]=some (aig c):=by unfold F216;have h:=a1s c 13 0 rfl;rw [show ((0:Nat):Int)=(0:Int) from rfl,A1,<-bab] at h;simp only [show ((([c]:Bq).length:Int) != 1)=false from rfl,Ae,aal,h];cases aig c<;>rfl
end
end Go.Ab
namespace Go.Ab
open Go
set_option maxRecDepth 100000
noncomputable section
theorem a6p (l:Bq) (hl:l.length<=1048576) (hd:∀ x,x∈l->digC x=true):∀ (m i o:Nat),l.length-i<=m->i<=l.length->o<18446744073709551616->
 aaz (S291_6step 0) (l,(o:Int),(i:Int))=some (match Lib.parseUintM 18446744073709551615 o (l.drop i) with | .ok u=>.inr (u:Int) | _=>.inl (0,6)):=by
 intro m
 induction m with
 | zero=>
  intro i o hm hi ha
  obtain rfl:i=l.length:=by omega
  rw [List.drop_length]
  exact aac (by simp only [S291_6step,S291_6,abh,Nat.lt_irrefl,decide_false,Ae];rfl)
 | succ m ih=>
  intro i o hm hi ha
  by_cases z:i<l.length
  ·obtain ⟨c,M⟩:∃ c,l.getD i 0=c:=⟨_,rfl⟩;have H:digC c=true:=hd c (by rw [<-M];exact ace z 0);have hr:48<=c.toNat/\c.toNat<=57:=by unfold digC at H;simpa using H
   obtain ⟨d,aa⟩:∃ d,c.toNat=48+d:=⟨c.toNat-48,by omega⟩;have X:IntKind.wrap .u64 (IntKind.wrap .u8 ((c.toNat:Int)-48))=(d:Int):=by rw [IntKind.wrap_u8,IntKind.wrap_u64];omega
   have Y:IntKind.wrap .u64 ((18446744073709551615:Int)-(d:Int))=((18446744073709551615-d:Nat):Int):=by rw [IntKind.wrap_u64];omega
   have Z:IntKind.wrap .u64 ((((18446744073709551615-d:Nat):Int)).tdiv (10:Int))=(((18446744073709551615-d) / 10:Nat):Int):=by rw [show (((18446744073709551615-d:Nat):Int)).tdiv (10:Int)=(((18446744073709551615-d) / 10:Nat):Int) from rfl,IntKind.wrap_u64];omega
   have key:Lib.parseUintM 18446744073709551615 o (l.drop i)=if (18446744073709551615-d) / 10<o then .range else Lib.parseUintM 18446744073709551615 (o*10+d) (l.drop (i+1)):=by
    rw [aaj z 0,M,Lib.parseUintM,if_pos hr,show c.toNat-48=d by omega];by_cases U:1844674407370955162<=o
    ·rw [if_pos U,if_pos (by omega)]
    ·rw [if_neg U];by_cases V:18446744073709551615<o*10+d
     ·rw [if_pos V,if_pos (by omega)]
     ·rw [if_neg V,if_neg (by omega)]
   rw [key];by_cases W:(18446744073709551615-d) / 10<o
   ·have O:decide ((o:Int)>(((18446744073709551615-d) / 10:Nat):Int))=true:=Ah (by omega);rw [if_pos W];exact aac (by simp only [S291_6step,S291_6,abh,z,decide_true,Ad,aab,Ag,M,X,Y,Z,O])
   ·have O:decide ((o:Int)>(((18446744073709551615-d) / 10:Nat):Int))=false:=Al (by omega);have w4:IntKind.wrap .u64 (IntKind.wrap .u64 ((10:Int)*(o:Int))+(d:Int))=((o*10+d:Nat):Int):=by
     rw [IntKind.wrap_u64,IntKind.wrap_u64];omega
    rw [if_neg W,<-ih (i+1) (o*10+d) (by omega) (by omega) (by omega)];exact aan (by simp only [S291_6step,S291_6,abh,z,decide_true,Ad,Ae,aab,Ag,M,X,Y,Z,w4,O,aa9 (show i<=9223372036854775000 by omega)])
  ·obtain rfl:i=l.length:=by omega
   rw [List.drop_length];exact aac (by simp only [S291_6step,S291_6,abh,Nat.lt_irrefl,decide_false,Ae];rfl)
inductive RdR (y:Option (PV×Int×Int)) (i:Nat):(Tk×Nat)⊕Int->Prop
 | ok (k:Tk) (n:Nat):y=some (PV.agg [PV.int k.k,PV.str k.s,PV.int k.n,PV.int 0],((i+n:Nat):Int),0)->RdR y i (.inl (k,n))
 | er (e:Int) (v:PV) (m:Int):e≠0->y=some (v,m,e)->RdR y i (.inr e)
theorem a3s {s:Bq}{i:Nat}{c:UInt8}{r:Bq} (d:s.drop i=c::r):i<s.length/\s.getD i 0=c/\s.drop (i+1)=r:=by
 have m:i<s.length:=by
  rcases Nat.lt_or_ge i s.length with h | h
  ·exact h
  ·rw [Aq h] at d;cases d
 rw [aaj m 0] at d;exact ⟨m,(List.cons.inj d).1,(List.cons.inj d).2⟩
theorem bc2 (s:Bq) (hl:s.length<=1048576) (i:Nat) (c:UInt8) (r:Bq) (U:s.drop i=c::r) (V:digC c=true):RdR (F214 0 s (i:Int)) i (arw (c::r)):=by
 obtain ⟨hi,hc,hr⟩:=a3s U;have ai:(c::r).length=s.length-i:=by rw [<-U,Ar]
 have ae:=aid digC (c::r);have Z:1<=runN digC (c::r):=by rw [acz,if_pos V];omega
 have d:=ata digC (c::r);have o:=am6 digC (c::r);obtain ⟨z0,ah⟩:∃ z,z=PV.agg [(PV.int (0:Int)),(PV.str ([]:Bq)),(PV.int (0:Int)),(PV.int (0:Int))]:=⟨_,rfl⟩;have lp:=runG (p:=digC) (step:=S214_3step 0) s (λj=>(s,(i:Int),(),(j:Int),z0)) (λj=>(s,(i:Int),(),(j:Int),z0)) (λj hj=>by
  have hz:¬j<s.length->digC (s.getD j 0)=false:=λh=>by rw [afv h];decide
  have hw:(decide (j<s.length)&&digC (s.getD j 0))=digC (s.getD j 0):=by
   by_cases h:j<s.length
   ·simp [h]
   ·rw [hz h,Bool.and_false]
  rw [hw];simp only [S214_3step,S214_3,ara,Aa,aou,aa9 (show j<=9223372036854775000 by omega)];cases digC (s.getD j 0)<;>rfl) s.length i (by omega) (by omega)
 rw [U] at lp;obtain ⟨n,hn⟩:∃ n,runN digC (c::r)=n:=⟨_,rfl⟩;unfold arw;rw [hn] at ae Z d o lp ⊢;have lp:aaz (S214_3step 0) (s,(i:Int),(),(i:Int),PV.agg [(PV.int (0:Int)),(PV.str ([]:Bq)),(PV.int (0:Int)),(PV.int (0:Int))])=some (s,(i:Int),(),((i+n:Nat):Int),z0):=by rw [<-ah];exact lp
 have ht:(s.take (((i+n:Nat):Int)).toNat).drop ((i:Int)).toNat=(c::r).take n:=by rw [Ag,Ag,List.drop_take,U,show i+n-i=n by omega]
 have ab:decide (0<=(i:Int)/\(i:Int)<=((i+n:Nat):Int)/\((i+n:Nat):Int)<=(s.length:Int))=true:=Ah (by omega);have af:s.getD (i+n) 0=(c::r).getD n 0:=by rw [<-U];simp [List.getD,List.getElem?_drop]
 have aa:(decide (n<(c::r).length)&&alnB ((c::r).getD n 0))=(letB ((c::r).getD n 0)||(c::r).getD n 0==95):=by
  by_cases h:n<(c::r).length
  ·have hs:=o ((c::r).getD n 0) ((c::r).drop (n+1)) (by rw [aaj h 0]);simp only [h,decide_true,Bool.true_and];cases O:letB ((c::r).getD n 0) with
   | true=>rw [an9 O];rfl
   | false=>rw [bet _ O hs];rfl
  ·rw [afv h,Al h];rfl
 unfold F214;simp only [aal,lp,Aa,ara,af,agl,aa];obtain ⟨x,hx⟩:∃ x,(c::r).getD n 0=x:=⟨_,rfl⟩;rw [hx];cases O:letB x with
 | true=>simp only [Am,Ae,Ad,Aa,Bool.true_or,Bool.or_true];exact .er 2 _ _ (by decide) rfl
 | false=>
  simp only [Aj,Ad,Ae,Aa,Bool.false_or,bqI (c:=x) (k:=95) (n:=95) rfl];cases aj:(x==95) with
  | true=>simp only [Ad,Bool.or_true];exact .er 2 _ _ (by decide) rfl
  | false=>
   simp only [Ae,ab,Ad,ht,Bool.or_false];have H:((c::r).take n).length=n:=by rw [List.length_take];omega
   have X:(c::r).take n≠[]:=λe=>by rw [e] at H;simp at H;omega
   have W:((c::r).take n).getD 0 0=c:=by obtain ⟨m,rfl⟩:∃ m,n=m+1:=⟨n-1,by omega⟩;rfl
   obtain ⟨l,ad⟩:∃ l,(c::r).take n=l:=⟨_,rfl⟩;rw [ad] at d H X W ⊢;have Y:F291 0 l=some (bif decide (1<n)&&c==48 then ((0:Int),(2:Int)) else match Lib.parseUintM 18446744073709551615 0 l with | .ok u=>(IntKind.wrap .i64 (u:Int),0) | _=>(0,6)):=by
    unfold F291;have e1:decide ((l.length:Int)>1)=decide (1<n):=by rw [H];exact decide_eq_decide.2 (by omega)
    have e2:aaa (0:Int) l.length=true:=by rw [show (0:Int)=((0:Nat):Int) from rfl,aab];exact Ah (by omega)
    have e3:(l.getD (0:Int).toNat 0)=c:=W;have M:=a6p l (by omega) d l.length 0 0 (by omega) (by omega) (by omega);rw [A1] at M;have M:aaz (S291_6step 0) (l,(0:Int),(0:Int))=_:=M;have e4:imp (decide (1<n)) true=true:=by cases decide (1<n)<;>rfl
    simp only [e1,e2,e3,e4,bqI (c:=c) (k:=48) (n:=48) rfl,aal,M,Ad];cases decide (1<n)<;>cases (c==48)<;>simp only [Ad,Ae,Bool.and_true,Bool.and_false,Bool.true_and,Bool.false_and,Aa]<;>cases Lib.parseUintM 18446744073709551615 0 l<;>rfl
   rw [Y,Aa];have ag:Lib.parseUintB 64 l=Lib.parseUintM 18446744073709551615 0 l:=by unfold Lib.parseUintB;rw [if_neg X]
   have hf:((c::r).getD 0 0==48)=(c==48):=rfl;rw [ag,hf];cases (decide (1<n)&&c==48) with
   | true=>exact .er 2 _ _ (by decide) rfl
   | false=>
    simp only [Ae];cases Lib.parseUintM 18446744073709551615 0 l with
    | ok u=>exact .ok _ n rfl
    | range=>exact .er 6 _ _ (by decide) rfl
    | «syntax»=>exact .er 6 _ _ (by decide) rfl
theorem bc3 (s:Bq) (hl:s.length<=1048576) (i:Nat) (c:UInt8) (r:Bq) (d:s.drop i=c::r):RdR (F101 0 s (i:Int)) i (amr (c::r)):=by
 obtain ⟨hi,hc,hr⟩:=a3s d;have aa:(c::r).length=s.length-i:=by rw [<-d,Ar]
 rw [ai2];unfold F101;simp only [a93 s hl i c r d,Aa,aab,hi,decide_true,Ad,Ag,hc];have w1:IntKind.wrap .i64 ((i:Int)+1)=((i+1:Nat):Int):=aa9 (by omega);cases Z:ady c r with
 | true=>
  have X:=ar6 (c::r);have z:1<=aeb (c::r):=by
   unfold ady at Z;show 1<=bif c==46 then eat r+1 else eat (c::r);cases U:(c==46) with
   | true=>rw [Ad];omega
   | false=>rw [U,Bool.false_and,Bool.or_false] at Z;rw [Ae,aek,if_pos (an9 Z)];omega
  obtain ⟨n,hn⟩:∃ n,aeb (c::r)=n:=⟨_,rfl⟩;rw [hn] at X z;have H:decide (((i+n:Nat):Int)>(i:Int))=true:=Ah (by omega);have M:decide (0<=(i:Int)/\(i:Int)<=((i+n:Nat):Int)/\((i+n:Nat):Int)<=(s.length:Int))=true:=Ah (by omega);have O:(s.take (i+n)).drop i=(c::r).take n:=by rw [List.drop_take,d,show i+n-i=n by omega]
  simp only [Ad,hn,H,M,Ag,O,bd7 ((c::r).take n) (by rw [List.length_take];omega),Aa,aoj];cases aik ((c::r).take n) with
  | true=>exact .ok ⟨1,(c::r).take n,0⟩ n rfl
  | false=>exact .er 8 _ _ (by decide) rfl
 | false=>
  have H:decide ((i:Int)>(i:Int))=false:=Al (by omega);simp only [Ae,H,aou,Aa];cases W:digC c with
  | true=>
   simp only [Ad];have h:=bc2 s hl i c r d W;cases o:F214 0 s (i:Int) with
   | none=>
    rw [o] at h;cases Y:arw (c::r) with
    | inl p=>rw [Y] at h;cases h with | ok k n h=>cases h
    | inr e=>rw [Y] at h;cases h with | er e v m he h=>cases h
   | some y=>rw [o] at h;exact h
  | false=>
   simp only [Ae,bqI (c:=c) (k:=34) (n:=34) rfl,aab,hi,decide_true,Ad];cases Y:(c==34) with
   | true=>
    simp only [Ad,ao0 s (show i<=s.length by omega)];have V:(s.take s.length).drop i=c::r:=by rw [List.take_length,d]
    simp only [V,azt (c::r) (by omega)];unfold a1f unqV;rcases ajz (c::r) (by omega) with ⟨a,q,ha,o⟩ | ⟨_,o⟩
    ·have ab:(aa4 a).length<=(c::r).length:=by rw [ha];simp
     have w:IntKind.wrap .i64 ((i:Int)+(((aa4 a).length:Nat):Int))=((i+(aa4 a).length:Nat):Int):=by rw [abi (by omega) (by omega)];omega
     rw [o];refine .ok ⟨3,a,0⟩ (aa4 a).length ?_;simp only [Aa,show ((0:Int) != 0)=false from rfl,Ae,w]
    ·rw [o];exact .er 2 _ _ (by decide) rfl
   | false=>
    have M:decide (0<=(i:Int)/\(i:Int)<=((i+1:Nat):Int)/\((i+1:Nat):Int)<=(s.length:Int))=true:=Ah (by omega);have O:(s.take (i+1)).drop i=[c]:=by rw [List.drop_take,d,show i+1-i=1 by omega];rfl
    simp only [Ae,w1,M,Ad,Ag,O,a95,Aa];cases aig c with
    | true=>exact .ok ⟨4,[c],0⟩ 1 rfl
    | false=>exact .er 2 _ _ (by decide) rfl
theorem ayp:∀ (l:Bq) (x:UInt8),x∈l.take (eat l)->x≠10:=by
 intro l;induction l with
 | nil=>intro x h;simp at h
 | cons c r H=>
  intro x h;rw [aek] at h;by_cases m:alnB c=true
  ·rw [if_pos m,List.take_succ_cons] at h;rcases Bl.1 h with rfl | h
   ·rintro rfl;exact absurd m (by decide)
   ·exact H x h
  ·rw [if_neg m] at h;by_cases o:c=46
   ·rw [if_pos o] at h;cases r with
    | nil=>simp at h
    | cons d q=>
     simp only at h;by_cases z:letB d=true
     ·rw [if_pos z,List.take_succ_cons] at h;rcases Bl.1 h with rfl | h
      ·rw [o];decide
      ·exact H x h
     ·rw [if_neg z] at h;simp at h
   ·rw [if_neg o] at h;simp at h
theorem arb {l:Bq} (h:∀ x,x∈l->x≠10):cnt10 l=0:=List.count_eq_zero.2 λd=>h 10 d rfl
theorem a1k {c:UInt8}{r:Bq} (X:(c::r).length<=1048576) (M:spC c=false) {k:Tk}{n:Nat} (h:amr (c::r)=.inl (k,n)):cnt10 ((c::r).take n)=0:=by
 refine arb λx d=>?_;rw [ai2] at h;cases o:ady c r with
 | true=>
  rw [o,Ad] at h;unfold aoj at h;cases Y:aik ((c::r).take (aeb (c::r)))<;>rw [Y] at h<;>cases h;have d:x∈(c::r).take (bif c==46 then eat r+1 else eat (c::r)):=d;cases m:(c==46) with
  | true=>
   rw [m,Ad,List.take_succ_cons] at d;rcases Bl.1 d with rfl | d
   ·rintro rfl;cases m
   ·exact ayp r x d
  | false=>rw [m,Ae] at d;exact ayp _ x d
 | false=>
  cases z:digC c with
  | true=>
   rw [o,z,Ad,Ae] at h;unfold arw at h;have key:n=runN digC (c::r):=by
    cases W:(decide (1<runN digC (c::r))&&(c::r).getD 0 0==48)||(decide (runN digC (c::r)<(c::r).length)&&alnB ((c::r).getD (runN digC (c::r)) 0))<;>rw [W] at h
    ·cases Z:(abu (Lib.parseUintB 64 ((c::r).take (runN digC (c::r))))).2<;>rw [Z] at h<;>cases h;rfl
    ·cases h
   rw [key] at d;have:=ata digC (c::r) x d;rintro rfl;exact absurd this (by decide)
  | false=>
   cases H:(c==34) with
   | true=>
    rw [o,z,H,Ad,Ae,Ae] at h;unfold a1f unqV at h;rcases ajz (c::r) X with ⟨a,q,V,O⟩ | ⟨_,O⟩
    ·rw [O] at h;cases h;rw [V] at d;have d:x∈(aa4 a++q).take (aa4 a).length:=d;rw [Bn] at d;exact bcs a x d
    ·rw [O] at h;cases h
   | false=>
    cases U:aig c with
    | true=>rw [o,z,H,U] at h;cases h;have d:x∈[c]:=d;rw [List.mem_singleton] at d;rw [d];exact (a63 M).2.2.2
    | false=>rw [o,z,H,U] at h;cases h
theorem aqr (f d n:Nat) (s:Bq) (h:skipS false s=n+skipS false (s.drop n)):adw f d s=adw f (d+cnt10 (s.take n)) (s.drop n):=by
 cases f with
 | zero=>rfl
 | succ f=>
  unfold adw;obtain ⟨m,o⟩:∃ m,skipS false (s.drop n)=m:=⟨_,rfl⟩;rw [h,o,A8];have e:cnt10 (s.take (n+m))=cnt10 (s.take n)+cnt10 ((s.drop n).take m):=by unfold cnt10;rw [<-List.count_append,<-List.take_add]
  rw [e,<-Nat.add_assoc]
theorem bdb {c:UInt8} (r:Bq) (h:spC c=true):skipS false (c::r)=1+skipS false ((c::r).drop 1):=by show _=1+skipS false r;simp only [skipS,h,Ad];omega
theorem a1r {s:Bq} (hl:s.length<=16384):∀ (m i:Nat) (o:List PV) (d:Nat),s.length-i<=m->i<=s.length->o.length<=i->d<=i+1->
 aaz (S45_6step 0) (s,o,(d:Int),(i:Int))=some (match adw (s.length+1) d (s.drop i) with | .inl l=>.inr (o++l.map vTk) | .inr (n,e)=>.inl ([],(n:Int),e)):=by
 intro m
 induction m with
 | zero=>
  intro i o d hm hi ha hn
  obtain rfl:i=s.length:=by omega
  rw [List.drop_length]
  exact aac (by simp only [S45_6step,S45_6,abh,Nat.lt_irrefl,decide_false,Ae];simp [adw,skipS])
 | succ m ih=>
  intro i o d hm hi ha hn
  by_cases ae:i<s.length
  ·obtain ⟨c,hc⟩:∃ c,s.getD i 0=c:=⟨_,rfl⟩;have hd:s.drop i=c::s.drop (i+1):=by rw [aaj ae 0,hc]
   have w1:IntKind.wrap .i64 ((i:Int)+1)=((i+1:Nat):Int):=aa9 (by omega);have w2:IntKind.wrap .i64 ((d:Int)+1)=((d+1:Nat):Int):=aa9 (by omega);have W:∀ z,S45_6step 0 (s,o,(d:Int),(i:Int))=z->(bif c==10 then some (.inl (s,o,((d+1:Nat):Int),((i+1:Nat):Int))) else bif c==32||(c==9||c==13) then some (.inl (s,o,(d:Int),((i+1:Nat):Int))) else
    bif c==47&&s.getD (i+1) 0==47 then some (.inl (s,o,(d:Int),((i+runN ne10 (s.drop i):Nat):Int))) else (F101 0 s (i:Int)).bind λH=>bif H.2.2 != 0 then some (.inr (.inl ([],(d:Int),H.2.2))) else
     bif decide (o.length+[(PV.agg [(PV.int (H.1.fld 0).asInt),(PV.str (H.1.fld 1).asStr),(PV.int (H.1.fld 2).asInt),(PV.int (d:Int))])].length<=aaf) then some (.inl (s,o++[(PV.agg [(PV.int (H.1.fld 0).asInt),(PV.str (H.1.fld 1).asStr),(PV.int (H.1.fld 2).asInt),(PV.int (d:Int))])],(d:Int),H.2.1)) else none)=z:=by
    intro z hz
    rw [<-hz]
    have lp:=runG (p:=ne10) (step:=S45_19step 0) s (λj=>(s,o,(d:Int),(j:Int))) (λj=>(s,o,(d:Int),(j:Int))) (λj hj=>by simp only [S45_19step,S45_19,abh,aab,Ag,bne,bqI (c:=s.getD j 0) (k:=10) (n:=10) rfl,aa9 (show j<=9223372036854775000 by omega),ne10];cases decide (j<s.length)<;>cases (s.getD j 0==10)<;>rfl) s.length i (by omega) hi
    have lp:aaz (S45_19step 0) (s,o,(d:Int),(i:Int))=_:=lp
    simp only [S45_6step,S45_6,abh,ae,decide_true,Ad,aab,Ag,hc,bqI (c:=c) (k:=10) (n:=10) rfl,bqI (c:=c) (k:=32) (n:=32) rfl,bqI (c:=c) (k:=9) (n:=9) rfl,bqI (c:=c) (k:=13) (n:=13) rfl,bqI (c:=c) (k:=47) (n:=47) rfl,w1,w2,ara,aal,lp,Aa]
    cases (c==10)<;>cases (c==32)<;>cases (c==9)<;>cases (c==13)<;>cases (c==47)<;>simp only [imp,Ad,Ae,Am,Aj,Bool.true_or,Bool.or_true,Bool.or_false,Bool.false_or,Bool.true_and,Bool.false_and,Aa,bqI (c:=s.getD (i+1) 0) (k:=47) (n:=47) rfl]
   have base:=W _ rfl;clear W;rw [hd];cases X:(c==10) with
   | true=>
    rw [X,Ad] at base;obtain rfl:c=10:=by simpa using X
    rw [aan base.symm,ih (i+1) o (d+1) (by omega) (by omega) (by omega) (by omega),a98]
   | false=>
    rw [X,Ae] at base;cases aa:(c==32||(c==9||c==13)) with
    | true=>
     rw [aa,Ad] at base;have M:spC c=true:=by unfold spC;rw [Bool.or_assoc,Bool.or_assoc,<-Bool.or_assoc (c==9),<-Bool.or_assoc,aa,Bool.true_or]
     have h0:cnt10 ((c::s.drop (i+1)).take 1)=0:=arb λx hx=>by have hx:x∈[c]:=hx;rw [List.mem_singleton] at hx;rw [hx];simpa using X
     rw [aan base.symm,ih (i+1) o d (by omega) (by omega) (by omega) (by omega),aqr _ d 1 (c::s.drop (i+1)) (bdb _ M),h0];rfl
    | false=>
     rw [aa,Ae] at base;have M:spC c=false:=by unfold spC;rw [X,Bool.or_false,Bool.or_assoc,aa]
     cases V:(c==47&&s.getD (i+1) 0==47) with
     | true=>
      rw [V,Ad] at base;simp only [Ai,Bo] at V;obtain ⟨rfl,ad⟩:=V;have Y:i+1<s.length:=by
       rcases Nat.lt_or_ge (i+1) s.length with h | h
       ·exact h
       ·rw [afv (by omega)] at ad;exact absurd ad (by decide)
      have ag:s.drop (i+1)=47::s.drop (i+2):=by rw [aaj Y 0,ad]
      have hh:af8 (47::s.drop (i+1))=true:=by rw [ag];rfl
      have ah:=aid ne10 (s.drop i);rw [Ar] at ah;have ak:1<=runN ne10 (s.drop i):=by rw [hd,acz,if_pos (by decide)];omega
      have af:skipS false (47::s.drop (i+1))=runN ne10 (47::s.drop (i+1))+skipS false ((47::s.drop (i+1)).drop (runN ne10 (47::s.drop (i+1)))):=by
       have e1:skipS false (47::s.drop (i+1))=skipS true (47::s.drop (i+1)):=by simp only [skipS,M,hh,Ad,Ae,show ((47:UInt8)==10)=false from rfl]
       rw [e1,avg]
      have h0:cnt10 ((47::s.drop (i+1)).take (runN ne10 (47::s.drop (i+1))))=0:=arb λx hx=>by have:=ata ne10 _ x hx;unfold ne10 at this;simpa using this
      rw [<-hd] at af h0 ⊢;rw [aan base.symm,ih _ o d (by omega) (by omega) (by omega) (by omega),aqr _ d _ (s.drop i) af,h0,A8];rfl
     | false=>
      rw [V,Ae] at base;have hh:af8 (c::s.drop (i+1))=false:=by
       unfold af8;split
       ·rename_i O;simp only [List.cons.injEq] at O;have Y:i+1<s.length:=by
         rcases Nat.lt_or_ge (i+1) s.length with h | h
         ·exact h
         ·rw [Aq h] at O;cases O.2
        rw [aaj Y 0] at O;simp only [List.cons.injEq] at O;rw [O.1,O.2.1] at V;exact absurd V (by decide)
       ·rfl
      have aj:skipS false (c::s.drop (i+1))=0:=by simp only [skipS,M,hh,Ae]
      have ab:(c::s.drop (i+1)).length<=1048576:=by rw [<-hd,Ar];omega
      have U:=bc3 s (by omega) i c (s.drop (i+1)) hd;unfold adw;simp only [aj,A1,List.take_zero];rw [show d+cnt10 []=d from rfl];cases Z:amr (c::s.drop (i+1)) with
      | inr e=>
       rw [Z] at U;cases U with
       | er _ v m' he hy=>rw [hy,Aa] at base;simp only [bneI he,Ad] at base;exact aac base.symm
      | inl kn=>
       obtain ⟨k,n⟩:=kn;obtain ⟨al,ai,am,_⟩:=am5 ab Z;have hz:=a1k ab M Z;rw [<-hd,Ar] at ai;rw [Z] at U;cases U with
       | ok _ _ hy=>
        have ea:∀ x:PV,decide (o.length+[x].length<=aaf)=true:=λx=>accL (by simp;omega);rw [hy,Aa] at base;simp only [show ((0:Int) != 0)=false from rfl,Ae,ea,Ad] at base;have base:some (.inl (s,o++[vTk (k,d)],(d:Int),((i+n:Nat):Int)))=S45_6step 0 (s,o,(d:Int),(i:Int)):=base;simp only [hz,Nat.add_zero];rw [aan base.symm,ih (i+n) (o++[vTk (k,d)]) d (by omega) (by omega) (by simp;omega) (by omega),<-hd,A8,a1x (s.length+1) s.length d _ (by rw [Ar];omega) (by rw [Ar];omega) (by rw [Ar];omega)];cases adw s.length d (s.drop (i+n)) with
        | inl l=>simp
        | inr p=>rfl
  ·obtain rfl:i=s.length:=by omega
   rw [List.drop_length];exact aac (by simp only [S45_6step,S45_6,abh,Nat.lt_irrefl,decide_false,Ae];simp [adw,skipS])
theorem a94 (s:Bq) (d:s.length<=16384):F45 0 s=some (a6t s):=by
 have h:=a1r d s.length 0 [] 1 (by omega) (by omega) (by simp) (by omega);have e:decide ((s.length:Int)>(16384:Int))=false:=Al (by omega);have h:aaz (S45_6step 0) (s,[],(1:Int),(0:Int))=_:=h;unfold F45;rw [e,Ae,aal,h,axv,A1];cases adw (s.length+1) 1 s with
 | inl xs=>rfl
 | inr p=>rfl
end
end Go.Ab
namespace Go.Ab
open Go
set_option maxRecDepth 100000
theorem axh (m d:Bq):F3 0 m d=some true:=by
 unfold F3;by_cases h1:d.length>6000
 ·rw [Ah (show (d.length:Int)>6000 by omega)];rfl
 have Z:=a9x m d (by omega);have o:=a94 d (by omega);rw [axv] at o;obtain ⟨O,U⟩:=azl (d.length+1) 1 d (by omega);have key:∃ v,F15 0 m d=some v/\F16 0 m d=some v/\F17 0 v.1 v.1=some true:=by
  rw [Z];cases h:adw (d.length+1) 1 d with
  | inl l=>rw [h] at o;obtain ⟨q1,M⟩:=O l h;have H:TNum (l.map vTk):=bbx (n:=d.length) (by omega) q1 λp z=>⟨(M p z).1,(M p z).2.1⟩;exact ⟨_,rfl,a1m m d _ 0 o H (by rw [List.length_map];omega),aue (a8u aux m _ H (by rw [List.length_map];omega))⟩
  | inr p=>obtain ⟨n,e⟩:=p;rw [h] at o;have Y:=(U n e h).1;refine ⟨_,rfl,?_,aue apd⟩;unfold F16;simp only [o,Aa,bneI Y,Ad];rfl
 obtain ⟨v,V,W,X⟩:=key;rw [Al (show ¬(d.length:Int)>6000 by omega)];simp only [Ae,V,W,X,Aa,A9,Ad,ams]
end Go.Ab
