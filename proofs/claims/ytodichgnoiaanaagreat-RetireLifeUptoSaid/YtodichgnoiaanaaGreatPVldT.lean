/- The specification's examination of schemas ends; what it says (first part: what it asks). -/
import Derived.Test.YtodichgnoiaanaaGreatPArgsT
import Derived.Test.YtodichgnoiaanaaGreatPName0T
import Derived.Test.YtodichgnoiaanaaGreatPNTextT
set_option linter.unusedVariables false
set_option linter.unusedSimpArgs false
set_option linter.unnecessarySimpa false
namespace Go.Ab
open Go
set_option maxRecDepth 100000
abbrev Ret {R:Type} (x:Option R) (G:R->Prop):Prop:=∃ r,x=some r/\G r
theorem abg {A R:Type}{x:Option A}{K:A->Option R}{G:R->Prop}{y:A} (h:x=some y) (k:Ret (K y) G):Ret (x.bind K) G:=by rw [h];exact k
theorem aas {A R:Type}{x:Option A}{K:A->Option R}{G:R->Prop}{P:A->Prop} (h:Ret x P) (k:∀ y,x=some y->P y->Ret (K y) G):Ret (x.bind K) G:=by
 obtain ⟨y,h1,h2⟩:=h
 rw [h1];exact k y h1 h2
theorem adq {R:Type}{c:Bool}{x:Option R}{G:R->Prop} (h:c=true) (k:Ret x G):Ret (bif c then x else none) G:=by rw [h];exact k
theorem acd {σ τ β:Type}{step:σ->Option (σ⊕τ)} (st:Nat->β->σ) (n:Nat) (out:β->τ) (Inv:Nat->β->Prop) (hgo:∀ i acc,i<n->Inv i acc->∃ acc',step (st i acc)=some (.inl (st (i+1) acc'))/\Inv (i+1) acc') (hend:∀ acc,Inv n acc->step (st n acc)=some (.inr (out acc))):
 ∀ k i acc,i+k=n->Inv i acc->∃ acc',aay step (st i acc)=some (out acc')/\Inv n acc':=by
 intro k
 induction k with
 | zero=>
  intro i acc hi hI
  have:i=n:=by omega
  subst this
  exact ⟨acc,aah (hend acc hI),hI⟩
 | succ k ih=>
  intro i acc hi hI
  obtain ⟨acc',h1,h2⟩:=hgo i acc (by omega) hI
  rw [aa0 h1]
  exact ih (i+1) acc' (by omega) h2
theorem aa6 {σ τ:Type}{step:σ->Option (σ⊕τ)} (st:Nat->σ) (n:Nat) (hit:Nat->τ) (miss:τ) (h:∀ i,i<n->step (st i)=some (.inl (st (i+1)))∨step (st i)=some (.inr (hit i))) (hend:step (st n)=some (.inr miss)):
 ∀ k i,i+k=n->∃ r,aay step (st i)=some r/\(r=miss∨∃ j,j<n/\r=hit j):=by
 intro k
 induction k with
 | zero=>
  intro i hi
  have:i=n:=by omega
  subst this
  exact ⟨miss,aah hend,Or.inl rfl⟩
 | succ k ih=>
  intro i hi
  rcases h i (by omega) with h1 | h1
  ·rw [aa0 h1]
   exact ih (i+1) (by omega)
  ·exact ⟨hit i,aah h1,Or.inr ⟨i,by omega,rfl⟩⟩
theorem azk (c:Bool):imp false c=true:=by cases c<;>rfl
theorem af5 (c:Bool):imp true c=c:=by cases c<;>rfl
theorem al2 (b:Bool):imp b true=true:=rfl
theorem decL (i n:Nat) (h:i<n):decide ((i:Int)<(n:Int))=true:=decide_eq_true (by omega)
theorem decN (n:Nat):decide (((n:Nat):Int)<(n:Int))=false:=decide_eq_false (by omega)
def Ad (a b:List PV) (n:Nat) (P:Prop):Prop:=∃ q,b=a++q/\q.length<=n/\(q=[]->P)
theorem Ad.refl (a:List PV):Ad a a 0 True:=⟨[],by simp,by simp,fun _=>trivial⟩
theorem Ad.trans {a b c:List PV}{n m:Nat}{P Q:Prop} (h:Ad a b n P) (k:Ad b c m Q):Ad a c (n+m) (P/\Q):=by
 obtain ⟨q,rfl,h1,h2⟩:=h
 obtain ⟨p,rfl,k1,k2⟩:=k
 refine ⟨q++p,by simp,by rw [List.length_append];omega,fun e=>?_⟩
 obtain ⟨e1,e2⟩:=List.append_eq_nil_iff.1 e
 exact ⟨h2 e1,k2 e2⟩
theorem Ad.mono {a b:List PV}{n m:Nat}{P Q:Prop} (h:Ad a b n P) (hn:n<=m) (hp:P->Q):Ad a b m Q:=by
 obtain ⟨q,rfl,h1,h2⟩:=h
 exact ⟨q,rfl,by omega,fun e=>hp (h2 e)⟩
theorem Ad.len {a b:List PV}{n:Nat}{P:Prop} (h:Ad a b n P):b.length<=a.length+n:=by
 obtain ⟨q,rfl,h1,_⟩:=h
 rw [List.length_append];omega
theorem Ad.nil {a b:List PV}{n:Nat}{P:Prop} (h:Ad a b n P) (e:b=[]):a=[]/\P:=by
 obtain ⟨q,rfl,_,h2⟩:=h
 obtain ⟨e1,e2⟩:=List.append_eq_nil_iff.1 e
 exact ⟨e1,h2 e2⟩
theorem ayb {bad:Bool}{num e:Int}{d:List UInt8}{acc:List PV} (h:acc.length<60000000000):∃ acc',F66 0 () bad num e d acc=some (d,acc')/\Ad acc acc' 1 (bad=false):=by
 unfold F66
 cases bad with
 | false=>exact ⟨acc,rfl,[],by simp,by simp,fun _=>rfl⟩
 | true=>
  rw [decide_eq_true (show acc.length+[PV.agg [PV.str d,PV.int num,PV.int e]].length<=aao by simp;unfold aao;omega)]
  exact ⟨_,rfl,_,rfl,by simp,fun h=>by cases h⟩
theorem abe {R:Type}{bad:Bool}{num e:Int}{d:List UInt8}{acc:List PV}{K:List UInt8×List PV->Option R}{G:R->Prop} (h:acc.length<60000000000) (k:∀ acc',Ad acc acc' 1 (bad=false)->Ret (K (d,acc')) G):Ret ((F66 0 () bad num e d acc).bind K) G:=by
 obtain ⟨acc',h1,h2⟩:=ayb (bad:=bad) (num:=num) (e:=e) (d:=d) h
 rw [h1]
 exact k acc' h2
theorem azi (l:List PV) (s:List UInt8) (h:l.length<=1048576):Ret (F101 0 l s) fun _=>True:=by
 obtain ⟨r,h1,h2⟩:=aa6 (step:=S101_3step 0) (fun i=>(l,s,((i:Nat):Int))) l.length (fun _=>.inl true) (.inr ()) (fun i hi=>by
  simp only [S101_3step,S101_3,decL i _ hi,cond_true,aab,decide_eq_true hi,Int.toNat_natCast,aa4 i (by omega)]
  cases (l.getD i .bad).asStr==s
  ·exact Or.inl rfl
  ·exact Or.inr rfl) (by
  simp only [S101_3step,S101_3,decN,cond_false]) l.length 0 (by omega)
 have h1':aaf 0 (S101_3step 0) (l,s,(0:Int))=some r:=h1
 unfold F101
 rw [h1']
 rcases h2 with rfl | ⟨j,_,rfl⟩<;>exact ⟨_,rfl,trivial⟩
theorem aku (l:List PV) (n:Int) (h:l.length<=1048576):Ret (F105 0 l n) fun _=>True:=by
 obtain ⟨r,h1,h2⟩:=aa6 (step:=S105_3step 0) (fun i=>(l,n,((i:Nat):Int))) l.length (fun _=>.inl true) (.inr ()) (fun i hi=>by
  simp only [S105_3step,S105_3,decL i _ hi,cond_true,aab,decide_eq_true hi,Int.toNat_natCast,aa4 i (by omega)]
  cases decide (((l.getD i .bad).fld 0).asInt<=n)<;>cases decide (n<=((l.getD i .bad).fld 1).asInt)
  ·exact Or.inl rfl
  ·exact Or.inl rfl
  ·exact Or.inl rfl
  ·exact Or.inr rfl) (by
  simp only [S105_3step,S105_3,decN,cond_false]) l.length 0 (by omega)
 have h1':aaf 0 (S105_3step 0) (l,n,(0:Int))=some r:=h1
 unfold F105
 rw [h1']
 rcases h2 with rfl | ⟨j,_,rfl⟩<;>exact ⟨_,rfl,trivial⟩
theorem ae8 (s:PV) (n:List UInt8) (h:(s.fld 0).asList.length<=1048576):Ret (F113 0 s n) fun r=>r=-1∨∃ j:Nat,j<(s.fld 0).asList.length/\r=(j:Int):=by
 obtain ⟨r,h1,h2⟩:=aa6 (step:=S113_3step 0) (fun i=>(n,(),((i:Nat):Int),s)) (s.fld 0).asList.length (fun i=>.inl (((i:Nat):Int),s)) (.inr s) (fun i hi=>by
  simp only [S113_3step,S113_3,decL i _ hi,cond_true,aab,decide_eq_true hi,Int.toNat_natCast,aa4 i (by omega)]
  cases (((s.fld 0).asList.getD i .bad).fld 0).asStr==n
  ·exact Or.inl rfl
  ·exact Or.inr rfl) (by
  simp only [S113_3step,S113_3,decN,cond_false]) (s.fld 0).asList.length 0 (by omega)
 have h1':aaf 0 (S113_3step 0) (n,(),(0:Int),s)=some r:=h1
 unfold F113
 rw [h1']
 rcases h2 with rfl | ⟨j,hj,rfl⟩
 ·exact ⟨_,rfl,Or.inl rfl⟩
 ·exact ⟨_,rfl,Or.inr ⟨j,hj,rfl⟩⟩
theorem al0 (s:PV) (n:List UInt8) (h:(s.fld 1).asList.length<=1048576):Ret (F139 0 s n) fun r=>r=-1∨∃ j:Nat,j<(s.fld 1).asList.length/\r=(j:Int):=by
 obtain ⟨r,h1,h2⟩:=aa6 (step:=S139_3step 0) (fun i=>(n,(),((i:Nat):Int),s)) (s.fld 1).asList.length (fun i=>.inl (((i:Nat):Int),s)) (.inr s) (fun i hi=>by
  simp only [S139_3step,S139_3,decL i _ hi,cond_true,aab,decide_eq_true hi,Int.toNat_natCast,aa4 i (by omega)]
  cases (((s.fld 1).asList.getD i .bad).fld 0).asStr==n
  ·exact Or.inl rfl
  ·exact Or.inr rfl) (by
  simp only [S139_3step,S139_3,decN,cond_false]) (s.fld 1).asList.length 0 (by omega)
 have h1':aaf 0 (S139_3step 0) (n,(),(0:Int),s)=some r:=h1
 unfold F139
 rw [h1']
 rcases h2 with rfl | ⟨j,hj,rfl⟩
 ·exact ⟨_,rfl,Or.inl rfl⟩
 ·exact ⟨_,rfl,Or.inr ⟨j,hj,rfl⟩⟩
theorem aa7 {R:Type}{c:Bool}{x y:Option R}{G:R->Prop} (h1:Ret x G) (h2:Ret y G):Ret (bif c then x else y) G:=by cases c<;>assumption
theorem aan {R:Type} (r:R):Ret (some r) fun _=>True:=⟨r,rfl,trivial⟩
theorem a1z (f:PV):Ret (F106 0 f) fun _=>True:=by
 unfold F106
 repeat' (first | exact aan _ | refine aa7 ?_ ?_)
theorem a6g (s f:PV) (h0:(s.fld 0).asList.length<=1048576) (h1:(s.fld 1).asList.length<=1048576):Ret (F107 0 s f) fun _=>True:=by
 unfold F107
 refine aa7 (aas (al0 s _ h1) fun _ _ _=>aan _) (aa7 (aas (ae8 s _ h0) fun _ _ _=>aan _) (aan _))
theorem aey (s:List UInt8) (h:s.length<=1048576):Ret (F104 0 s) fun _=>True:=⟨_,ast s h,trivial⟩
theorem a1l (m:PV) {i:Nat} (hi:i<(m.fld 1).asList.length) (hl:(m.fld 1).asList.length<=1048576) (hu:(((m.fld 1).asList.getD i .bad).fld 5).asStr.length<=1048576):Ret (F108 0 m (i:Int)) fun _=>True:=by
 unfold F108
 simp only [aab,Int.toNat_natCast]
 refine adq (decide_eq_true hi) (aa7 (aan _) ?_)
 refine aas (P:=fun _=>True) (aa7 (aey _ hu) (aan _)) fun b _ _=>aa7 (aan _) ?_
 generalize hf:(m.fld 1).asList.getD i .bad=f
 have key:∀ (k j:Nat) (e:Bool),j+k=(m.fld 1).asList.length->(e=true->1<=i)->∃ z,aay (S108_9step 0) ((i:Int),(),(),e,((j:Nat):Int),m,f)=some z/\((∃ b,z=.inl (b,m,f))∨∃ e',z=.inr ((i:Int),(),(),e',m,f)/\(e'=true->1<=i)):=by
  intro k
  induction k with
  | zero=>
   intro j e hj he
   have:j=(m.fld 1).asList.length:=by omega
   subst this
   refine ⟨_,aah ?_,Or.inr ⟨e,rfl,he⟩⟩
   simp only [S108_9step,S108_9,decN,cond_false]
  | succ k ih=>
   intro j e hj he
   have hjl:j<(m.fld 1).asList.length:=by omega
   have hs:S108_9step 0 ((i:Int),(),(),e,((j:Nat):Int),m,f)=some (.inr (.inl (false,m,f)))∨∃ e',(e'=true->1<=i)/\S108_9step 0 ((i:Int),(),(),e,((j:Nat):Int),m,f)=some (.inl ((i:Int),(),(),e',((j+1:Nat):Int),m,f)):=by
    simp only [S108_9step,S108_9,decL j _ hjl,cond_true,aab,decide_eq_true hjl,Int.toNat_natCast,aa4 j (by omega)]
    cases (((m.fld 1).asList.getD j .bad).fld 1).asStr==(f.fld 5).asStr with
    | true=>exact Or.inl rfl
    | false=>
     refine Or.inr ?_
     by_cases hji:(j:Int)<(i:Int)
     ·simp only [cond_false,decide_eq_true hji,imp,cond_true]
      cases (((m.fld 1).asList.getD j .bad).fld 5).asStr==(f.fld 5).asStr with
      | true=>exact ⟨true,fun _=>by omega,rfl⟩
      | false=>exact ⟨e,he,rfl⟩
     ·simp only [cond_false,decide_eq_false hji,imp,Bool.not_false,cond_true]
      exact ⟨e,he,by rfl⟩
   rcases hs with hs | ⟨e',he',hs⟩
   ·exact ⟨_,aah hs,Or.inl ⟨false,rfl⟩⟩
   ·rw [aa0 hs]
    exact ih (j+1) e' (by omega) he'
 obtain ⟨z,h1,h2⟩:=key (m.fld 1).asList.length 0 false (by omega) (fun h=>by cases h)
 have h1':aaf 0 (S108_9step 0) ((i:Int),(),(),false,(0:Int),m,f)=some z:=h1
 rw [h1']
 rcases h2 with ⟨b,rfl⟩ | ⟨e',rfl,he⟩
 ·exact ⟨_,rfl,trivial⟩
 ·simp only [Option.bind_some,ab0]
  refine adq ?_ (aan _)
  cases e' with
  | false=>exact azk _
  | true=>
   have:=he rfl
   rw [show IntKind.wrap .i64 ((i:Int)-1)=((i-1:Nat):Int) from by rw [show (i:Int)-1=((i-1:Nat):Int) by omega];exact ac7 (by omega),aab,decide_eq_true (show i-1<(m.fld 1).asList.length by omega)]
   rfl
theorem a3f (v:PV) (hs:adu v):∃ w,F142 0 v=some w:=by
 obtain ⟨u,hu,h64⟩:=au6 hs
 have e0:(v.fld 0).asInt=aaz v:=rfl
 have e1:(v.fld 1).asInt=aca v:=rfl
 unfold F142
 simp only [e0,e1,hu,aid u]
 cases (aaz v==(6:Int)) with
 | false=>exact ⟨v,rfl⟩
 | true=>
  simp only [cond_true,Option.bind_some]
  cases h:af2 u==(0:Int) with
  | false=>exact ⟨v,rfl⟩
  | true=>exact ⟨_,rfl⟩
theorem a1n (s f:PV) (h1:(s.fld 1).asList.length<=1048576) (hi:∀ x,x∈(s.fld 1).asList->(x.fld 2).asList.length<=1048576) (hv:adu (f.fld 7)):Ret (F109 0 s f) fun b=>b=true->(f.fld 6).asBool=true->ado ((f.fld 4).fld 0).asInt (f.fld 7)=true:=by
 unfold F109
 have hsame:∀ a b:PV,Ret (F140 0 a b) fun _=>True:=fun a b=>by unfold F140;exact aan _
 cases hd:(f.fld 6).asBool with
 | false=>
  simp only [Bool.not_false,cond_true]
  refine aas (hsame _ _) fun b _ _=>⟨b,rfl,fun _ h=>by cases h⟩
 | true=>
  simp only [Bool.not_true,cond_false]
  generalize (bif ((f.fld 2).asInt != (2:Int)) then true else (!((f.fld 5).asStr==([]:List UInt8))))=c9
  rw [ac2 _ _ hv]
  obtain ⟨w,hw⟩:=a3f (f.fld 7) hv
  rw [hw]
  have bad:∀ {R:Type} (r:R),True:=fun _=>trivial
  cases c9 with
  | true=>
   simp only [Bool.not_true,cond_false,Option.bind_some,cond_true]
   exact ⟨false,rfl,fun h=>by cases h⟩
  | false=>
   simp only [Bool.not_false,cond_true,Option.bind_some,cond_false]
   cases hfit:ado ((f.fld 4).fld 0).asInt (f.fld 7) with
   | false=>
    simp only [Bool.not_false,cond_false,Bool.not_true,Option.bind_some,cond_true]
    exact ⟨false,rfl,fun h=>by cases h⟩
   | true=>
    simp only [Bool.not_true,cond_true,Bool.not_false,Option.bind_some,cond_false]
    have fin2:∀ {x:Option Bool},Ret x (fun _=>True)->Ret x fun b=>b=true->True->True:=fun ⟨r,h,_⟩=>⟨r,h,fun _ _=>trivial⟩
    refine fin2 ?_
    refine aas (hsame _ _) fun b _ _=>aa7 (aan _) ?_
    refine aas (al0 s _ h1) fun k _ hk=>aa7 (aan _) ?_
    rcases hk with rfl | ⟨j,hj,rfl⟩
    ·exact ⟨false,rfl,trivial⟩
    ·have hd0:decide (((j:Nat):Int)<(0:Int))=false:=decide_eq_false (by omega)
     rw [hd0,cond_false]
     have hmem:(s.fld 1).asList.getD j .bad∈(s.fld 1).asList:=by rw [aav hj];exact List.getElem_mem hj
     have hil:=hi _ hmem
     obtain ⟨r,q1,q2⟩:=aa6 (step:=S109_13step 0) (fun i=>((),(),((j:Nat):Int),((i:Nat):Int),s,f,f.fld 7)) (((s.fld 1).asList.getD j .bad).fld 2).asList.length (fun _=>.inl (true,s,f,f.fld 7)) (.inr (s,f,f.fld 7)) (fun i hii=>by
      simp only [S109_13step,S109_13,aab,decide_eq_true hj,Int.toNat_natCast,cond_true,decL i _ hii,decide_eq_true hii,aa4 i (by omega)]
      cases (IntKind.wrap .u64 (((((s.fld 1).asList.getD j .bad).fld 2).asList.getD i .bad).fld 1).asInt)==((f.fld 7).fld 1).asInt
      ·exact Or.inl rfl
      ·exact Or.inr rfl) (by
      simp only [S109_13step,S109_13,aab,decide_eq_true hj,Int.toNat_natCast,cond_true,decN,cond_false]) _ 0 (Nat.zero_add _)
     have q1':aaf 0 (S109_13step 0) ((),(),((j:Nat):Int),(0:Int),s,f,f.fld 7)=some r:=q1
     rw [q1']
     rcases q2 with rfl | ⟨_,_,rfl⟩<;>exact ⟨_,rfl,trivial⟩
end Go.Ab
namespace Go.Ab
open Go
set_option maxRecDepth 100000
theorem aia {σ τ α β:Type}{step:σ->Option (σ⊕τ)} (st:Nat->β->σ) (xs:List α) (f:β->α->β) (out:β->τ) (Inv:Nat->β->Prop)
 (hgo:∀ i acc (h:i<xs.length),Inv i acc->step (st i acc)=some (.inl (st (i+1) (f acc xs[i])))/\Inv (i+1) (f acc xs[i])) (hend:∀ acc,Inv xs.length acc->step (st xs.length acc)=some (.inr (out acc))):
 ∀ k i acc,i+k=xs.length->Inv i acc->aay step (st i acc)=some (out ((xs.drop i).foldl f acc))/\Inv xs.length ((xs.drop i).foldl f acc):=by
 intro k
 induction k with
 | zero=>
  intro i acc hi hI
  have:i=xs.length:=by omega
  subst this
  rw [List.drop_length]
  exact ⟨aah (hend acc hI),hI⟩
 | succ k ih=>
  intro i acc hi hI
  have h:i<xs.length:=by omega
  obtain ⟨h1,h2⟩:=hgo i acc h hI
  rw [aa0 h1,List.drop_eq_getElem_cons h]
  exact ih (i+1) _ (by omega) h2
theorem aj9 {α β:Type} (g:α->β):∀ (l:List α) (acc:List β),l.foldl (fun a x=>a++[g x]) acc=acc++l.map g:=by
 intro l
 induction l with
 | nil=>intro acc;simp
 | cons x l ih=>intro acc;rw [List.foldl_cons,ih];simp
theorem ayc {p:Nat->Bool}:∀ (k i:Nat),allF p i k=true->∀ j,i<=j->j<i+k->p j=true:=by
 intro k
 induction k with
 | zero=>intro i _ j h1 h2;omega
 | succ k ih=>
  intro i h j h1 h2
  unfold allF at h
  cases hp:p i with
  | false=>rw [hp] at h;cases h
  | true=>
   rw [hp] at h
   by_cases hj:j=i
   ·subst hj;exact hp
   ·exact ih (i+1) h j (by omega) (by omega)
theorem afh {l:List PV}{t num:Int}{d:List UInt8}{acc:List PV} (ha:acc.length<60000000000) (hl:l.length<=1048576) (hs:∀ n,n∈l->acv n):∃ acc',F110 0 () l t num d acc=some (d,acc')/\Ad acc acc' 1 True:=by
 unfold F110
 rw [ac1 l t hl hs]
 obtain ⟨acc',h1,h2⟩:=ayb (bad:=aip l t != (0:Int)) (num:=num) (e:=aip l t) (d:=d) ha
 refine ⟨acc',?_,h2.mono (Nat.le_refl _) fun _=>trivial⟩
 rw [Option.bind_some,h1]
 rfl
theorem asi {l:List PV}{a b:Int}{d:List UInt8}{acc:List PV} (hl:l.length<=1048576) (ha:acc.length+2*l.length<60000000000):∃ acc',F111 0 () l a b d acc=some (d,acc')/\Ad acc acc' (2*l.length) True:=by
 obtain ⟨acc',h1,h2⟩:=acd (step:=S111_2step 0) (fun i c=>((),l,a,b,((i:Nat):Int),d,c)) l.length (fun c=>(d,c)) (fun i c=>Ad acc c (2*i) True) (fun i c hi hI=>by
  have hc:=hI.len
  have goal:Ret (S111_2step 0 ((),l,a,b,((i:Nat):Int),d,c)) fun r=>∃ c',r=.inl ((),l,a,b,((i+1:Nat):Int),d,c')/\Ad acc c' (2*(i+1)) True:=by
   simp only [S111_2step,S111_2,decL i _ hi,cond_true,aab,decide_eq_true hi,Int.toNat_natCast,aa4 i (by omega)]
   refine adq (al2 _) (adq (al2 _) (adq (al2 _) ?_))
   refine abe (by omega) fun c1 r1=>?_
   have hc1:=r1.len
   refine adq (al2 _) (adq ?_ ?_)
   ·by_cases h0:(i:Int)>0
    ·rw [decide_eq_true h0,show IntKind.wrap .i64 ((i:Int)-1)=((i-1:Nat):Int) from by rw [show (i:Int)-1=((i-1:Nat):Int) by omega];exact ac7 (by omega),aab,decide_eq_true (show i-1<l.length by omega)];rfl
    ·rw [decide_eq_false h0];exact azk _
   ·refine abe (show c1.length<_ from by omega) fun c2 r2=>?_
    exact ⟨_,rfl,c2,rfl,((hI.trans r1).trans r2).mono (by omega) fun _=>trivial⟩
  obtain ⟨r,h1,c',rfl,h2⟩:=goal
  exact ⟨c',h1,h2⟩) (fun c _=>by
  simp only [S111_2step,S111_2,decN,cond_false]) l.length 0 acc (by omega) ((Ad.refl acc).mono (by omega) fun _=>trivial)
 refine ⟨acc',?_,h2⟩
 have h1':aaf 0 (S111_2step 0) ((),l,a,b,(0:Int),d,acc)=some (d,acc'):=h1
 unfold F111
 rw [h1']
 rfl
theorem a0g {s m:PV}{fin:List PV} (hfin:fin.length=(s.fld 0).asList.length) (hm:(s.fld 0).asList.length<=1048576) (hl:(m.fld 1).asList.length<=1048576):Ret (F102_v1 0 s m fin) fun _=>True:=by
 obtain ⟨r,h1,h2⟩:=aa6 (step:=S102_v1_3step 0) (fun i=>(fin,(),(),((i:Nat):Int),s,m)) (m.fld 1).asList.length (fun _=>.inl (true,s,m)) (.inr (s,m)) (fun i hi=>by
  simp only [S102_v1_3step,S102_v1_3,decL i _ hi,cond_true,aab,decide_eq_true hi,Int.toNat_natCast,aa4 i (by omega)]
  generalize (m.fld 1).asList.getD i .bad=f
  obtain ⟨k,hk,hk2⟩:=ae8 s ((f.fld 4).fld 1).asStr hm
  rw [hk]
  cases (bif ((f.fld 2).asInt != (1:Int)) then true else (((f.fld 4).fld 0).asInt != (10:Int))) with
  | true=>exact Or.inl rfl
  | false=>
   simp only [cond_false,Option.bind_some]
   rcases hk2 with rfl | ⟨j,hj,rfl⟩
   ·exact Or.inl rfl
   ·have hd:decide (((j:Nat):Int)≥(0:Int))=true:=decide_eq_true (by omega)
    rw [hd,af5,aab,decide_eq_true (show j<fin.length by omega),cond_true,cond_true]
    cases (!(fin.getD ((j:Nat):Int).toNat .bad).asBool) with
    | true=>exact Or.inr rfl
    | false=>exact Or.inl rfl) (by
  simp only [S102_v1_3step,S102_v1_3,decN,cond_false]) (m.fld 1).asList.length 0 (by omega)
 have h1':aaf 0 (S102_v1_3step 0) (fin,(),(),(0:Int),s,m)=some r:=h1
 unfold F102_v1
 rw [h1']
 rcases h2 with rfl | ⟨j,_,rfl⟩<;>exact ⟨_,rfl,trivial⟩
theorem axh {s m:PV}{fin:List PV} (hfin:fin.length=(s.fld 0).asList.length) (hm:(s.fld 0).asList.length<=1048576) (hl:(m.fld 1).asList.length<=1048576):Ret (F102 0 s m () fin) fun r=>r.2=fin:=by
 obtain ⟨r,h1,h2⟩:=aa6 (step:=S102_3step 0) (fun i=>((),(),(),((i:Nat):Int),fin,s,m)) (m.fld 1).asList.length (fun _=>.inl (true,fin,s,m)) (.inr (fin,s,m)) (fun i hi=>by
  simp only [S102_3step,S102_3,decL i _ hi,cond_true,aab,decide_eq_true hi,Int.toNat_natCast,aa4 i (by omega)]
  generalize (m.fld 1).asList.getD i .bad=f
  obtain ⟨k,hk,hk2⟩:=ae8 s ((f.fld 4).fld 1).asStr hm
  rw [hk]
  cases (bif ((f.fld 2).asInt != (1:Int)) then true else (((f.fld 4).fld 0).asInt != (10:Int))) with
  | true=>exact Or.inl rfl
  | false=>
   simp only [cond_false,Option.bind_some]
   rcases hk2 with rfl | ⟨j,hj,rfl⟩
   ·exact Or.inl rfl
   ·have hd:decide (((j:Nat):Int)≥(0:Int))=true:=decide_eq_true (by omega)
    rw [hd,af5,aab,decide_eq_true (show j<fin.length by omega),cond_true,cond_true]
    cases (!(fin.getD ((j:Nat):Int).toNat .bad).asBool) with
    | true=>exact Or.inr rfl
    | false=>exact Or.inl rfl) (by
  simp only [S102_3step,S102_3,decN,cond_false]) (m.fld 1).asList.length 0 (by omega)
 have h1':aaf 0 (S102_3step 0) ((),(),(),(0:Int),fin,s,m)=some r:=h1
 unfold F102
 rw [h1']
 rcases h2 with rfl | ⟨j,_,rfl⟩<;>exact ⟨_,rfl,rfl⟩
theorem aw0 {s:PV} (hm:(s.fld 0).asList.length<=1048576) (hl:∀ m,m∈(s.fld 0).asList->(m.fld 1).asList.length<=1048576):Ret (F69 0 s) fun l=>l.length=(s.fld 0).asList.length:=by
 have inner:∀ (more:Bool) (round:Nat) (xs:List PV),xs.length=(s.fld 0).asList.length->∃ (more':Bool) (xs':List PV),aaf 0 (S69_9step 0) ((),(),more,((round:Nat):Int),(0:Int),s,xs)=some ((),(),more',((round:Nat):Int),s,xs')/\xs'.length=(s.fld 0).asList.length:=by
  intro more round xs hx
  obtain ⟨⟨more',xs'⟩,h1,h2⟩:=acd (step:=S69_9step 0) (fun i (c:Bool×List PV)=>((),(),c.1,((round:Nat):Int),((i:Nat):Int),s,c.2)) (s.fld 0).asList.length (fun c=>((),(),c.1,((round:Nat):Int),s,c.2)) (fun _ c=>c.2.length=(s.fld 0).asList.length) (fun i c hi hI=>by
   obtain ⟨mo,ys⟩:=c
   have hI:ys.length=(s.fld 0).asList.length:=hI
   have hmem:(s.fld 0).asList.getD i .bad∈(s.fld 0).asList:=by rw [aav hi];exact List.getElem_mem hi
   obtain ⟨⟨b,zs⟩,hn,hz⟩:=axh (m:=(s.fld 0).asList.getD i .bad) hI hm (hl _ hmem)
   have hz:zs=ys:=hz
   subst hz
   simp only [S69_9step,S69_9,decL i _ hi,cond_true,aab,decide_eq_true hi,decide_eq_true (show i<zs.length by omega),Int.toNat_natCast,aa4 i (by omega),al2,hn,Option.bind_some]
   cases (zs.getD i .bad).asBool with
   | true=>exact ⟨(mo,zs),rfl,hI⟩
   | false=>
    cases b with
    | true=>exact ⟨(mo,zs),rfl,hI⟩
    | false=>exact ⟨(true,zs.set i (PV.bool true)),rfl,by simpa using hI⟩) (fun c _=>by
   simp only [S69_9step,S69_9,decN,cond_false]) (s.fld 0).asList.length 0 (more,xs) (by omega) hx
  exact ⟨more',xs',h1,h2⟩
 have outer:∀ (k round:Nat) (more:Bool) (xs:List PV),round+k=(s.fld 0).asList.length->xs.length=(s.fld 0).asList.length->∃ xs',aay (S69_5step 0) ((),(),more,((round:Nat):Int),s,xs)=some ((),s,xs')/\xs'.length=(s.fld 0).asList.length:=by
  intro k
  induction k with
  | zero=>
   intro round more xs hr hx
   have:round=(s.fld 0).asList.length:=by omega
   subst this
   refine ⟨xs,aah ?_,hx⟩
   simp only [S69_5step,S69_5,decN,cond_false]
  | succ k ih=>
   intro round more xs hr hx
   cases more with
   | false=>
    refine ⟨xs,aah ?_,hx⟩
    simp only [S69_5step,S69_5,decL round _ (show round<(s.fld 0).asList.length by omega),cond_true,cond_false]
   | true=>
    obtain ⟨m',xs1,h1,h2⟩:=inner false round xs hx
    obtain ⟨xs',q1,q2⟩:=ih (round+1) m' xs1 (by omega) h2
    refine ⟨xs',?_,q2⟩
    rw [aa0 (x1:=((),(),m',((round+1:Nat):Int),s,xs1))]
    ·exact q1
    ·simp only [S69_5step,S69_5,decL round _ (show round<(s.fld 0).asList.length by omega),cond_true,h1,Option.bind_some,aa4 round (by omega)]
 obtain ⟨xs',q1,q2⟩:=outer (s.fld 0).asList.length 0 true (List.replicate (s.fld 0).asList.length (PV.bool false)) (by omega) (by simp)
 unfold F69
 have hd:decide ((0:Int)<=(((s.fld 0).asList.length:Nat):Int)/\(((s.fld 0).asList.length:Nat):Int)<=(((s.fld 0).asList.length:Nat):Int)/\(((s.fld 0).asList.length:Nat):Int)<=aao)=true:=decide_eq_true (by unfold aao;omega)
 have q1':aaf 0 (S69_5step 0) ((),(),true,(0:Int),s,List.replicate (s.fld 0).asList.length (PV.bool false))=some ((),s,xs'):=q1
 refine adq hd ?_
 rw [Int.toNat_natCast,q1']
 exact ⟨xs',rfl,q2⟩
def nmL (l:List PV):List PV:=l.map fun m=>PV.str (m.fld 0).asStr
theorem a5s {w:Int}{s:PV} (h:(s.fld 0).asList.length<=1048576):aaf 0 (S65_4step 0) (w,(),[],(0:Int),s)=some (w,(),(bif w==1 then nmL (s.fld 0).asList else []),s):=by
 cases hw:w==(1:Int) with
 | false=>
  refine aah (x:=(w,(),[],(0:Int),s)) ?_
  simp only [S65_4step,S65_4,hw,cond_false]
 | true=>
  obtain ⟨h1,_⟩:=aia (step:=S65_4step 0) (fun i c=>(w,(),c,((i:Nat):Int),s)) (s.fld 0).asList (fun a x=>a++[PV.str (x.fld 0).asStr]) (fun c=>(w,(),c,s)) (fun i c=>c.length=i) (fun i c hi hI=>by
   refine ⟨?_,by simp [hI]⟩
   simp only [S65_4step,S65_4,hw,decL i _ hi,cond_true,aab,decide_eq_true hi,Int.toNat_natCast,aav hi,decide_eq_true (show c.length+[PV.str (((s.fld 0).asList[i]).fld 0).asStr].length<=aao by simp;unfold aao;omega),aa4 i (by omega)]) (fun c _=>by
   simp only [S65_4step,S65_4,hw,decN,cond_true,cond_false]) (s.fld 0).asList.length 0 [] (by omega) rfl
  rw [List.drop_zero,aj9,List.nil_append] at h1
  exact h1
theorem atx {w:Int}{s:PV}{acc:List PV} (ha:acc.length<=1048576) (h:(s.fld 1).asList.length<=1048576):aaf 0 (S65_8step 0) (w,(),acc,(0:Int),s)=some (w,(),(bif w==2 then acc++nmL (s.fld 1).asList else acc),s):=by
 cases hw:w==(2:Int) with
 | false=>
  refine aah (x:=(w,(),acc,(0:Int),s)) ?_
  simp only [S65_8step,S65_8,hw,cond_false]
 | true=>
  obtain ⟨h1,_⟩:=aia (step:=S65_8step 0) (fun i c=>(w,(),c,((i:Nat):Int),s)) (s.fld 1).asList (fun a x=>a++[PV.str (x.fld 0).asStr]) (fun c=>(w,(),c,s)) (fun i c=>c.length=acc.length+i) (fun i c hi hI=>by
   refine ⟨?_,by simp [hI];omega⟩
   simp only [S65_8step,S65_8,hw,decL i _ hi,cond_true,aab,decide_eq_true hi,Int.toNat_natCast,aav hi,decide_eq_true (show c.length+[PV.str (((s.fld 1).asList[i]).fld 0).asStr].length<=aao by simp;unfold aao;omega),aa4 i (by omega)]) (fun c _=>by
   simp only [S65_8step,S65_8,hw,decN,cond_true,cond_false]) (s.fld 1).asList.length 0 acc (by omega) (by simp)
  rw [List.drop_zero,aj9] at h1
  exact h1
theorem aty {w:Int}{s:PV}{acc:List PV} (ha:acc.length<=1048576) (h:(s.fld 2).asList.length<=1048576):aaf 0 (S65_12step 0) (w,(),acc,(0:Int),s)=some ((bif w==3 then acc++nmL (s.fld 2).asList else acc),s):=by
 cases hw:w==(3:Int) with
 | false=>
  refine aah (x:=(w,(),acc,(0:Int),s)) ?_
  simp only [S65_12step,S65_12,hw,cond_false]
 | true=>
  obtain ⟨h1,_⟩:=aia (step:=S65_12step 0) (fun i c=>(w,(),c,((i:Nat):Int),s)) (s.fld 2).asList (fun a x=>a++[PV.str (x.fld 0).asStr]) (fun c=>(c,s)) (fun i c=>c.length=acc.length+i) (fun i c hi hI=>by
   refine ⟨?_,by simp [hI];omega⟩
   simp only [S65_12step,S65_12,hw,decL i _ hi,cond_true,aab,decide_eq_true hi,Int.toNat_natCast,aav hi,decide_eq_true (show c.length+[PV.str (((s.fld 2).asList[i]).fld 0).asStr].length<=aao by simp;unfold aao;omega),aa4 i (by omega)]) (fun c _=>by
   simp only [S65_12step,S65_12,hw,decN,cond_true,cond_false]) (s.fld 2).asList.length 0 acc (by omega) (by simp)
  rw [List.drop_zero,aj9] at h1
  exact h1
structure SLen (s:PV):Prop where
 m:(s.fld 0).asList.length<=1048576
 e:(s.fld 1).asList.length<=1048576
 v:(s.fld 2).asList.length<=1048576
theorem ak9 {s:PV} (h:SLen s) {w:Int} (hw:w=1∨w=2∨w=3):F65 0 s w=some (nmL (bif w==1 then (s.fld 0).asList else bif w==2 then (s.fld 1).asList else (s.fld 2).asList)):=by
 have hl:∀ l:List PV,(nmL l).length=l.length:=fun l=>by simp [nmL]
 have h1:=h.m;have h2:=h.e;have h3:=h.v
 unfold F65
 rw [a5s h.m]
 simp only [Option.bind_some]
 rcases hw with rfl | rfl | rfl
 ·have e1:((1:Int)==1)=true:=rfl
  have e2:((1:Int)==2)=false:=rfl
  have e3:((1:Int)==3)=false:=rfl
  simp only [e1,cond_true]
  rw [atx (by rw [hl];omega) h.e]
  simp only [e2,cond_false,Option.bind_some]
  rw [aty (by rw [hl];omega) h.v]
  simp only [e3,cond_false,Option.bind_some]
 ·have e1:((2:Int)==1)=false:=rfl
  have e2:((2:Int)==2)=true:=rfl
  have e3:((2:Int)==3)=false:=rfl
  simp only [e1,cond_false]
  rw [atx (by simp) h.e]
  simp only [e2,cond_true,Option.bind_some,List.nil_append]
  rw [aty (by rw [hl];omega) h.v]
  simp only [e3,cond_false,Option.bind_some]
 ·have e1:((3:Int)==1)=false:=rfl
  have e2:((3:Int)==2)=false:=rfl
  have e3:((3:Int)==3)=true:=rfl
  simp only [e1,cond_false]
  rw [atx (by simp) h.e]
  simp only [e2,cond_false,Option.bind_some]
  rw [aty (by simp) h.v]
  simp only [e3,cond_true,Option.bind_some,List.nil_append]
def ascB (l:List PV) (i:Nat):Bool:=!(Op.bytesLess (l.getD (i+1) .bad).asStr (l.getD i .bad).asStr||(l.getD (i+1) .bad).asStr==(l.getD i .bad).asStr)
theorem a4t {l:List PV} (h:l.length<=1048576):Ret (F67 0 l) fun b=>b=true->∀ i,i+1<l.length->ascB l i=true:=by
 have hl:=acr (step:=S67_3step 0) (fun i=>(l,((i+1:Nat):Int))) (l.length-1) (ascB l) (.inl false) (.inr ()) (fun i hi=>by
  have w:IntKind.wrap .i64 (((i+1:Nat):Int)-1)=((i:Nat):Int):=by rw [show ((i+1:Nat):Int)-1=(i:Int) by omega];exact ac7 (by omega)
  simp only [S67_3step,S67_3,decL (i+1) _ (show i+1<l.length by omega),cond_true,aab,decide_eq_true (show i+1<l.length by omega),w,decide_eq_true (show i<l.length by omega),Int.toNat_natCast,aa4 (i+1) (by omega),ascB]
  cases (Op.bytesLess (l.getD (i+1) .bad).asStr (l.getD i .bad).asStr||(l.getD (i+1) .bad).asStr==(l.getD i .bad).asStr)<;>rfl) (by
  have hd:decide (((l.length-1+1:Nat):Int)<(l.length:Int))=false:=decide_eq_false (by omega)
  simp only [S67_3step,S67_3,hd,cond_false]) (l.length-1) 0 (by omega)
 have hl':aaf 0 (S67_3step 0) (l,(1:Int))=some (bif allF (ascB l) 0 (l.length-1) then .inr () else .inl false):=hl
 unfold F67
 rw [hl']
 cases hall:allF (ascB l) 0 (l.length-1) with
 | false=>exact ⟨false,rfl,fun h=>by cases h⟩
 | true=>exact ⟨true,rfl,fun _ i hi=>ayc _ _ hall i (by omega) (by omega)⟩
theorem apr {a b:List PV} (ha:a.length<=1048576) (hb:b.length<=1048576):Ret (F68 0 a b) fun _=>True:=by
 obtain ⟨r,h1,h2⟩:=aa6 (step:=S68_3step 0) (fun i=>(a,b,((i:Nat):Int))) a.length (fun _=>.inl true) (.inr ()) (fun i hi=>by
  obtain ⟨c,hc,_⟩:=azi b (a.getD i .bad).asStr hb
  simp only [S68_3step,S68_3,decL i _ hi,cond_true,aab,decide_eq_true hi,Int.toNat_natCast,hc,Option.bind_some,aa4 i (by omega)]
  cases c with
  | true=>exact Or.inr rfl
  | false=>exact Or.inl rfl) (by
  simp only [S68_3step,S68_3,decN,cond_false]) a.length 0 (by omega)
 have h1':aaf 0 (S68_3step 0) (a,b,(0:Int))=some r:=h1
 unfold F68
 rw [h1']
 rcases h2 with rfl | ⟨j,_,rfl⟩<;>exact ⟨_,rfl,trivial⟩
end Go.Ab
