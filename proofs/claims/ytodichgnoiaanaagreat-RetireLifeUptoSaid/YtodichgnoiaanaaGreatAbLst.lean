/- Loops that look for a place, that add to a list, that go through. -/
import Derived.Test.YtodichgnoiaanaaGreatAbPlain
import Derived.Test.YtodichgnoiaanaaGreatPVld3T
import Derived.Test.YtodichgnoiaanaaGreatPCheckT
set_option linter.unusedVariables false
set_option linter.unusedSimpArgs false
set_option linter.unnecessarySimpa false
namespace Go.Ab
open Go
def fstI (p:Nat->Bool):Nat->Nat->Option Nat
 | _,0=>none
 | i,k+1=>bif p i then some i else fstI p (i+1) k
theorem afe {σ τ:Type}{step:σ->Option (σ⊕τ)} (st:Nat->σ) (n:Nat) (p:Nat->Bool) (hit:Nat->τ) (miss:τ)
 (hgo:∀ i,i<n->step (st i)=some (bif p i then .inr (hit i) else .inl (st (i+1)))) (hend:step (st n)=some (.inr miss)):
 ∀ k i,i+k=n->aay step (st i)=some ((fstI p i k).elim miss hit):=by
 intro k
 induction k with
 | zero=>
  intro i hi
  obtain rfl:i=n:=by omega
  exact aah hend
 | succ k ih=>
  intro i hi
  have h:=hgo i (by omega)
  unfold fstI
  cases hp:p i with
  | true=>rw [hp] at h;exact aah h
  | false=>rw [hp] at h;rw [aa0 h,cond_false];exact ih (i+1) (by omega)
theorem aiu {p:Nat->Bool}:∀ {k i j:Nat},fstI p i k=some j->i<=j/\j<i+k/\p j=true:=by
 intro k
 induction k with
 | zero=>intro i j h;cases h
 | succ k ih=>
  intro i j h
  unfold fstI at h
  cases hp:p i with
  | true=>rw [hp] at h;cases h;exact ⟨Nat.le_refl _,by omega,hp⟩
  | false=>
   rw [hp] at h
   obtain ⟨h1,h2,h3⟩:=ih h
   exact ⟨by omega,by omega,h3⟩
theorem ape {p:Nat->Bool}:∀ {k i j:Nat},i<=j->j<i+k->p j=true->(∀ m,i<=m->m<i+k->p m=true->m=j)->fstI p i k=some j:=by
 intro k
 induction k with
 | zero=>intro i j h1 h2;omega
 | succ k ih=>
  intro i j h1 h2 h3 h4
  unfold fstI
  cases hp:p i with
  | true=>
   have:=h4 i (Nat.le_refl _) (by omega) hp
   subst this;rfl
  | false=>
   rw [cond_false]
   have hne:i≠j:=fun e=>by rw [e,h3] at hp;cases hp
   exact ih (by omega) (by omega) h3 (fun m m1 m2 m3=>h4 m (by omega) (by omega) m3)
theorem azf {p:Nat->Bool}:∀ {k i:Nat},fstI p i k=none->∀ j,i<=j->j<i+k->p j=false:=by
 intro k
 induction k with
 | zero=>intro i _ j h1 h2;omega
 | succ k ih=>
  intro i h j h1 h2
  unfold fstI at h
  cases hp:p i with
  | true=>rw [hp] at h;cases h
  | false=>
   rw [hp,cond_false] at h
   by_cases hj:j=i
   ·subst hj;exact hp
   ·exact ih h j (by omega) (by omega)
theorem allG {p:Nat->Bool}:∀ {k i:Nat},allF p i k=true->∀ j,i<=j->j<i+k->p j=true:=by
 intro k
 induction k with
 | zero=>intro i _ j h1 h2;omega
 | succ k ih=>
  intro i h j h1 h2
  simp only [allF,Bool.and_eq_true] at h
  by_cases hj:j=i
  ·subst hj;exact h.1
  ·exact ih h.2 j (by omega) (by omega)
theorem ai2 {σ τ:Type}{step:σ->Option (σ⊕τ)} (st:Nat->List PV->σ) (xs:List PV) (g:PV->List PV) (out:List PV->τ) (N:Nat)
 (hgo:∀ i acc,i<xs.length->acc.length+(g (xs.getD i .bad)).length<=N->step (st i acc)=some (.inl (st (i+1) (acc++g (xs.getD i .bad)))))
 (hend:∀ acc,step (st xs.length acc)=some (.inr (out acc))):
 ∀ k i acc,i+k=xs.length->acc.length+((xs.drop i).flatMap g).length<=N->aay step (st i acc)=some (out (acc++(xs.drop i).flatMap g)):=by
 intro k
 induction k with
 | zero=>
  intro i acc hi hN
  obtain rfl:i=xs.length:=by omega
  rw [aah (hend acc)]
  simp
 | succ k ih=>
  intro i acc hi hN
  have hil:i<xs.length:=by omega
  have hd:xs.drop i=xs.getD i .bad::xs.drop (i+1):=by rw [List.drop_eq_getElem_cons hil,aav hil]
  rw [hd,List.flatMap_cons,List.length_append] at hN
  rw [aa0 (hgo i acc hil (by omega)),ih (i+1) _ (by omega) (by rw [List.length_append];omega),hd,List.flatMap_cons,List.append_assoc]
theorem aq8 {α β:Type} (g:α->β):∀ l:List α,(l.flatMap fun x=>[g x])=l.map g:=by
 intro l
 induction l with
 | nil=>rfl
 | cons x r ih=>rw [List.flatMap_cons,ih];rfl
theorem azb {α:Type} (p:α->Bool):∀ l:List α,(l.flatMap fun x=>bif p x then [x] else [])=l.filter p:=by
 intro l
 induction l with
 | nil=>rfl
 | cons x r ih=>
  rw [List.flatMap_cons,ih,List.filter_cons]
  cases p x<;>simp
theorem af0 {l:List PV}{x:PV} (h:l.length<=100000000):decide (l.length+[x].length<=aao)=true:=decide_eq_true (by simp;unfold aao;omega)
theorem acs {σ τ:Type}{step:σ->Option (σ⊕τ)} (st:Nat->List PV->σ) (xs:List PV) (g:PV->PV) (out:List PV->τ) (hl:xs.length<=10000000)
 (hgo:∀ i c,i<xs.length->c.length<=100000000->step (st i c)=some (.inl (st (i+1) (c++[g (xs.getD i .bad)]))))
 (hend:∀ c,step (st xs.length c)=some (.inr (out c))):aay step (st 0 [])=some (out (xs.map g)):=by
 have h:=ai2 st xs (fun x=>[g x]) out 100000000 (fun i c hi hc=>hgo i c hi (by omega)) hend xs.length 0 [] (Nat.zero_add _) (by rw [List.drop_zero,aq8,List.length_map,List.length_nil];omega)
 rw [List.drop_zero,aq8,List.nil_append] at h
 exact h
theorem arl {σ τ:Type}{step:σ->Option (σ⊕τ)} (st:Nat->List PV->σ) (xs:List PV) (p:PV->Bool) (out:List PV->τ) (hl:xs.length<=10000000)
 (hgo:∀ i c,i<xs.length->c.length<=100000000->step (st i c)=some (.inl (st (i+1) (c++bif p (xs.getD i .bad) then [xs.getD i .bad] else []))))
 (hend:∀ c,step (st xs.length c)=some (.inr (out c))):aay step (st 0 [])=some (out (xs.filter p)):=by
 have h:=ai2 st xs (fun x=>bif p x then [x] else []) out 100000000 (fun i c hi hc=>hgo i c hi (by omega)) hend xs.length 0 [] (Nat.zero_add _) (by
  have:=List.length_filter_le p xs
  rw [List.drop_zero,azb,List.length_nil];omega)
 rw [List.drop_zero,azb,List.nil_append] at h
 exact h
theorem aff {σ τ:Type}{step:σ->Option (σ⊕τ)} (st:Nat->σ) (n:Nat) (y:τ) (h:∀ i,i<n->step (st i)=some (.inl (st (i+1)))) (he:step (st n)=some (.inr y)):aay step (st 0)=some y:=by
 have q:=afe st n (fun _=>false) (fun _=>y) y (fun i hi=>by rw [h i hi];rfl) he n 0 (Nat.zero_add _)
 rw [q]
 cases hf:fstI (fun _=>false) 0 n with
 | none=>rfl
 | some j=>have:=(aiu hf).2.2;cases this
theorem ama {σ τ β:Type}{step:σ->Option (σ⊕τ)} (st:Nat->σ) (xs:List PV) (f:PV->Option β) (hit:β->τ) (miss:τ)
 (hgo:∀ i,i<xs.length->step (st i)=some (match f (xs.getD i .bad) with | some y=>.inr (hit y) | none=>.inl (st (i+1)))) (hend:step (st xs.length)=some (.inr miss)):
 ∀ k i,i+k=xs.length->aay step (st i)=some (((xs.drop i).findSome? f).elim miss hit):=by
 intro k
 induction k with
 | zero=>
  intro i hi
  obtain rfl:i=xs.length:=by omega
  rw [aah hend]
  simp
 | succ k ih=>
  intro i hi
  have hil:i<xs.length:=by omega
  have hd:xs.drop i=xs.getD i .bad::xs.drop (i+1):=by rw [List.drop_eq_getElem_cons hil,aav hil]
  have h:=hgo i hil
  rw [hd,List.findSome?_cons]
  cases hf:f (xs.getD i .bad) with
  | some y=>rw [hf] at h;exact aah h
  | none=>rw [hf] at h;rw [aa0 h];exact ih (i+1) (by omega)
theorem aha {l:List PV}{i:Nat} (g:PV->PV) (h:i<l.length):(l.map g).getD i .bad=g (l.getD i .bad):=by
 rw [aav (by simpa using h),aav h,List.getElem_map]
end Go.Ab
namespace Go.Ab
open Go
set_option maxRecDepth 100000
def a5m (n:PV):Bool:=!((n.fld 0).asStr==[100,111,99])&&!((n.fld 0).asStr==[111,119,110,101,114])
def adw (l:List PV):List PV:=l.filter a5m
theorem ayk (l:List PV):(adw l).length<=l.length:=List.length_filter_le _ _
theorem ayl {l:List PV}{x:PV} (h:x∈adw l):x∈l:=(List.mem_filter.1 h).1
theorem ae0 {l:List PV} (hl:l.length<=1048576):F76 0 l=some (adw l):=by
 have h:aaf 0 (S76_4step 0) (l,[],(0:Int))=some (adw l):=arl (step:=S76_4step 0) (fun i c=>(l,c,((i:Nat):Int))) l a5m (fun c=>c) (by omega) (fun i c hi hc=>by
  simp only [S76_4step,S76_4,decL i _ hi,cond_true,aab,decide_eq_true hi,Int.toNat_natCast,aa4 i (by omega),af0 hc,al2,a5m]
  cases ((l.getD i .bad).fld 0).asStr==[100,111,99]<;>cases ((l.getD i .bad).fld 0).asStr==[111,119,110,101,114]<;>simp) (fun c=>by
  simp only [S76_4step,S76_4,decN,cond_false])
 unfold F76
 rw [h];rfl
def ofF (f:PV):PV:=PV.agg [(PV.int (f.fld 0).asInt),(PV.str (f.fld 1).asStr),(PV.int (f.fld 2).asInt),(PV.int (f.fld 3).asInt),f.fld 4,(PV.str (f.fld 5).asStr),(PV.bool (f.fld 6).asBool),f.fld 7,(PV.slice (adw (f.fld 8).asList))]
def ofI (f:PV):PV:=PV.agg [(PV.str (f.fld 0).asStr),(PV.int (f.fld 1).asInt),(PV.slice (adw (f.fld 2).asList))]
def ofT (f:PV):PV:=PV.agg [(PV.str (f.fld 0).asStr),(PV.str (f.fld 1).asStr),(PV.str (f.fld 2).asStr),(PV.int (f.fld 3).asInt),(PV.slice (adw (f.fld 4).asList))]
def ofM (m:PV):PV:=PV.agg [(PV.str (m.fld 0).asStr),(PV.slice ((m.fld 1).asList.map ofF)),(PV.slice (m.fld 2).asList),(PV.slice (m.fld 3).asList),(PV.slice (adw (m.fld 4).asList))]
def ofE (m:PV):PV:=PV.agg [(PV.str (m.fld 0).asStr),(PV.bool (m.fld 1).asBool),(PV.slice ((m.fld 2).asList.map ofI)),(PV.slice (m.fld 3).asList),(PV.slice (adw (m.fld 4).asList))]
def ofV (m:PV):PV:=PV.agg [(PV.str (m.fld 0).asStr),(PV.slice ((m.fld 1).asList.map ofT)),(PV.slice (adw (m.fld 2).asList))]
def ofS (s:PV):PV:=PV.agg [(PV.slice ((s.fld 0).asList.map ofM)),(PV.slice ((s.fld 1).asList.map ofE)),(PV.slice ((s.fld 2).asList.map ofV))]
theorem a7j {m:PV} (h:OkMsg m):F49 0 m=some (ofM m):=by
 have hf:=h.fields
 unfold F49
 rw [ae0 h.notes,Option.bind_some]
 generalize hy:adw (m.fld 4).asList=y
 have e:aaf 0 (S49_4step 0) ((),(),(),(0:Int),(m.fld 0).asStr,(m.fld 1).asList,(m.fld 2).asList,(m.fld 3).asList,(m.fld 4).asList,([]:List UInt8),[],[],[],[],((m.fld 0).asStr),[],((m.fld 2).asList),((m.fld 3).asList),y)=_:=acs (step:=S49_4step 0) (fun i c=>((),(),(),((i:Nat):Int),(m.fld 0).asStr,(m.fld 1).asList,(m.fld 2).asList,(m.fld 3).asList,(m.fld 4).asList,([]:List UInt8),[],[],[],[],((m.fld 0).asStr),c,((m.fld 2).asList),((m.fld 3).asList),y)) (m.fld 1).asList ofF
  (fun c=>((),(),(m.fld 0).asStr,(m.fld 1).asList,(m.fld 2).asList,(m.fld 3).asList,(m.fld 4).asList,([]:List UInt8),[],[],[],[],((m.fld 0).asStr),c,((m.fld 2).asList),((m.fld 3).asList),y)) (by omega) (fun i c hi hc=>by
  have hn:=(h.field _ (abb hi)).notes
  simp only [S49_4step,S49_4,decL i _ hi,cond_true,aab,decide_eq_true hi,Int.toNat_natCast,ae0 hn,Option.bind_some,aa4 i (by omega),af0 hc]
  rfl) (fun c=>by
  simp only [S49_4step,S49_4,decN,cond_false])
 rw [e,Option.bind_some]
 unfold ofM
 rw [hy]
theorem a7g {m:PV} (h:OkEnum m):F50 0 m=some (ofE m):=by
 have hf:=h.items
 unfold F50
 rw [ae0 h.notes,Option.bind_some]
 generalize hy:adw (m.fld 4).asList=y
 have e:aaf 0 (S50_4step 0) ((),(),(),(0:Int),(m.fld 0).asStr,(m.fld 1).asBool,(m.fld 2).asList,(m.fld 3).asList,(m.fld 4).asList,([]:List UInt8),false,[],[],[],((m.fld 0).asStr),((m.fld 1).asBool),[],((m.fld 3).asList),y)=_:=acs (step:=S50_4step 0) (fun i c=>((),(),(),((i:Nat):Int),(m.fld 0).asStr,(m.fld 1).asBool,(m.fld 2).asList,(m.fld 3).asList,(m.fld 4).asList,([]:List UInt8),false,[],[],[],((m.fld 0).asStr),((m.fld 1).asBool),c,((m.fld 3).asList),y)) (m.fld 2).asList ofI
  (fun c=>((),(),(m.fld 0).asStr,(m.fld 1).asBool,(m.fld 2).asList,(m.fld 3).asList,(m.fld 4).asList,([]:List UInt8),false,[],[],[],((m.fld 0).asStr),((m.fld 1).asBool),c,((m.fld 3).asList),y)) (by omega) (fun i c hi hc=>by
  have hn:=(h.item _ (abb hi)).notes
  simp only [S50_4step,S50_4,decL i _ hi,cond_true,aab,decide_eq_true hi,Int.toNat_natCast,ae0 hn,Option.bind_some,aa4 i (by omega),af0 hc]
  rfl) (fun c=>by
  simp only [S50_4step,S50_4,decN,cond_false])
 rw [e,Option.bind_some]
 unfold ofE
 rw [hy]
theorem a7k {m:PV} (h:OkSvc m):F51 0 m=some (ofV m):=by
 have hf:=h.meths
 unfold F51
 rw [ae0 h.notes,Option.bind_some]
 generalize hy:adw (m.fld 2).asList=y
 have e:aaf 0 (S51_4step 0) ((),(),(),(0:Int),(m.fld 0).asStr,(m.fld 1).asList,(m.fld 2).asList,([]:List UInt8),[],[],((m.fld 0).asStr),[],y)=_:=acs (step:=S51_4step 0) (fun i c=>((),(),(),((i:Nat):Int),(m.fld 0).asStr,(m.fld 1).asList,(m.fld 2).asList,([]:List UInt8),[],[],((m.fld 0).asStr),c,y)) (m.fld 1).asList ofT
  (fun c=>((),(),(m.fld 0).asStr,(m.fld 1).asList,(m.fld 2).asList,([]:List UInt8),[],[],((m.fld 0).asStr),c,y)) (by omega) (fun i c hi hc=>by
  have hn:=(h.meth _ (abb hi)).notes
  simp only [S51_4step,S51_4,decL i _ hi,cond_true,aab,decide_eq_true hi,Int.toNat_natCast,ae0 hn,Option.bind_some,aa4 i (by omega),af0 hc]
  rfl) (fun c=>by
  simp only [S51_4step,S51_4,decN,cond_false])
 rw [e,Option.bind_some]
 unfold ofV
 rw [hy]
theorem a4k {s:PV}{b:Bool} (h:SOk s) (hv:F36 0 s=some b):F38 0 s=some (bif b then ofS s else s):=by
 have l0:=h.len.m;have l1:=h.len.e;have l2:=h.len.v
 unfold F38
 rw [hv,Option.bind_some]
 cases b with
 | false=>rfl
 | true=>
  have h0:=h.msg;have h1:=h.enum;have h2:=h.svc
  unfold ofS
  generalize (s.fld 0).asList=A0 at*
  generalize (s.fld 1).asList=A1 at*
  generalize (s.fld 2).asList=A2 at*
  have e1:aaf 0 (S38_6step 0) ((),(),(),(0:Int),A0,A1,A2,[],[],[],[],[],[])=_:=acs (step:=S38_6step 0) (fun i c=>((),(),(),((i:Nat):Int),A0,A1,A2,[],[],[],c,[],[])) A0 ofM (fun c=>((),(),(),A0,A1,A2,[],[],[],c,[],[])) (by omega) (fun i c hi hc=>by
   simp only [S38_6step,S38_6,decL i _ hi,cond_true,aab,decide_eq_true hi,Int.toNat_natCast,a7j (h0 _ (abb hi)),Option.bind_some,aa4 i (by omega),af0 hc]) (fun c=>by
   simp only [S38_6step,S38_6,decN,cond_false])
  have e2:aaf 0 (S38_10step 0) ((),(),(),(0:Int),A0,A1,A2,[],[],[],A0.map ofM,[],[])=_:=acs (step:=S38_10step 0) (fun i c=>((),(),(),((i:Nat):Int),A0,A1,A2,[],[],[],A0.map ofM,c,[])) A1 ofE (fun c=>((),(),(),A0,A1,A2,[],[],[],A0.map ofM,c,[])) (by omega) (fun i c hi hc=>by
   simp only [S38_10step,S38_10,decL i _ hi,cond_true,aab,decide_eq_true hi,Int.toNat_natCast,a7g (h1 _ (abb hi)),Option.bind_some,aa4 i (by omega),af0 hc]) (fun c=>by
   simp only [S38_10step,S38_10,decN,cond_false])
  have e3:aaf 0 (S38_14step 0) ((),(),(),(0:Int),A0,A1,A2,[],[],[],A0.map ofM,A1.map ofE,[])=_:=acs (step:=S38_14step 0) (fun i c=>((),(),(),((i:Nat):Int),A0,A1,A2,[],[],[],A0.map ofM,A1.map ofE,c)) A2 ofV (fun c=>((),(),A0,A1,A2,[],[],[],A0.map ofM,A1.map ofE,c)) (by omega) (fun i c hi hc=>by
   simp only [S38_14step,S38_14,decL i _ hi,cond_true,aab,decide_eq_true hi,Int.toNat_natCast,a7k (h2 _ (abb hi)),Option.bind_some,aa4 i (by omega),af0 hc]) (fun c=>by
   simp only [S38_14step,S38_14,decN,cond_false])
  simp only [Bool.not_true,cond_false,cond_true]
  rw [e1,Option.bind_some]
  dsimp only
  rw [e2,Option.bind_some]
  dsimp only
  rw [e3,Option.bind_some]
def a2x (n:Int) (x:PV):Bool:=IntKind.wrap .u64 (x.fld 1).asInt==n
def apj (nm:List UInt8) (n:Int) (e:PV):Option PV:=bif (e.fld 0).asStr==nm then (e.fld 2).asList.findSome? (fun x=>bif a2x n x then some x else none) else none
def atm (es:List PV) (nm:List UInt8) (n:Int):List UInt8:=(es.findSome? (apj nm n)).elim [] fun x=>(x.fld 0).asStr
theorem a2w {s:PV}{nm:List UInt8}{n:Int} (hl:(s.fld 1).asList.length<=1048576) (hi:∀ e,e∈(s.fld 1).asList->(e.fld 2).asList.length<=1048576):F79 0 s nm n=some (atm (s.fld 1).asList nm n):=by
 have e1:aaf 0 (S79_3step 0) (nm,n,(),(0:Int),s)=some (((s.fld 1).asList.findSome? (apj nm n)).elim (.inr s) fun x=>.inl ((x.fld 0).asStr,s)):=by
  have h:=ama (step:=S79_3step 0) (fun i=>(nm,n,(),((i:Nat):Int),s)) (s.fld 1).asList (apj nm n) (fun x=>.inl ((x.fld 0).asStr,s)) (.inr s) (fun i hlt=>by
   have hm:=abb hlt
   have hil:=hi _ hm
   have q:aaf 0 (S79_6step 0) (nm,n,(),((i:Nat):Int),(0:Int),s)=some ((apj nm n ((s.fld 1).asList.getD i .bad)).elim (.inr (nm,n,(),((i:Nat):Int),s)) fun x=>.inl ((x.fld 0).asStr,s)):=by
    unfold apj
    cases hb:(((s.fld 1).asList.getD i .bad).fld 0).asStr==nm with
    | false=>
     refine aah ?_
     simp only [S79_6step,S79_6,aab,decide_eq_true hlt,cond_true,Int.toNat_natCast,hb,azk,cond_false]
     rfl
    | true=>
     have h2:=ama (step:=S79_6step 0) (fun k=>(nm,n,(),((i:Nat):Int),((k:Nat):Int),s)) ((((s.fld 1).asList.getD i .bad).fld 2).asList) (fun x=>bif a2x n x then some x else none) (fun x=>.inl ((x.fld 0).asStr,s)) (.inr (nm,n,(),((i:Nat):Int),s)) (fun k hk=>by
      simp only [S79_6step,S79_6,aab,decide_eq_true hlt,cond_true,Int.toNat_natCast,hb,af5,decL k _ hk,decide_eq_true hk,aa4 k (by omega),a2x]
      cases IntKind.wrap .u64 (((((s.fld 1).asList.getD i .bad).fld 2).asList.getD k .bad).fld 1).asInt==n<;>rfl) (by
      simp only [S79_6step,S79_6,aab,decide_eq_true hlt,cond_true,Int.toNat_natCast,hb,af5,decN,cond_false]) _ 0 (Nat.zero_add _)
     rw [List.drop_zero] at h2
     exact h2
   simp only [S79_3step,S79_3,decL i _ hlt,cond_true]
   rw [q,Option.bind_some]
   cases apj nm n ((s.fld 1).asList.getD i .bad) with
   | some x=>rfl
   | none=>simp only [Option.elim,ab0,aa4 i (show i<=1000000000000 by omega)]) (by
   simp only [S79_3step,S79_3,decN,cond_false]) _ 0 (Nat.zero_add _)
  rw [List.drop_zero] at h
  exact h
 unfold F79 atm
 rw [e1,Option.bind_some]
 cases (s.fld 1).asList.findSome? (apj nm n)<;>rfl
theorem azq {es:List PV}{nm:List UInt8}{n:Int} (h:∀ e,e∈es->∀ x,x∈(e.fld 2).asList->(x.fld 0).asStr.length<=1048576):(atm es nm n).length<=1048576:=by
 unfold atm
 cases hf:es.findSome? (apj nm n) with
 | none=>simp
 | some x=>
  obtain ⟨e,he,h1⟩:=List.exists_of_findSome?_eq_some hf
  unfold apj at h1
  cases hb:(e.fld 0).asStr==nm with
  | false=>rw [hb] at h1;cases h1
  | true=>
   rw [hb,cond_true] at h1
   obtain ⟨y,hy,h2⟩:=List.exists_of_findSome?_eq_some h1
   cases hp:a2x n y with
   | false=>rw [hp] at h2;cases h2
   | true=>rw [hp] at h2;cases h2;exact h e he _ hy
def fk9 (f:PV):Bool:=((f.fld 4).fld 0).asInt==(9:Int)
def fk10 (f:PV):Bool:=((f.fld 4).fld 0).asInt==(10:Int)
def a5d (es:List PV) (f:PV):PV:=PV.agg [(PV.int (9:Int)),(PV.int (0:Int)),(PV.str (atm es ((f.fld 4).fld 1).asStr ((f.fld 7).fld 1).asInt)),(PV.slice []),(PV.slice []),(PV.slice []),(PV.slice [])]
def a5e (f:PV):PV:=PV.agg [(PV.int (0:Int)),(PV.str (([46]:List UInt8)++((f.fld 4).fld 1).asStr))]
def atd (es:List PV) (f:PV):PV:=
 bif (bif fk9 f then (f.fld 6).asBool else false)||(bif fk9 f then true else fk10 f) then
  PV.agg [(PV.int (f.fld 0).asInt),(PV.str (f.fld 1).asStr),(PV.int (f.fld 2).asInt),(PV.int (f.fld 3).asInt),(bif (bif fk9 f then true else fk10 f) then a5e f else f.fld 4),(PV.str (f.fld 5).asStr),(PV.bool (f.fld 6).asBool),(bif (bif fk9 f then (f.fld 6).asBool else false) then a5d es f else f.fld 7),(PV.slice (f.fld 8).asList)]
 else f
def awv (f:PV):PV:=PV.agg [(PV.str (f.fld 0).asStr),(PV.str (([46]:List UInt8)++(f.fld 1).asStr)),(PV.str (([46]:List UInt8)++(f.fld 2).asStr)),(PV.int (f.fld 3).asInt),(PV.slice (f.fld 4).asList)]
def a2m (es:List PV) (m:PV):PV:=PV.agg [(PV.str (m.fld 0).asStr),(PV.slice ((m.fld 1).asList.map (atd es))),(PV.slice (m.fld 2).asList),(PV.slice (m.fld 3).asList),(PV.slice (m.fld 4).asList)]
def ay8 (m:PV):PV:=PV.agg [(PV.str (m.fld 0).asStr),(PV.slice ((m.fld 1).asList.map awv)),(PV.slice (m.fld 2).asList)]
def apa (s:PV):PV:=PV.agg [(PV.str ([]:List UInt8)),(PV.str ([]:List UInt8)),(PV.slice []),(PV.slice ((s.fld 0).asList.map (a2m (s.fld 1).asList))),(PV.slice (s.fld 1).asList),(PV.slice ((s.fld 2).asList.map ay8))]
theorem a5a {α:Type}{a:List UInt8}{X:Option α} (h:a.length<=100000000):(bif decide (([46]:List UInt8).length+a.length<=aad) then X else none)=X:=by
 rw [decide_eq_true (show ([46]:List UInt8).length+a.length<=aad by simp;unfold aad;omega)];rfl
theorem aww {s:PV}{a1 a2 a7 a8 a13 b0:List UInt8}{a3 a4 a5 a6 a9 a10 a11 a12 fs a15 a16 a17 b2 b3 b4:List PV}{j:Int} (hs:SOk s) (hl:fs.length<=1048576) (hf:∀ f,f∈fs->OkFld f):
 aaf 0 (S53_9step 0) ((),(),(),j,(),(),(0:Int),s,a1,a2,a3,a4,a5,a6,a7,a8,a9,a10,a11,a12,a13,fs,a15,a16,a17,b0,[],b2,b3,b4)=some ((),(),(),j,(),s,a1,a2,a3,a4,a5,a6,a7,a8,a9,a10,a11,a12,a13,fs,a15,a16,a17,b0,fs.map (atd (s.fld 1).asList),b2,b3,b4):=
 acs (step:=S53_9step 0) (fun i c=>((),(),(),j,(),(),((i:Nat):Int),s,a1,a2,a3,a4,a5,a6,a7,a8,a9,a10,a11,a12,a13,fs,a15,a16,a17,b0,c,b2,b3,b4)) fs (atd (s.fld 1).asList) (fun c=>((),(),(),j,(),s,a1,a2,a3,a4,a5,a6,a7,a8,a9,a10,a11,a12,a13,fs,a15,a16,a17,b0,c,b2,b3,b4)) (by omega) (fun i c hi hc=>by
  have ho:=hf _ (abb hi)
  have ht:=ho.type
  have hit:F79 0 s (((fs.getD i .bad).fld 4).fld 1).asStr (((fs.getD i .bad).fld 7).fld 1).asInt=_:=a2w hs.len.e (fun e he=>(hs.enum e he).items)
  simp only [S53_9step,S53_9,decL i _ hi,cond_true,aab,decide_eq_true hi,Int.toNat_natCast,hit,Option.bind_some,aa4 i (by omega),af0 hc,a5a (show (((fs.getD i .bad).fld 4).fld 1).asStr.length<=100000000 by omega),atd,fk9,fk10,a5d,a5e]
  cases ((((fs.getD i .bad).fld 4).fld 0).asInt==(9:Int))<;>cases ((((fs.getD i .bad).fld 4).fld 0).asInt==(10:Int))<;>cases ((fs.getD i .bad).fld 6).asBool<;>rfl) (fun c=>by
  simp only [S53_9step,S53_9,decN,cond_false])
theorem awx {s:PV}{a1 a2 a7 a8 a13 b0:List UInt8}{a3 a4 a5 a6 a9 a10 a11 a12 fs a15 b2:List PV}{j:Int} (hl:fs.length<=1048576) (hf:∀ f,f∈fs->OkMeth f):
 aaf 0 (S53_24step 0) ((),(),(),j,(),(),(0:Int),s,a1,a2,a3,a4,a5,a6,a7,a8,a9,a10,a11,a12,a13,fs,a15,b0,[],b2)=some ((),(),(),j,(),s,a1,a2,a3,a4,a5,a6,a7,a8,a9,a10,a11,a12,a13,fs,a15,b0,fs.map awv,b2):=
 acs (step:=S53_24step 0) (fun i c=>((),(),(),j,(),(),((i:Nat):Int),s,a1,a2,a3,a4,a5,a6,a7,a8,a9,a10,a11,a12,a13,fs,a15,b0,c,b2)) fs awv (fun c=>((),(),(),j,(),s,a1,a2,a3,a4,a5,a6,a7,a8,a9,a10,a11,a12,a13,fs,a15,b0,c,b2)) (by omega) (fun i c hi hc=>by
  have ho:=hf _ (abb hi)
  have h1:=ho.inn;have h2:=ho.out
  simp only [S53_24step,S53_24,decL i _ hi,cond_true,aab,decide_eq_true hi,Int.toNat_natCast,aa4 i (by omega),af0 hc,a5a (show ((fs.getD i .bad).fld 1).asStr.length<=100000000 by omega),a5a (show ((fs.getD i .bad).fld 2).asStr.length<=100000000 by omega),awv]) (fun c=>by
  simp only [S53_24step,S53_24,decN,cond_false])
theorem a2k {s:PV} (h:SOk s):F53 0 s=some (apa s):=by
 have l0:=h.len.m;have l1:=h.len.e;have l2:=h.len.v
 have e1:aaf 0 (S53_4step 0) ((),(),(),(0:Int),s,([]:List UInt8),([]:List UInt8),[],[],[],[],([]:List UInt8),([]:List UInt8),[],[],((s.fld 1).asList),[])=_:=acs (step:=S53_4step 0) (fun i c=>((),(),(),((i:Nat):Int),s,([]:List UInt8),([]:List UInt8),[],[],[],[],([]:List UInt8),([]:List UInt8),[],c,((s.fld 1).asList),[])) (s.fld 0).asList (a2m (s.fld 1).asList) (fun c=>((),(),(),s,([]:List UInt8),([]:List UInt8),[],[],[],[],([]:List UInt8),([]:List UInt8),[],c,((s.fld 1).asList),[])) (by omega) (fun i c hi hc=>by
  have ho:=h.msg _ (abb hi)
  simp only [S53_4step,S53_4,decL i _ hi,cond_true,aab,decide_eq_true hi,Int.toNat_natCast,aww h ho.fields ho.field,Option.bind_some,aa4 i (by omega),af0 hc,a2m]) (fun c=>by
  simp only [S53_4step,S53_4,decN,cond_false])
 have e2:∀ M:List PV,aaf 0 (S53_19step 0) ((),(),(),(0:Int),s,([]:List UInt8),([]:List UInt8),[],[],[],[],([]:List UInt8),([]:List UInt8),[],M,((s.fld 1).asList),[])=some ((),(),s,([]:List UInt8),([]:List UInt8),[],[],[],[],([]:List UInt8),([]:List UInt8),[],M,((s.fld 1).asList),(s.fld 2).asList.map ay8):=fun M=>acs (step:=S53_19step 0) (fun i c=>((),(),(),((i:Nat):Int),s,([]:List UInt8),([]:List UInt8),[],[],[],[],([]:List UInt8),([]:List UInt8),[],M,((s.fld 1).asList),c)) (s.fld 2).asList ay8 (fun c=>((),(),s,([]:List UInt8),([]:List UInt8),[],[],[],[],([]:List UInt8),([]:List UInt8),[],M,((s.fld 1).asList),c)) (by omega) (fun i c hi hc=>by
  have ho:=h.svc _ (abb hi)
  simp only [S53_19step,S53_19,decL i _ hi,cond_true,aab,decide_eq_true hi,Int.toNat_natCast,awx ho.meths ho.meth,Option.bind_some,aa4 i (by omega),af0 hc,ay8]) (fun c=>by
  simp only [S53_19step,S53_19,decN,cond_false])
 unfold F53 apa
 rw [e1,Option.bind_some]
 dsimp only
 rw [e2,Option.bind_some]
theorem lmem {l:List PV}{g:PV->PV}{x:PV} (h:x∈l.map g):∃ y,y∈l/\x=g y:=by
 obtain ⟨y,hy,e⟩:=List.mem_map.1 h
 exact ⟨y,hy,e.symm⟩
theorem acx {l:List PV} (h:l.length<=1048576) (hn:∀ n,n∈l->acv n):(adw l).length<=1048576/\∀ n,n∈adw l->acv n:=⟨Nat.le_trans (ayk l) h,fun n hm=>hn n (ayl hm)⟩
theorem a4i {f:PV} (h:OkFld f):OkFld (ofF f):=⟨h.name,h.type,h.union,h.dflt,(acx h.notes h.note).1,(acx h.notes h.note).2⟩
theorem a7i {f:PV} (h:OkItem f):OkItem (ofI f):=⟨h.name,(acx h.notes h.note).1,(acx h.notes h.note).2⟩
theorem a4m {f:PV} (h:OkMeth f):OkMeth (ofT f):=⟨h.name,h.inn,h.out,(acx h.notes h.note).1,(acx h.notes h.note).2⟩
theorem ahu {l:List PV}{g:PV->PV}{n:Nat} (h:l.length<=n):(l.map g).length<=n:=by rw [List.length_map];exact h
theorem a4j {m:PV} (h:OkMsg m):OkMsg (ofM m):=⟨h.name,ahu h.fields,fun x hx=>by
 obtain ⟨y,hy,rfl⟩:=lmem hx
 exact a4i (h.field y hy),h.spans,h.gone,h.goneS,(acx h.notes h.note).1,(acx h.notes h.note).2⟩
theorem a7h {m:PV} (h:OkEnum m):OkEnum (ofE m):=⟨h.name,ahu h.items,fun x hx=>by
 obtain ⟨y,hy,rfl⟩:=lmem hx
 exact a7i (h.item y hy),h.spans,(acx h.notes h.note).1,(acx h.notes h.note).2⟩
theorem a4n {m:PV} (h:OkSvc m):OkSvc (ofV m):=⟨h.name,ahu h.meths,fun x hx=>by
 obtain ⟨y,hy,rfl⟩:=lmem hx
 exact a4m (h.meth y hy),(acx h.notes h.note).1,(acx h.notes h.note).2⟩
theorem a4l {s:PV} (h:SOk s):SOk (ofS s):=⟨⟨ahu h.len.m,ahu h.len.e,ahu h.len.v⟩,fun x hx=>by
 obtain ⟨y,hy,rfl⟩:=lmem hx
 exact a4j (h.msg y hy),fun x hx=>by
 obtain ⟨y,hy,rfl⟩:=lmem hx
 exact a7h (h.enum y hy),fun x hx=>by
 obtain ⟨y,hy,rfl⟩:=lmem hx
 exact a4n (h.svc y hy)⟩
theorem a3c {v x:PV} (h:x∈v.asList):aam x+1<=aam v:=by
 cases v with
 | slice l=>have:=adh (show x∈l from h);simp only [aam];omega
 | _=>cases h
theorem aef {v x:PV}{i:Nat} (h:x∈(v.fld i).asList):aam x+1<=aam v:=Nat.le_trans (a3c h) (abo v i)
theorem auq (v:PV) (i:Nat):(v.fld i).asStr.length+1<=aam v:=Nat.le_trans (ao2 _) (abo v i)
theorem apz {i:Nat}:∀ l:List PV,acu l i<=aaw l:=by
 intro l
 induction l with
 | nil=>exact Nat.le_refl _
 | cons m r ih=>
  have h1:=ad9 (m.fld i)
  have h2:=abo m i
  have h3:acu (m::r) i=(m.fld i).asList.length+1+acu r i:=rfl
  simp only [aaw]
  omega
theorem agt {i j:Nat}{g:PV->PV} (hg:∀ m,((g m).fld i).asList.length=(m.fld j).asList.length):∀ l:List PV,acu (l.map g) i=acu l j:=by
 intro l
 induction l with
 | nil=>rfl
 | cons m r ih=>
  have h3:acu ((m::r).map g) i=((g m).fld i).asList.length+1+acu (r.map g) i:=rfl
  have h4:acu (m::r) j=(m.fld j).asList.length+1+acu r j:=rfl
  rw [h3,h4,hg,ih]
theorem a2l {es:List PV}{f:PV} (h:OkFld f) (ht:((f.fld 4).fld 1).asStr.length+1<=1048576) (hi:∀ n b,(atm es n b).length<=1048576):OkFld (atd es f):=by
 unfold atd
 cases (bif fk9 f then (f.fld 6).asBool else false)||(bif fk9 f then true else fk10 f) with
 | false=>exact h
 | true=>
  refine ⟨h.name,?_,h.union,?_,h.notes,h.note⟩
  ·show ((bif (bif fk9 f then true else fk10 f) then a5e f else f.fld 4).fld 1).asStr.length<=1048576
   cases (bif fk9 f then true else fk10 f) with
   | true=>show (([46]:List UInt8)++((f.fld 4).fld 1).asStr).length<=1048576;rw [List.length_append];simp;omega
   | false=>exact h.type
  ·show adu (bif (bif fk9 f then (f.fld 6).asBool else false) then a5d es f else f.fld 7)
   cases (bif fk9 f then (f.fld 6).asBool else false) with
   | true=>exact ⟨show (0:Nat)<=1048576 by omega,hi _ _,show (0:Int)<=0 by omega,show (0:Int)<18446744073709551616 by omega⟩
   | false=>exact h.dflt
theorem a2n {f:PV} (h:OkMeth f) (h1:(f.fld 1).asStr.length+1<=1048576) (h2:(f.fld 2).asStr.length+1<=1048576):OkMeth (awv f):=by
 refine ⟨h.name,?_,?_,h.notes,h.note⟩
 ·show (([46]:List UInt8)++(f.fld 1).asStr).length<=1048576;rw [List.length_append];simp;omega
 ·show (([46]:List UInt8)++(f.fld 2).asStr).length<=1048576;rw [List.length_append];simp;omega
theorem ay7 {s:PV} (h:SOk s) (hb:aam s<=1048576):OkFile (apa (ofS s)):=by
 have ho:=a4l h
 have hit:∀ n b,(atm ((ofS s).fld 1).asList n b).length<=1048576:=fun n b=>azq fun e he x hx=>((ho.enum e he).item x hx).name
 refine ⟨show (0:Nat)<=1048576 by omega,show (0:Nat)<=1048576 by omega,fun x hx=>absurd hx (by show ¬x∈([]:List PV);simp),?_,fun x hx=>?_,ho.len.e,ho.enum,?_,fun x hx=>?_,?_⟩
 ·exact ahu ho.len.m
 ·obtain ⟨y,hy,rfl⟩:=lmem hx
  obtain ⟨m,hm,rfl⟩:=lmem hy
  have om:=a4j (h.msg m hm)
  refine ⟨om.name,ahu om.fields,fun z hz=>?_,om.spans,om.gone,om.goneS,om.notes,om.note⟩
  obtain ⟨f,hf,rfl⟩:=lmem hz
  obtain ⟨g,hg,rfl⟩:=lmem hf
  refine a2l (a4i ((h.msg m hm).field g hg)) ?_ hit
  have b1:=aef hm
  have b2:=aef hg
  have b3:=abo g 4
  have b4:=auq (g.fld 4) 1
  show ((g.fld 4).fld 1).asStr.length+1<=1048576
  omega
 ·exact ahu ho.len.v
 ·obtain ⟨y,hy,rfl⟩:=lmem hx
  obtain ⟨m,hm,rfl⟩:=lmem hy
  have om:=a4n (h.svc m hm)
  refine ⟨om.name,ahu om.meths,fun z hz=>?_,om.notes,om.note⟩
  obtain ⟨f,hf,rfl⟩:=lmem hz
  obtain ⟨g,hg,rfl⟩:=lmem hf
  have b1:=aef hm
  have b2:=aef hg
  have b3:=auq g 1
  have b4:=auq g 2
  refine a2n (a4m ((h.svc m hm).meth g hg)) ?_ ?_
  ·show (g.fld 1).asStr.length+1<=1048576;omega
  ·show (g.fld 2).asStr.length+1<=1048576;omega
 ·have e1:acu ((apa (ofS s)).fld 3).asList 1=acu (s.fld 0).asList 1:=by
   show acu (((s.fld 0).asList.map ofM).map (a2m ((ofS s).fld 1).asList)) 1=_
   rw [agt (j:=1) (fun m=>by show ((m.fld 1).asList.map (atd ((ofS s).fld 1).asList)).length=_;rw [List.length_map]),agt (j:=1) (fun m=>by show ((m.fld 1).asList.map ofF).length=_;rw [List.length_map])]
  have e2:acu ((apa (ofS s)).fld 4).asList 2=acu (s.fld 1).asList 2:=by
   show acu ((s.fld 1).asList.map ofE) 2=_
   rw [agt (j:=2) (fun m=>by show ((m.fld 2).asList.map ofI).length=_;rw [List.length_map])]
  have e3:acu ((apa (ofS s)).fld 5).asList 1=acu (s.fld 2).asList 1:=by
   show acu (((s.fld 2).asList.map ofV).map ay8) 1=_
   rw [agt (j:=1) (fun m=>by show ((m.fld 1).asList.map awv).length=_;rw [List.length_map]),agt (j:=1) (fun m=>by show ((m.fld 1).asList.map ofT).length=_;rw [List.length_map])]
  have hb':∀ k,aaw (s.fld k).asList<=1048576:=fun k=>by
   have h1:=ae2 (s.fld k)
   have h2:=abo s k
   omega
  have p0:=apz (i:=1) (s.fld 0).asList
  have p1:=apz (i:=2) (s.fld 1).asList
  have p2:=apz (i:=1) (s.fld 2).asList
  have q0:=hb' 0;have q1:=hb' 1;have q2:=hb' 2
  rw [e1,e2,e3]
  omega
noncomputable def canT (s:PV):List UInt8:=bif chkF (apa (ofS s)) != 0 then [] else ani (apa (ofS s))
theorem a2a {f:PV} (h:chkF f=0):(ani f).length<=16384:=by
 unfold chkF at h
 cases h1:aoe f<;>rw [h1] at h
 ·cases h
 cases h2:agf f<;>rw [h2] at h
 ·cases h
 cases h3:asp f<;>rw [h3] at h
 ·cases h
 simp only [Bool.not_true,cond_false] at h
 by_cases hn:aes f=0
 ·have e2:(aes f != (0:Int))=false:=by rw [hn];rfl
  rw [e2,cond_false] at h
  cases h4:agi f<;>rw [h4] at h
  ·cases h
  simp only [Bool.not_true,cond_false] at h
  by_cases hl:((ani f).length:Int)>16384
  ·rw [decide_eq_true hl] at h;cases h
  ·omega
 ·have e2:(aes f != (0:Int))=true:=bneI hn
  rw [e2,cond_true] at h
  exact absurd h hn
theorem a1y (s:PV):(canT s).length<=16384:=by
 unfold canT
 cases h:chkF (apa (ofS s)) != 0 with
 | true=>simp
 | false=>exact a2a (by simpa using h)
theorem an8 {s:PV}{b:Bool} (h:SOk s) (hb:aam s<=1048576) (hv:F36 0 s=some b):F39 0 s=some (bif b then canT s else []):=by
 unfold F39
 rw [hv,Option.bind_some]
 cases b with
 | false=>rfl
 | true=>
  simp only [Bool.not_true,cond_false]
  rw [a4k h hv,Option.bind_some,cond_true,a2k (a4l h),Option.bind_some,aue _ (ay7 h hb),Option.bind_some]
  rfl
theorem a5f {t:List UInt8} (h:t.length<=1000000):Ret (F46 0 t) fun _=>True:=by
 obtain ⟨r,h1,_⟩:=acd (step:=S46_4step 0) (fun i (a:Int)=>(t,a,((i:Nat):Int))) t.length (fun a=>a) (fun _ _=>True) (fun i a hi _=>by
  simp only [S46_4step,S46_4,decL i _ hi,cond_true,aab,decide_eq_true hi,Int.toNat_natCast,aa4 i (by omega)]
  exact ⟨_,rfl,trivial⟩) (fun a _=>by
  simp only [S46_4step,S46_4,decN,cond_false]) t.length 0 (14695981039346656037:Int) (Nat.zero_add _) trivial
 have h1':aaf 0 (S46_4step 0) (t,(14695981039346656037:Int),(0:Int))=some r:=h1
 unfold F46
 rw [h1']
 exact ⟨_,rfl,trivial⟩
theorem a0p {s:PV} (h:SOk s) (hb:aam s<=1048576):Ret (F35 0 s) fun _=>True:=by
 obtain ⟨b,hv,_⟩:=asu h hb
 unfold F35
 rw [an8 h hb hv,Option.bind_some]
 refine aas (a5f ?_) fun y _ _=>aan _
 cases b with
 | false=>simp
 | true=>have:=a1y s;simp only [cond_true];omega
end Go.Ab
