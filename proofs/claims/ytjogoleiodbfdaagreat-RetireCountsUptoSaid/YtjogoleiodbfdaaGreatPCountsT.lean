/- What a value visits; what it uses is what is deprecated of that. -/
import Derived.Test.YtjogoleiodbfdaaGreatPUses5T
set_option linter.unusedVariables false
set_option linter.unusedSimpArgs false
set_option linter.unnecessarySimpa false
namespace Go.Ab
open Go
set_option maxRecDepth 100000
theorem a0f (l:List PV) (s:List UInt8) (h:l.length<=1048576):F64 0 l s=some (brk (fun i=>(l.getD i .bad).asStr==s) l.length):=by
 have h1:=aex (step:=S64_3step 0) (fun i=>(l,s,((i:Nat):Int))) l.length (fun i=>(l.getD i .bad).asStr==s) (.inl true) (.inr ()) (fun i hi=>by
  simp only [S64_3step,S64_3,decL i _ hi,cond_true,aaa,decide_eq_true hi,Int.toNat_natCast,aa5 i (by omega)]
  cases (l.getD i .bad).asStr==s<;>rfl) (by
  simp only [S64_3step,S64_3,decN,cond_false])
 have h2:aag 0 (S64_3step 0) (l,s,(0:Int))=_:=h1
 unfold F64
 rw [h2]
 cases brk (fun i=>(l.getD i .bad).asStr==s) l.length<;>rfl
theorem az4 (p:Nat->Bool):∀ (n i:Nat),allF p i n=true->∀ j,i<=j->j<i+n->p j=true:=by
 intro n
 induction n with
 | zero=>intro i _ j h1 h2;omega
 | succ n ih=>
  intro i h j h1 h2
  simp only [allF,Bool.and_eq_true] at h
  by_cases e:j=i
  ·subst e;exact h.1
  ·exact ih (i+1) h.2 j (by omega) (by omega)
theorem azq {p:Nat->Bool}{n:Nat} (h:brk p n=false):∀ j,j<n->p j=false:=by
 intro j hj
 unfold brk at h
 have h1:allF (fun i=>!p i) 0 n=true:=by simpa using h
 have:=az4 _ n 0 h1 j (Nat.zero_le _) (by omega)
 simpa using this
theorem a0l {a b:List PV} (ha:a.length<=1048576) (hb:b.length<=1048576) (h:F42 0 a b=some false):∀ x,x∈a->∀ y,y∈b->y.asStr≠x.asStr:=by
 have h1:=aex (step:=S42_3step 0) (fun i=>(a,b,((i:Nat):Int))) a.length (fun i=>brk (fun j=>(b.getD j .bad).asStr==(a.getD i .bad).asStr) b.length) (.inl true) (.inr ()) (fun i hi=>by
  simp only [S42_3step,S42_3,decL i _ hi,cond_true,aaa,decide_eq_true hi,Int.toNat_natCast,a0f b _ hb,Option.bind_some,aa5 i (by omega)]
  cases brk (fun j=>(b.getD j .bad).asStr==(a.getD i .bad).asStr) b.length<;>rfl) (by
  simp only [S42_3step,S42_3,decN,cond_false])
 have h2:aag 0 (S42_3step 0) (a,b,(0:Int))=_:=h1
 unfold F42 at h
 rw [h2] at h
 cases hq:brk (fun i=>brk (fun j=>(b.getD j .bad).asStr==(a.getD i .bad).asStr) b.length) a.length with
 | true=>rw [hq] at h;cases h
 | false=>
  intro x hx y hy e
  obtain ⟨i,hi,rfl⟩:=List.mem_iff_getElem.1 hx
  obtain ⟨j,hj,rfl⟩:=List.mem_iff_getElem.1 hy
  have:=azq (azq hq i hi) j hj
  rw [aaf hi,aaf hj,e] at this
  simp at this
theorem azp {a:PV} (ha:SOk a) (sa:SchemaV a):∀ m,m∈(a.fld 0).asList->∀ e,e∈(a.fld 1).asList->aak e≠aak m:=by
 intro m hm e he
 have h1:=ha.len.m;have h2:=ha.len.e
 exact a0l (by unfold nmL;rw [List.length_map];omega) (by unfold nmL;rw [List.length_map];omega) sa.meet (.str (m.fld 0).asStr) (List.mem_map.2 ⟨m,hm,rfl⟩) (.str (e.fld 0).asStr) (List.mem_map.2 ⟨e,he,rfl⟩)
theorem fpos {a:PV} (sa:SchemaV a) {m f:PV} (hm:m∈(a.fld 0).asList) (hf:f∈(m.fld 1).asList):1<=kNum f:=by
 obtain ⟨i,hi,rfl⟩:=List.mem_iff_getElem.1 hm
 obtain ⟨j,hj,rfl⟩:=List.mem_iff_getElem.1 hf
 have:=(sa.msg i hi)
 rw [aaf hi] at this
 have:=(this j hj).pos
 rw [aaf hj] at this
 exact this
theorem ac3 {κ:Type} [BEq κ] [LawfulBEq κ] {key:PV->κ}{k:κ}{l:List PV}{z:PV} (h:(dmem key k l z).2=true):(dmem key k l z).1∈l/\key (dmem key k l z).1=k:=by
 unfold dmem at*
 cases hf:fst key k l with
 | none=>rw [hf] at h;cases h
 | some x=>
  refine ⟨awj hf,?_⟩
  unfold fst at hf
  have:=List.find?_some hf
  exact eq_of_beq this
def visS (V:PV->PV->List UseT) (s:List UInt8) (m x:PV):List UseT:=(s,(x.fld 0).asInt,1)::V (dmem kNum (x.fld 0).asInt (m.fld 1).asList zFld).1 (x.fld 1)
def visM (V:PV->PV->List UseT) (s:List UInt8) (m v:PV):List UseT:=(s,-1,1)::(v.fld 5).asList.flatMap (visS V s m)
def visN (s:List UInt8) (v:PV):List UseT:=[(s,-1,1),(s,(v.fld 1).asInt,1)]
def visE (a:PV) (V:PV->PV->List UseT) (t v:PV):List UseT:=
 bif (t.fld 0).asInt==10 then visM V (t.fld 1).asStr (dmem aak (t.fld 1).asStr (a.fld 0).asList zMsg).1 v
 else bif (t.fld 0).asInt==9 then visN (t.fld 1).asStr v else []
def visD (a:PV) (V:PV->PV->List UseT) (f v:PV):List UseT:=
 bif (f.fld 2).asInt==4 then (v.fld 3).asList.flatMap (visE a V (f.fld 4))
 else bif (f.fld 2).asInt==5 then (v.fld 4).asList.flatMap (fun x=>visE a V (f.fld 4) (x.fld 1)) else visE a V (f.fld 4) v
def visF (a:PV):Nat->PV->PV->List UseT
 | 0=>fun _ _=>[]
 | k+1=>visD a (visF a k)
def afa (a:PV) (s:List UInt8) (n:Int):Bool:=
 bif (dmem aak s (a.fld 0).asList zMsg).2 then
  (bif n==-1 then adb ((dmem aak s (a.fld 0).asList zMsg).1.fld 4).asList else bif (dmem kNum n ((dmem aak s (a.fld 0).asList zMsg).1.fld 1).asList zFld).2 then adb ((dmem kNum n ((dmem aak s (a.fld 0).asList zMsg).1.fld 1).asList zFld).1.fld 8).asList else false)
 else
  (bif n==-1 then adb ((dmem aak s (a.fld 1).asList ab3).1.fld 4).asList else bif (dmem adk n ((dmem aak s (a.fld 1).asList ab3).1.fld 2).asList al9).2 then adb ((dmem adk n ((dmem aak s (a.fld 1).asList ab3).1.fld 2).asList al9).1.fld 2).asList else false)
def ag0 (a:PV) (u:UseT):Bool:=afa a u.1 u.2.1
theorem afb {p:UseT->Bool}{c d:PV->List UseT}:∀ {xs:List PV},(∀ x,x∈xs->c x=(d x).filter p)->xs.flatMap c=(xs.flatMap d).filter p
 | [],_=>rfl
 | x::r,h=>by
  rw [List.flatMap_cons,List.flatMap_cons,List.filter_append,h x (by simp),afb fun y hy=>h y (List.mem_cons_of_mem _ hy)]
theorem aiz {a:PV}{l:List PV}{s:List UInt8}{n:Int} (h:afa a s n=adb l) (r:List UseT):((s,n,1)::r).filter (ag0 a)=depU l s n++r.filter (ag0 a):=by
 rw [List.filter_cons]
 have:ag0 a (s,n,1)=adb l:=h
 rw [this]
 unfold depU
 cases adb l<;>rfl
theorem a1l {a:PV}{s:List UInt8} (h:(dmem aak s (a.fld 0).asList zMsg).2=true):afa a s (-1)=adb ((dmem aak s (a.fld 0).asList zMsg).1.fld 4).asList:=by
 unfold afa
 rw [h];rfl
theorem a1j {a:PV} (sa:SchemaV a) {s:List UInt8}{n:Int} (h:(dmem aak s (a.fld 0).asList zMsg).2=true) (hf:(dmem kNum n ((dmem aak s (a.fld 0).asList zMsg).1.fld 1).asList zFld).2=true):
 afa a s n=adb ((dmem kNum n ((dmem aak s (a.fld 0).asList zMsg).1.fld 1).asList zFld).1.fld 8).asList:=by
 obtain ⟨q1,q2⟩:=ac3 hf
 have hp:=fpos sa (ac3 h).1 q1
 have hn:(n==-1)=false:=by rw [<-q2];simp;omega
 unfold afa
 rw [h,hn,hf];rfl
theorem az0 {a:PV} (ha:SOk a) (sa:SchemaV a) {s:List UInt8} (h:(dmem aak s (a.fld 1).asList ab3).2=true):(dmem aak s (a.fld 0).asList zMsg).2=false:=by
 cases hm:(dmem aak s (a.fld 0).asList zMsg).2 with
 | false=>rfl
 | true=>
  obtain ⟨p1,p2⟩:=ac3 hm
  obtain ⟨q1,q2⟩:=ac3 h
  exact absurd (q2.trans p2.symm) (azp ha sa _ p1 _ q1)
theorem a1i {a:PV} (ha:SOk a) (sa:SchemaV a) {s:List UInt8} (h:(dmem aak s (a.fld 1).asList ab3).2=true):afa a s (-1)=adb ((dmem aak s (a.fld 1).asList ab3).1.fld 4).asList:=by
 unfold afa
 rw [az0 ha sa h];rfl
theorem a1k {a:PV} (ha:SOk a) (sa:SchemaV a) {s:List UInt8}{n:Int} (h:(dmem aak s (a.fld 1).asList ab3).2=true) (hn:0<=n):
 afa a s n=bif (dmem adk n ((dmem aak s (a.fld 1).asList ab3).1.fld 2).asList al9).2 then adb ((dmem adk n ((dmem aak s (a.fld 1).asList ab3).1.fld 2).asList al9).1.fld 2).asList else false:=by
 have hn:(n==-1)=false:=by simp;omega
 unfold afa
 rw [az0 ha sa h,hn];rfl
def FilF (a:PV) (k:Nat):Prop:=∀ f v,VOk v->fitF a k f v->useF a k f v=(visF a k f v).filter (ag0 a)
theorem filM {a:PV} (sa:SchemaV a) {k:Nat} (C:FilF a k) {s:List UInt8}{v:PV} (hv:VOk v) (hfit:fitM (fitF a k) (dmem aak s (a.fld 0).asList zMsg).1 v) (hf:(dmem aak s (a.fld 0).asList zMsg).2=true):
 useM (useF a k) s (dmem aak s (a.fld 0).asList zMsg).1 v=(visM (visF a k) s (dmem aak s (a.fld 0).asList zMsg).1 v).filter (ag0 a):=by
 unfold useM visM
 rw [aiz (a1l hf)]
 congr 1
 refine afb fun x hx=>?_
 obtain ⟨h1,h2⟩:=hfit.2 x hx
 unfold useS visS
 rw [h1,cond_true,aiz (a1j sa hf h1),C _ _ (hv.slot hx) h2]
 congr 2
 exact (ac3 h1).2
theorem filN {a:PV} (ha:SOk a) (sa:SchemaV a) {s:List UInt8}{v:PV} (hv:VOk v) (hf:(dmem aak s (a.fld 1).asList ab3).2=true):useN s (dmem aak s (a.fld 1).asList ab3).1 v=(visN s v).filter (ag0 a):=by
 have hb:0<=(v.fld 1).asInt:=by cases hv with | mk h=>exact h
 have he:=eu sa s
 have hE:=a1i ha sa hf
 have hI:=a1k ha sa hf hb
 generalize dmem aak s (a.fld 1).asList ab3=e at he hE hI hf ⊢
 unfold useN visN
 rw [aiz hE]
 congr 1
 have h1:(e.1.fld 2).asList.flatMap (useI s v)=(e.1.fld 2).asList.flatMap (fun it=>bif adk it==(v.fld 1).asInt then depU (it.fld 2).asList s (it.fld 1).asInt else []):=by
  have:∀ l:List PV,(∀ f,f∈l->0<=(f.fld 1).asInt/\(f.fld 1).asInt<=2147483647)->l.flatMap (useI s v)=l.flatMap (fun it=>bif adk it==(v.fld 1).asInt then depU (it.fld 2).asList s (it.fld 1).asInt else []):=by
   intro l
   induction l with
   | nil=>intro _;rfl
   | cons x r ih=>
    intro h
    have hx:=h x (by simp)
    rw [List.flatMap_cons,List.flatMap_cons,ih fun y hy=>h y (List.mem_cons_of_mem _ hy)]
    congr 1
    unfold useI
    rw [decide_eq_true hx.1,cond_true,a2g hx]
    rfl
  exact this _ he.rng
 rw [h1,akr (g:=fun it=>depU (it.fld 2).asList s (it.fld 1).asInt) (z:=al9) he.uq,List.filter_cons]
 have hu:ag0 a (s,(v.fld 1).asInt,1)=afa a s (v.fld 1).asInt:=rfl
 rw [hu,hI]
 cases hd:(dmem adk (v.fld 1).asInt (e.1.fld 2).asList al9).2 with
 | false=>rfl
 | true=>
  have hk:=(ac3 hd).2
  have hk:((dmem adk (v.fld 1).asInt (e.1.fld 2).asList al9).1.fld 1).asInt=(v.fld 1).asInt:=hk
  rw [cond_true,cond_true,hk]
  unfold depU
  cases adb ((dmem adk (v.fld 1).asInt (e.1.fld 2).asList al9).1.fld 2).asList<;>rfl
theorem filE {a:PV} (ha:SOk a) (sa:SchemaV a) {k:Nat} (C:FilF a k) {t v:PV} (hv:VOk v) (hfit:fitE a (fitF a k) t v):useE a (useF a k) t v=(visE a (visF a k) t v).filter (ag0 a):=by
 unfold useE visE
 by_cases h10:(t.fld 0).asInt=10
 ·have e10:((t.fld 0).asInt==10)=true:=by simp [h10]
  rw [e10]
  exact filM sa C hv (hfit.1 h10).1 (hfit.1 h10).2
 ·have e10:((t.fld 0).asInt==10)=false:=by simp [h10]
  rw [e10]
  by_cases h9:(t.fld 0).asInt=9
  ·have e9:((t.fld 0).asInt==9)=true:=by simp [h9]
   rw [e9]
   exact filN ha sa hv (hfit.2.1 h9).2
  ·have e9:((t.fld 0).asInt==9)=false:=by simp [h9]
   rw [e9];rfl
theorem filF {a:PV} (ha:SOk a) (sa:SchemaV a):∀ k,FilF a k
 | 0=>fun f v _ h=>h.elim
 | k+1=>fun f v hv hfit=>by
  have C:=filF ha sa k
  have hfit:fitD a (fitF a k) f v:=hfit
  show useD a (useF a k) f v=(visD a (visF a k) f v).filter (ag0 a)
  unfold useD visD
  by_cases c4:(f.fld 2).asInt=4
  ·have e4:((f.fld 2).asInt==4)=true:=by simp [c4]
   rw [e4]
   exact afb fun x hx=>filE ha sa C (hv.elem hx) ((hfit.1 c4).2 x hx)
  ·have e4:((f.fld 2).asInt==4)=false:=by simp [c4]
   rw [e4]
   by_cases c5:(f.fld 2).asInt=5
   ·have e5:((f.fld 2).asInt==5)=true:=by simp [c5]
    rw [e5]
    exact afb (c:=fun x:PV=>useE a (useF a k) (f.fld 4) (x.fld 1)) (d:=fun x:PV=>visE a (visF a k) (f.fld 4) (x.fld 1)) fun x hx=>filE ha sa C (hv.val hx) ((hfit.2.1 c5).2 x hx)
   ·have e5:((f.fld 2).asInt==5)=false:=by simp [c5]
    rw [e5]
    exact filE ha sa C hv (hfit.2.2 c4 c5)
theorem at7 {a:PV}:∀ k f v,VOk v->(visF a k f v).length<=2*aac v:=by
 have hM:∀ (V:PV->PV->List UseT),(∀ f x,VOk x->(V f x).length<=2*aac x)->∀ s m v,VOk v->(visM V s m v).length<=2*aac v:=by
  intro V hV s m v hv
  unfold visM
  rw [List.length_cons]
  have h2:=ada (c:=visS V s m) (xs:=(v.fld 5).asList) fun x hx=>by
   unfold visS
   have h3:=hV (dmem kNum (x.fld 0).asInt (m.fld 1).asList zFld).1 (x.fld 1) (hv.slot hx)
   have h5:aac (x.fld 1)+2<=aac x:=by cases hv with | mk _ _ _ _ _ _ _ h=>exact h x hx
   rw [List.length_cons];omega
  have h6:=acz v 5
  omega
 have hE:∀ (V:PV->PV->List UseT),(∀ f x,VOk x->(V f x).length<=2*aac x)->∀ t v,VOk v->(visE a V t v).length<=2*aac v:=by
  intro V hV t v hv
  unfold visE
  have hp:=aa7 v
  cases (t.fld 0).asInt==10 with
  | true=>exact hM V hV _ _ _ hv
  | false=>
   cases (t.fld 0).asInt==9 with
   | true=>show 2<=_;omega
   | false=>exact Nat.zero_le _
 intro k
 induction k with
 | zero=>intro f v _;exact Nat.zero_le _
 | succ k ih=>
  intro f v hv
  show (visD a (visF a k) f v).length<=_
  unfold visD
  cases (f.fld 2).asInt==4 with
  | true=>
   have h1:=ada (c:=visE a (visF a k) (f.fld 4)) (xs:=(v.fld 3).asList) fun x hx=>hE _ ih _ _ (hv.elem hx)
   have h2:=acz v 3
   rw [cond_true];omega
  | false=>
   cases (f.fld 2).asInt==5 with
   | true=>
    have h1:=ada (c:=fun x:PV=>visE a (visF a k) (f.fld 4) (x.fld 1)) (xs:=(v.fld 4).asList) fun x hx=>by
     have h3:=hE _ ih (f.fld 4) _ (hv.val hx)
     have h4:=ahv x 1
     show (visE a (visF a k) (f.fld 4) (x.fld 1)).length<=_
     omega
    have h2:=acz v 4
    rw [cond_false,cond_true];omega
   | false=>exact hE _ ih _ _ hv
theorem azo {a v:PV} (hv:VOk v) (k:Nat) (s:List UInt8) (m:PV):(visM (visF a k) s m v).length<=2*aac v:=by
 unfold visM
 rw [List.length_cons]
 have h2:=ada (c:=visS (visF a k) s m) (xs:=(v.fld 5).asList) fun x hx=>by
  unfold visS
  have h3:=at7 (a:=a) k (dmem kNum (x.fld 0).asInt (m.fld 1).asList zFld).1 (x.fld 1) (hv.slot hx)
  have h5:aac (x.fld 1)+2<=aac x:=by cases hv with | mk _ _ _ _ _ _ _ h=>exact h x hx
  rw [List.length_cons];omega
 have h6:=acz v 5
 omega
end Go.Ab
namespace Go.Ab
open Go
set_option maxRecDepth 100000
def qK (d:List UInt8) (n:Int) (u:UseT):Bool:=u.1==d&&u.2.1==n
theorem wsum {m c:Nat} (h:m+c<=4000000000):IntKind.wrap .i64 ((m:Int)+(c:Int))=((m+c:Nat):Int):=by
 rw [am7 (by omega) (by omega)];rfl
theorem aec {σ τ α:Type}{step:σ->Option (σ⊕τ)} (st:Nat->Int->σ) (xs:List α) (c:α->Nat) (out:Int->τ) (M:Nat)
 (hgo:∀ i (hi:i<xs.length) (m:Nat),m+c xs[i]<=M->step (st i (m:Int))=some (.inl (st (i+1) ((m+c xs[i]:Nat):Int)))) (hend:∀ m:Nat,step (st xs.length (m:Int))=some (.inr (out (m:Int)))):
 ∀ k i (m:Nat),i+k=xs.length->m+((xs.drop i).map c).sum<=M->abv step (st i (m:Int))=some (out ((m+((xs.drop i).map c).sum:Nat):Int)):=by
 intro k
 induction k with
 | zero=>
  intro i m hi _
  obtain rfl:i=xs.length:=by omega
  rw [List.drop_length]
  exact aai (hend m)
 | succ k ih=>
  intro i m hi hm
  have hlt:i<xs.length:=by omega
  rw [List.drop_eq_getElem_cons hlt,List.map_cons,List.sum_cons] at hm ⊢
  rw [aav (hgo i hlt m (by omega)),ih (i+1) _ (by omega) (by omega),Nat.add_assoc]
theorem ad6 {α:Type} (q:UseT->Bool) (c:α->List UseT):∀ xs:List α,(xs.flatMap c).countP q=(xs.map fun x=>(c x).countP q).sum
 | []=>rfl
 | x::r=>by rw [List.flatMap_cons,List.countP_append,ad6 q c r,List.map_cons,List.sum_cons]
def ValF (a:PV) (d:List UInt8) (n:Int) (k:Nat):Prop:=∀ f v,aac v<=k->aac v<=1048576->VOk v->fitF a k f v->∀ N,4*k+4<=N->G13 0 N (a,f.fld 4,v,d,n)=some (((visF a k f v).countP (qK d n):Nat):Int)
theorem valM {a:PV} (ha:SOk a) (sa:SchemaV a) {d:List UInt8}{n:Int}{k:Nat} (C:ValF a d n k) (t v:PV) (hb:aac v<=k+1) (hb2:aac v<=1048576) (hv:VOk v) (hfit:fitM (fitF a k) (dmem aak (t.fld 1).asStr (a.fld 0).asList zMsg).1 v) (N:Nat) (hN:4*k+6<=N):
 G13 0 N (a,t,v,d,n)=some (((visM (visF a k) (t.fld 1).asStr (dmem aak (t.fld 1).asStr (a.fld 0).asList zMsg).1 v).countP (qK d n):Nat):Int):=by
 have hm:=mok ha (t.fld 1).asStr
 have hu:=mu sa (t.fld 1).asStr
 obtain ⟨jm,hM⟩:=axq a (t.fld 1).asStr ha.len.m
 have hvl:=azo (a:=a) hv k (t.fld 1).asStr (dmem aak (t.fld 1).asStr (a.fld 0).asList zMsg).1
 generalize dmem aak (t.fld 1).asStr (a.fld 0).asList zMsg=m at hM hm hu hfit hvl ⊢
 obtain ⟨N,rfl⟩:∃ n',N=n'+1:=⟨N-1,by omega⟩
 have hlen:=ab4 v 5
 have hml:=hm.fields
 have loop:∀ c0:Nat,c0+((v.fld 5).asList.flatMap (visS (visF a k) (t.fld 1).asStr m.1)).length<=4000000000->aag 0 (B13_22step 0 (G13 0 N)) (d,n,(),(),(),(c0:Int),(),(0:Int),a,t,v,m.1)=some (((c0+((v.fld 5).asList.flatMap (visS (visF a k) (t.fld 1).asStr m.1)).countP (qK d n):Nat):Int),a,t,v,m.1):=by
  intro c0 hc0
  have hle:∀ l:List UseT,l.countP (qK d n)<=l.length:=fun l=>List.countP_le_length
  rw [ad6]
  have hbound:c0+((v.fld 5).asList.map fun x=>(visS (visF a k) (t.fld 1).asStr m.1 x).countP (qK d n)).sum<=4000000000:=by
   rw [<-ad6];have:=hle ((v.fld 5).asList.flatMap (visS (visF a k) (t.fld 1).asStr m.1));omega
  have h:=aec (step:=B13_22step 0 (G13 0 N)) (fun i (c:Int)=>(d,n,(),(),(),c,(),((i:Nat):Int),a,t,v,m.1)) (v.fld 5).asList (fun x=>(visS (visF a k) (t.fld 1).asStr m.1 x).countP (qK d n)) (fun c=>(c,a,t,v,m.1)) 4000000000 (fun i hi c hc=>by
   have hx:=List.getElem_mem hi
   have hxb:aac (((v.fld 5).asList[i]).fld 1)<aac v:=ac1 hx
   obtain ⟨x1,x2⟩:=hfit.2 _ hx
   have hq:(visS (visF a k) (t.fld 1).asStr m.1 (v.fld 5).asList[i]).countP (qK d n)=(visF a k (dmem kNum (((v.fld 5).asList[i]).fld 0).asInt (m.1.fld 1).asList zFld).1 (((v.fld 5).asList[i]).fld 1)).countP (qK d n)+(bif (bif (t.fld 1).asStr==d then (((v.fld 5).asList[i]).fld 0).asInt==n else false) then 1 else 0):=by
    unfold visS
    rw [List.countP_cons]
    congr 1
    unfold qK
    cases (t.fld 1).asStr==d<;>cases (((v.fld 5).asList[i]).fld 0).asInt==n<;>rfl
   rw [hq] at hc ⊢
   have hff:=akr (g:=fun y=>visF a k y (((v.fld 5).asList[i]).fld 1)) (z:=zFld) (k:=(((v.fld 5).asList[i]).fld 0).asInt) hu
   rw [x1,cond_true] at hff
   have hsum:((m.1.fld 1).asList.map fun y=>(bif kNum y==(((v.fld 5).asList[i]).fld 0).asInt then visF a k y (((v.fld 5).asList[i]).fld 1) else []).countP (qK d n)).sum=(visF a k (dmem kNum (((v.fld 5).asList[i]).fld 0).asInt (m.1.fld 1).asList zFld).1 (((v.fld 5).asList[i]).fld 1)).countP (qK d n):=by
    rw [<-hff,ad6]
   have inner:∀ c1:Nat,c1+(visF a k (dmem kNum (((v.fld 5).asList[i]).fld 0).asInt (m.1.fld 1).asList zFld).1 (((v.fld 5).asList[i]).fld 1)).countP (qK d n)<=4000000000->aag 0 (B13_27step 0 (G13 0 N)) (d,n,(),(),(),(c1:Int),(),((i:Nat):Int),(0:Int),a,t,v,m.1)=some (d,n,(),(),(),((c1+(visF a k (dmem kNum (((v.fld 5).asList[i]).fld 0).asInt (m.1.fld 1).asList zFld).1 (((v.fld 5).asList[i]).fld 1)).countP (qK d n):Nat):Int),(),((i:Nat):Int),a,t,v,m.1):=by
    intro c1 hc1
    rw [<-hsum] at hc1 ⊢
    have h2:=aec (step:=B13_27step 0 (G13 0 N)) (fun j (c:Int)=>(d,n,(),(),(),c,(),((i:Nat):Int),((j:Nat):Int),a,t,v,m.1)) (m.1.fld 1).asList (fun y=>(bif kNum y==(((v.fld 5).asList[i]).fld 0).asInt then visF a k y (((v.fld 5).asList[i]).fld 1) else []).countP (qK d n)) (fun c=>(d,n,(),(),(),c,(),((i:Nat):Int),a,t,v,m.1)) 4000000000 (fun j hj c hc=>by
     have hy:=List.getElem_mem hj
     simp only [B13_27step,B13_27,decL j _ hj,cond_true,aaa,decide_eq_true hj,decide_eq_true hi,Int.toNat_natCast,aaf hj,aaf hi,aa5 j (by omega)]
     have hkn:(((m.1.fld 1).asList[j]).fld 0).asInt=kNum (m.1.fld 1).asList[j]:=rfl
     rw [hkn]
     cases hq:kNum (m.1.fld 1).asList[j]==(((v.fld 5).asList[i]).fld 0).asInt with
     | false=>rfl
     | true=>
      rw [hq,cond_true] at hc
      have hself:dmem kNum (((v.fld 5).asList[i]).fld 0).asInt (m.1.fld 1).asList zFld=((m.1.fld 1).asList[j],true):=aen hu hy (eq_of_beq hq)
      rw [hself] at x2
      have x2:fitF a k (m.1.fld 1).asList[j] (((v.fld 5).asList[i]).fld 1):=x2
      simp only [cond_true,C (m.1.fld 1).asList[j] (((v.fld 5).asList[i]).fld 1) (by omega) (by omega) (hv.slot hx) x2 N (by omega),Option.bind_some]
      rw [wsum (by omega)]) (fun c=>by
     simp only [B13_27step,B13_27,decN,cond_false]) (m.1.fld 1).asList.length 0 c1 (by omega) (by rw [List.drop_zero];exact hc1)
    rw [List.drop_zero] at h2
    exact h2
   simp only [B13_22step,B13_22,decL i _ hi,cond_true,aaa,decide_eq_true hi,Int.toNat_natCast,aaf hi,apk]
   cases hcnd:(bif (t.fld 1).asStr==d then (((v.fld 5).asList[i]).fld 0).asInt==n else false) with
   | false=>
    rw [hcnd,cond_false] at hc
    simp only [cond_false,inner c (by omega),Option.bind_some,aa5 i (by omega),Nat.add_zero]
   | true=>
    rw [hcnd,cond_true] at hc
    have w1:IntKind.wrap .i64 ((c:Int)+(1:Int))=((c+1:Nat):Int):=wsum (m:=c) (c:=1) (by omega)
    simp only [cond_true,w1,inner (c+1) (by omega),Option.bind_some,aa5 i (by omega)]
    rw [show c+1+(visF a k (dmem kNum (((v.fld 5).asList[i]).fld 0).asInt (m.1.fld 1).asList zFld).1 (((v.fld 5).asList[i]).fld 1)).countP (qK d n)=c+((visF a k (dmem kNum (((v.fld 5).asList[i]).fld 0).asInt (m.1.fld 1).asList zFld).1 (((v.fld 5).asList[i]).fld 1)).countP (qK d n)+1) by omega]) (fun c=>by
   simp only [B13_22step,B13_22,decN,cond_false]) (v.fld 5).asList.length 0 c0 (by omega) (by rw [List.drop_zero];exact hbound)
  rw [List.drop_zero] at h
  exact h
 show B13 0 (G13 0 N) a t v d n=_
 unfold B13
 dsimp only
 have k11:((v.fld 0).asInt==11)=false:=by simp [hfit.1]
 have k12:((v.fld 0).asInt==12)=false:=by simp [hfit.1]
 have k9:((v.fld 0).asInt==9)=false:=by simp [hfit.1]
 have k10:((v.fld 0).asInt==10)=true:=by simp [hfit.1]
 rw [k11,k12,k9,k10]
 simp only [cond_false,cond_true,hM,Option.bind_some]
 unfold visM at hvl ⊢
 rw [List.countP_cons]
 rw [List.length_cons] at hvl
 have hq:qK d n ((t.fld 1).asStr,-1,1)=bif (t.fld 1).asStr==d then n==(-1:Int) else false:=by
  unfold qK
  rw [show ((-1:Int)==n)=(n==(-1:Int)) from Bool.eq_iff_iff.2 ⟨fun h=>by simpa using (eq_of_beq h).symm,fun h=>by simpa using (eq_of_beq h).symm⟩]
  cases (t.fld 1).asStr==d<;>rfl
 rw [hq]
 cases bif (t.fld 1).asStr==d then n==(-1:Int) else false with
 | false=>
  have:=loop 0 (by omega)
  have this:aag 0 (B13_22step 0 (G13 0 N)) (d,n,(),(),(),(0:Int),(),(0:Int),a,t,v,m.1)=_:=this
  simp only [cond_false,this,Option.bind_some]
  rw [Nat.zero_add];rfl
 | true=>
  have:=loop 1 (by omega)
  have this:aag 0 (B13_22step 0 (G13 0 N)) (d,n,(),(),(),(1:Int),(),(0:Int),a,t,v,m.1)=_:=this
  simp only [cond_true,this,Option.bind_some]
  rw [Nat.add_comm];rfl
theorem valE {a:PV} (ha:SOk a) (sa:SchemaV a) {d:List UInt8}{n:Int} (hn:-1<=n/\n<=2147483647) {k:Nat} (C:ValF a d n k) (t v:PV) (hb:aac v<=k+1) (hb2:aac v<=1048576) (hv:VOk v) (hfit:fitE a (fitF a k) t v) (N:Nat) (hN:4*k+6<=N):
 G13 0 N (a,t,v,d,n)=some (((visE a (visF a k) t v).countP (qK d n):Nat):Int):=by
 unfold visE
 by_cases h10:(t.fld 0).asInt=10
 ·have e10:((t.fld 0).asInt==10)=true:=by simp [h10]
  rw [e10]
  exact valM ha sa C t v hb hb2 hv (hfit.1 h10).1 N hN
 ·have e10:((t.fld 0).asInt==10)=false:=by simp [h10]
  rw [e10,cond_false]
  obtain ⟨N,rfl⟩:∃ n',N=n'+1:=⟨N-1,by omega⟩
  show B13 0 (G13 0 N) a t v d n=_
  unfold B13
  dsimp only
  by_cases h9:(t.fld 0).asInt=9
  ·have hk:=(hfit.2.1 h9).1
   have e9:((t.fld 0).asInt==9)=true:=by simp [h9]
   have k11:((v.fld 0).asInt==11)=false:=by simp [hk]
   have k12:((v.fld 0).asInt==12)=false:=by simp [hk]
   have k9:((v.fld 0).asInt==9)=true:=by simp [hk]
   have hbits:0<=(v.fld 1).asInt:=by cases hv with | mk h=>exact h
   rw [e9,k11,k12,k9]
   simp only [cond_true,cond_false]
   unfold visN
   rw [List.countP_cons,List.countP_cons,List.countP_nil]
   unfold qK
   dsimp only
   cases (t.fld 1).asStr==d with
   | false=>rfl
   | true=>
    simp only [cond_true,Bool.true_and]
    by_cases hm:n=-1
    ·subst hm
     have hb1:((v.fld 1).asInt==(-1:Int))=false:=by simp;omega
     rw [hb1]
     rfl
    ·have e1:(n==(-1:Int))=false:=by simp [hm]
     have e2:((-1:Int)==n)=false:=by simp;omega
     have e3:IntKind.wrap .u64 n=n:=by rw [IntKind.wrap_u64];omega
     rw [e1,e2,e3,cond_false]
     cases (v.fld 1).asInt==n<;>rfl
  ·have hk:=hfit.2.2 h10 h9
   have e9:((t.fld 0).asInt==9)=false:=by simp [h9]
   have k11:((v.fld 0).asInt==11)=false:=by simp;omega
   have k12:((v.fld 0).asInt==12)=false:=by simp;omega
   have k10:((v.fld 0).asInt==10)=false:=by simp;omega
   have k9:((v.fld 0).asInt==9)=false:=by simp;omega
   rw [e9,k11,k12,k9,k10]
   rfl
theorem valF {a:PV} (ha:SOk a) (sa:SchemaV a) {d:List UInt8}{n:Int} (hn:-1<=n/\n<=2147483647):∀ k,ValF a d n k
 | 0=>fun f v hb=>absurd hb (by have:=aa7 v;omega)
 | k+1=>fun f v hb hb2 hv hfit N hN=>by
  have C:=valF (d:=d) ha sa hn k
  have h3:=ab4 v 3
  have h4:=ab4 v 4
  have hvl:=at7 (a:=a) (k+1) f v hv
  have hvl:(visD a (visF a k) f v).length<=2*aac v:=hvl
  have hfit:fitD a (fitF a k) f v:=hfit
  have hle:∀ l:List UseT,l.countP (qK d n)<=l.length:=fun l=>List.countP_le_length
  show G13 0 N (a,f.fld 4,v,d,n)=some (((visD a (visF a k) f v).countP (qK d n):Nat):Int)
  unfold visD at hvl ⊢
  by_cases c4:(f.fld 2).asInt=4
  ·obtain ⟨hk,hx⟩:=hfit.1 c4
   have e4:((f.fld 2).asInt==4)=true:=by simp [c4]
   have k11:((v.fld 0).asInt==11)=true:=by simp [hk]
   rw [e4,cond_true] at hvl ⊢
   obtain ⟨N,rfl⟩:∃ n',N=n'+1:=⟨N-1,by omega⟩
   show B13 0 (G13 0 N) a (f.fld 4) v d n=_
   unfold B13
   dsimp only
   rw [k11,cond_true,ad6]
   have hb0:0+((v.fld 3).asList.map fun x=>(visE a (visF a k) (f.fld 4) x).countP (qK d n)).sum<=4000000000:=by
    rw [<-ad6];have:=hle ((v.fld 3).asList.flatMap (visE a (visF a k) (f.fld 4)));omega
   have h:=aec (step:=B13_6step 0 (G13 0 N)) (fun i (c:Int)=>(d,n,(),(),(),c,((i:Nat):Int),a,f.fld 4,v)) (v.fld 3).asList (fun x=>(visE a (visF a k) (f.fld 4) x).countP (qK d n)) (fun c=>(c,a,f.fld 4,v)) 4000000000 (fun i hi c hc=>by
    have hm:=List.getElem_mem hi
    have hxb:=am5 hm
    simp only [B13_6step,B13_6,decL i _ hi,cond_true,aaa,decide_eq_true hi,Int.toNat_natCast,aaf hi,aa5 i (by omega),valE ha sa hn C (f.fld 4) _ (by omega) (by omega) (hv.elem hm) (hx _ hm) N (by omega),Option.bind_some]
    rw [wsum hc]) (fun c=>by
    simp only [B13_6step,B13_6,decN,cond_false]) (v.fld 3).asList.length 0 0 (by omega) (by rw [List.drop_zero];exact hb0)
   rw [List.drop_zero,Nat.zero_add] at h
   have h:aag 0 (B13_6step 0 (G13 0 N)) (d,n,(),(),(),(0:Int),(0:Int),a,f.fld 4,v)=_:=h
   rw [h,Option.bind_some]
  have e4:((f.fld 2).asInt==4)=false:=by simp [c4]
  rw [e4,cond_false] at hvl ⊢
  by_cases c5:(f.fld 2).asInt=5
  ·obtain ⟨hk,hx⟩:=hfit.2.1 c5
   have e5:((f.fld 2).asInt==5)=true:=by simp [c5]
   have k11:((v.fld 0).asInt==11)=false:=by simp [hk]
   have k12:((v.fld 0).asInt==12)=true:=by simp [hk]
   rw [e5,cond_true] at hvl ⊢
   obtain ⟨N,rfl⟩:∃ n',N=n'+1:=⟨N-1,by omega⟩
   show B13 0 (G13 0 N) a (f.fld 4) v d n=_
   unfold B13
   dsimp only
   rw [k11,k12,cond_false,cond_true,ad6]
   have hb0:0+((v.fld 4).asList.map fun x:PV=>(visE a (visF a k) (f.fld 4) (x.fld 1)).countP (qK d n)).sum<=4000000000:=by
    rw [<-ad6];have:=hle ((v.fld 4).asList.flatMap fun x:PV=>visE a (visF a k) (f.fld 4) (x.fld 1));omega
   have h:=aec (step:=B13_11step 0 (G13 0 N)) (fun i (c:Int)=>(d,n,(),(),(),c,((i:Nat):Int),a,f.fld 4,v)) (v.fld 4).asList (fun x:PV=>(visE a (visF a k) (f.fld 4) (x.fld 1)).countP (qK d n)) (fun c=>(c,a,f.fld 4,v)) 4000000000 (fun i hi c hc=>by
    have hm:=List.getElem_mem hi
    have hxb:aac (((v.fld 4).asList[i]).fld 1)<aac v:=ac1 hm
    simp only [B13_11step,B13_11,decL i _ hi,cond_true,aaa,decide_eq_true hi,Int.toNat_natCast,aaf hi,aa5 i (by omega),valE ha sa hn C (f.fld 4) _ (by omega) (by omega) (hv.val hm) (hx _ hm) N (by omega),Option.bind_some]
    rw [wsum hc]) (fun c=>by
    simp only [B13_11step,B13_11,decN,cond_false]) (v.fld 4).asList.length 0 0 (by omega) (by rw [List.drop_zero];exact hb0)
   rw [List.drop_zero,Nat.zero_add] at h
   have h:aag 0 (B13_11step 0 (G13 0 N)) (d,n,(),(),(),(0:Int),(0:Int),a,f.fld 4,v)=_:=h
   rw [h,Option.bind_some]
  have e5:((f.fld 2).asInt==5)=false:=by simp [c5]
  rw [e5,cond_false] at hvl ⊢
  exact valE ha sa hn C (f.fld 4) v hb hb2 hv (hfit.2.2 c4 c5) N (by omega)
end Go.Ab
