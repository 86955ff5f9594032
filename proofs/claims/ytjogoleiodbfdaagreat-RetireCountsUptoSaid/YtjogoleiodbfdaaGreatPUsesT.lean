/- What the specification's examination of a value says, and that it ends. -/
import Derived.Test.YtjogoleiodbfdaaGreatPAddUT
import Derived.Test.YtjogoleiodbfdaaGreatPFindT
set_option linter.unusedVariables false
set_option linter.unusedSimpArgs false
set_option linter.unnecessarySimpa false
namespace Go.Ab
open Go
set_option maxRecDepth 100000
theorem ahv (v:PV) (i:Nat):aac (v.fld i)<=aac v:=by
 cases v with
 | agg xs=>
  show aac (xs.getD i .bad)<=aar xs+1
  by_cases h:i<xs.length
  ·rw [aaf h]
   have:=ack (List.getElem_mem h)
   omega
  ·have:xs.getD i .bad=.bad:=by simp [List.getD,List.getElem?_eq_none (by omega:xs.length<=i)]
   rw [this]
   simp [aac]
 | _=>exact aa7 _
theorem a00 {v x:PV} (h:x∈v.asList):aac x<aac v:=by
 cases v with
 | slice xs=>have:aac x<=aar xs:=ack h;show _<aar xs+1;omega
 | _=>cases h
theorem a0z (v:PV):v.asList.length<=aac v:=by
 cases v with
 | slice xs=>have:=ag5 xs;show xs.length<=aar xs+1;omega
 | _=>exact Nat.zero_le _
theorem a01 (v:PV):v.asStr.length<=aac v:=by
 cases v with
 | str s=>show s.length<=s.length+1;omega
 | _=>exact Nat.zero_le _
theorem am5 {v x:PV}{i:Nat} (h:x∈(v.fld i).asList):aac x<aac v:=Nat.lt_of_lt_of_le (a00 h) (ahv v i)
theorem ac1 {v x:PV}{i j:Nat} (h:x∈(v.fld i).asList):aac (x.fld j)<aac v:=Nat.lt_of_le_of_lt (ahv x j) (am5 h)
theorem ab4 (v:PV) (i:Nat):(v.fld i).asList.length<=aac v:=Nat.le_trans (a0z _) (ahv v i)
inductive VOk:PV->Prop
 | mk {v:PV}:0<=(v.fld 1).asInt->(v.fld 1).asInt<18446744073709551616->am6 v<=aac v->(∀ x,x∈(v.fld 3).asList->VOk x)->(∀ x,x∈(v.fld 4).asList->VOk (x.fld 0))->(∀ x,x∈(v.fld 4).asList->VOk (x.fld 1))->(∀ x,x∈(v.fld 5).asList->VOk (x.fld 1))->(∀ x,x∈(v.fld 5).asList->aac (x.fld 1)+2<=aac x)->VOk v
theorem VOk.small {v:PV} (h:VOk v) (hb:aac v<=1048576):ajt v:=by
 cases h with
 | mk h1 h2 h3=>exact ⟨by omega,by have:=a01 (v.fld 2);have:=ahv v 2;show (v.fld 2).asStr.length<=_;omega,h1,h2⟩
theorem aj5 {σ τ:Type}{step:Nat->σ->Option (σ⊕τ)}{N:Nat} (st:Nat->σ) (len:Nat) (bad:Int->τ) (good:τ) (P:Nat->Prop)
 (h:∀ i,i<len->∃ e:Int,(e=0->P i)/\∀ n,N<=n->step n (st i)=some (bif e != 0 then .inr (bad e) else .inl (st (i+1))))
 (hend:∀ n,N<=n->step n (st len)=some (.inr good)):∀ k i,i+k=len->∃ e:Int,(e=0->∀ j,i<=j->j<len->P j)/\∀ n,N<=n->abv (step n) (st i)=some (bif e != 0 then bad e else good):=by
 intro k
 induction k with
 | zero=>
  intro i hi
  obtain rfl:i=len:=by omega
  exact ⟨0,fun _ j h1 h2=>absurd h1 (by omega),fun n hn=>aai (hend n hn)⟩
 | succ k ih=>
  intro i hi
  obtain ⟨e,h1,h2⟩:=h i (by omega)
  by_cases he:e=0
  ·obtain ⟨e',h3,h4⟩:=ih (i+1) (by omega)
   subst he
   refine ⟨e',fun q j hj hl=>?_,fun n hn=>?_⟩
   ·by_cases hij:j=i
    ·subst hij;exact h1 rfl
    ·exact h3 q j (by omega) hl
   ·have:=h2 n hn
    rw [aav (x1:=st (i+1)) (by rw [this];rfl)]
    exact h4 n hn
  ·refine ⟨e,fun q=>absurd q he,fun n hn=>?_⟩
   have h5:(e != 0)=true:=by simpa using he
   have:=h2 n hn
   rw [h5] at this
   rw [aai this,h5];rfl
theorem att {σ τ:Type}{step:σ->Option (σ⊕τ)} (st:Nat->σ) (n:Nat) (p:Nat->Bool) (bad good:τ) (hstep:∀ i,i<n->step (st i)=some (bif p i then .inr bad else .inl (st (i+1)))) (hend:step (st n)=some (.inr good)):
 ∃ b:Bool,abv step (st 0)=some (bif b then bad else good):=by
 have:=ah7 st n (fun i=>!p i) bad good (fun i hi=>by rw [hstep i hi];cases p i<;>rfl) hend n 0 (by omega)
 exact ⟨!allF (fun i=>!p i) 0 n,by rw [this];cases allF (fun i=>!p i) 0 n<;>rfl⟩
theorem ajb (v:PV):∃ b,F47 0 v=some b:=by
 unfold F47
 generalize (bif (bif (bif (bif (decide ((((v.fld 3).asList).length:Int)>(0:Int))) then (((v.fld 0).asInt) != (11:Int)) else false) then true else (bif (decide ((((v.fld 4).asList).length:Int)>(0:Int))) then (((v.fld 0).asInt) != (12:Int)) else false)) then true else (bif (decide ((((v.fld 5).asList).length:Int)>(0:Int))) then (((v.fld 0).asInt) != (10:Int)) else false)) then true else (bif (decide ((((v.fld 6).asList).length:Int)>(0:Int))) then (((v.fld 0).asInt) != (10:Int)) else false))=c
 cases c with
 | true=>exact ⟨_,rfl⟩
 | false=>
  simp only [cond_false]
  generalize (bif (!(((v.fld 2).asStr)==([]:List UInt8))) then _ else false)=d
  cases d<;>exact ⟨_,rfl⟩
theorem alh (k:Int) {v:PV} (hv:VOk v) (hb:aac v<=1048576):∃ e,F114 0 k v=some e/\(e=0->(v.fld 0).asInt=k):=by
 obtain ⟨b,h1⟩:=ajb v
 unfold F114
 by_cases hk:(v.fld 0).asInt=k
 ·have e:((v.fld 0).asInt != k)=false:=by simp [hk]
  simp only [e,Bool.not_false,cond_true,h1,Option.bind_some,cond_false]
  have hs:=hv.small hb
  cases b with
  | true=>exact ⟨_,rfl,fun _=>hk⟩
  | false=>
   rw [cond_false,ahq k v hs]
   simp only [Option.bind_some]
   cases decide ((((v.fld 2).asStr).length:Int)>(4096:Int))<;>cases ans k v<;>cases (k==(7:Int))<;>exact ⟨_,rfl,fun _=>hk⟩
 ·have e:((v.fld 0).asInt != k)=true:=by simp [hk]
  simp only [e,Bool.not_true,cond_true,cond_false,Option.bind_some]
  exact ⟨_,rfl,fun q=>by cases q⟩
theorem az1 (a:PV) (n:List UInt8) (h:(a.fld 0).asList.length<=1048576):F25 0 a n=some (dmem aak n (a.fld 0).asList zMsg):=by
 have h1:=adx (step:=S25_3step 0) (fun i=>(n,(),(),((i:Nat):Int),a,zMsg)) (a.fld 0).asList (fun x=>aak x==n) (fun x=>.inl ((),true,a,x)) (.inr ((),a,zMsg)) (fun i hi=>by
  simp only [S25_3step,S25_3,decL i _ hi,cond_true,aaa,decide_eq_true hi,Int.toNat_natCast,aaf hi,aa5 i (by omega),aak]
  cases (((a.fld 0).asList[i]).fld 0).asStr==n<;>rfl) (by
  simp only [S25_3step,S25_3,decN,cond_false]) (a.fld 0).asList.length 0 (by omega)
 rw [List.drop_zero] at h1
 have h2:aag 0 (S25_3step 0) (n,(),(),(0:Int),a,zMsg)=_:=h1
 unfold F25
 change (Option.bind (aag 0 (S25_3step 0) (n,(),(),(0:Int),a,zMsg)) _)=_
 rw [h2]
 unfold dmem fst
 cases (a.fld 0).asList.find? (fun x=>aak x==n)<;>rfl
theorem axm (a:PV) (n:List UInt8) (h:(a.fld 1).asList.length<=1048576):F79 0 a n=some (dmem aak n (a.fld 1).asList ab3):=by
 have h1:=adx (step:=S79_3step 0) (fun i=>(n,(),(),((i:Nat):Int),a,ab3)) (a.fld 1).asList (fun x=>aak x==n) (fun x=>.inl ((),true,a,x)) (.inr ((),a,ab3)) (fun i hi=>by
  simp only [S79_3step,S79_3,decL i _ hi,cond_true,aaa,decide_eq_true hi,Int.toNat_natCast,aaf hi,aa5 i (by omega),aak]
  cases (((a.fld 1).asList[i]).fld 0).asStr==n<;>rfl) (by
  simp only [S79_3step,S79_3,decN,cond_false]) (a.fld 1).asList.length 0 (by omega)
 rw [List.drop_zero] at h1
 have h2:aag 0 (S79_3step 0) (n,(),(),(0:Int),a,ab3)=_:=h1
 unfold F79
 change (Option.bind (aag 0 (S79_3step 0) (n,(),(),(0:Int),a,ab3)) _)=_
 rw [h2]
 unfold dmem fst
 cases (a.fld 1).asList.find? (fun x=>aak x==n)<;>rfl
theorem aod (m:PV) (n:Int) (h:(m.fld 1).asList.length<=1048576):F77 0 m n=some (dmem kNum n (m.fld 1).asList zFld):=by
 have h1:=adx (step:=S77_3step 0) (fun i=>(n,(),(),((i:Nat):Int),m,zFld)) (m.fld 1).asList (fun x=>kNum x==n) (fun x=>.inl ((),true,m,x)) (.inr ((),m,zFld)) (fun i hi=>by
  simp only [S77_3step,S77_3,decL i _ hi,cond_true,aaa,decide_eq_true hi,Int.toNat_natCast,aaf hi,aa5 i (by omega),kNum]
  cases (((m.fld 1).asList[i]).fld 0).asInt==n<;>rfl) (by
  simp only [S77_3step,S77_3,decN,cond_false]) (m.fld 1).asList.length 0 (by omega)
 rw [List.drop_zero] at h1
 have h2:aag 0 (S77_3step 0) (n,(),(),(0:Int),m,zFld)=_:=h1
 unfold F77
 change (Option.bind (aag 0 (S77_3step 0) (n,(),(),(0:Int),m,zFld)) _)=_
 rw [h2]
 unfold dmem fst
 cases (m.fld 1).asList.find? (fun x=>kNum x==n)<;>rfl
theorem apm (e:PV) (b:Int) (h:(e.fld 2).asList.length<=1048576):∃ r,F80 0 e b=some r:=by
 obtain ⟨r,h1⟩:=att (step:=S80_3step 0) (fun i=>(b,(),((i:Nat):Int),e)) (e.fld 2).asList.length (fun i=>bif decide ((((e.fld 2).asList.getD i .bad).fld 1).asInt≥(0:Int)) then (IntKind.wrap .u64 (((e.fld 2).asList.getD i .bad).fld 1).asInt)==b else false) (.inl (true,e)) (.inr e) (fun i hi=>by
  simp only [S80_3step,S80_3,decL i _ hi,cond_true,aaa,decide_eq_true hi,Int.toNat_natCast,aa5 i (by omega),arl _ true fun _=>rfl]
  cases (bif decide ((((e.fld 2).asList.getD i .bad).fld 1).asInt≥(0:Int)) then (IntKind.wrap .u64 (((e.fld 2).asList.getD i .bad).fld 1).asInt)==b else false)<;>rfl) (by
  simp only [S80_3step,S80_3,decN,cond_false])
 have h2:aag 0 (S80_3step 0) (b,(),(0:Int),e)=_:=h1
 unfold F80
 rw [h2]
 cases r<;>exact ⟨_,rfl⟩
theorem azf (v:PV) (b:Int) (h:(v.fld 5).asList.length<=1048576):∃ r,F49 0 v b=some r:=by
 obtain ⟨r,h1⟩:=att (step:=S49_3step 0) (fun i=>(b,(),((i:Nat):Int),v)) (v.fld 5).asList.length (fun i=>(((v.fld 5).asList.getD i .bad).fld 0).asInt==b) (.inl (true,v)) (.inr v) (fun i hi=>by
  simp only [S49_3step,S49_3,decL i _ hi,cond_true,aaa,decide_eq_true hi,Int.toNat_natCast,aa5 i (by omega)]
  cases (((v.fld 5).asList.getD i .bad).fld 0).asInt==b<;>rfl) (by
  simp only [S49_3step,S49_3,decN,cond_false])
 have h2:aag 0 (S49_3step 0) (b,(),(0:Int),v)=_:=h1
 unfold F49
 rw [h2]
 cases r<;>exact ⟨_,rfl⟩
theorem ate {a:PV} (ha:SOk a) (n:List UInt8):((dmem aak n (a.fld 1).asList ab3).1.fld 2).asList.length<=1048576:=ahf (P:=fun x=>(x.fld 2).asList.length<=1048576) (fun x hx=>(ha.enum x hx).items) (by show (0:Nat)<=_;omega)
theorem axh {a:PV} (ha:SOk a) (n:List UInt8):((dmem aak n (a.fld 0).asList zMsg).1.fld 1).asList.length<=1048576:=ahf (P:=fun x=>(x.fld 1).asList.length<=1048576) (fun x hx=>(ha.msg x hx).fields) (by show (0:Nat)<=_;omega)
theorem azc {a m x:PV} (ha:SOk a) (hm:(m.fld 1).asList.length<=1048576):∃ e,F50 0 a m x=some e:=by
 unfold F50
 rw [aod m _ hm]
 simp only [Option.bind_some]
 generalize hf:dmem kNum (x.fld 0).asInt (m.fld 1).asList zFld=f
 rw [axm a _ ha.len.e]
 simp only [Option.bind_some]
 have hl:=ate ha ((f.1.fld 4).fld 1).asStr
 generalize dmem aak ((f.1.fld 4).fld 1).asStr (a.fld 1).asList ab3=d at hl ⊢
 obtain ⟨r,hr⟩:=apm d.1 (x.fld 2).asInt hl
 have c1:∀ (b:Bool) (x y:Option Int),(∃ e,x=some e)->(∃ e,y=some e)->∃ e,(bif b then x else y)=some e:=fun b x y h k=>by cases b<;>assumption
 refine c1 _ _ _ ⟨_,rfl⟩ (c1 _ _ _ ?_ (c1 _ _ _ ⟨_,rfl⟩ ⟨_,rfl⟩))
 generalize (bif (bif (bif (bif (bif ((((f.1.fld 4).fld 0).asInt) != (9:Int)) then true else (!d.2)) then true else ((d.1.fld 1).asBool)) then true else (((f.1.fld 2).asInt)==(5:Int))) then true else (((x.fld 1).asInt) != (0:Int))) then true else (decide (((x.fld 2).asInt)≥(2147483648:Int))))=c
 rw [hr]
 cases c with
 | true=>exact ⟨_,rfl⟩
 | false=>exact c1 _ _ _ ⟨_,rfl⟩ (c1 _ _ _ ⟨_,rfl⟩ ⟨_,rfl⟩)
end Go.Ab
namespace Go.Ab
open Go
set_option maxRecDepth 100000
def brk (p:Nat->Bool) (n:Nat):Bool:=!allF (fun i=>!p i) 0 n
theorem aex {σ τ:Type}{step:σ->Option (σ⊕τ)} (st:Nat->σ) (n:Nat) (p:Nat->Bool) (bad good:τ) (hstep:∀ i,i<n->step (st i)=some (bif p i then .inr bad else .inl (st (i+1)))) (hend:step (st n)=some (.inr good)):
 abv step (st 0)=some (bif brk p n then bad else good):=by
 have:=ah7 st n (fun i=>!p i) bad good (fun i hi=>by rw [hstep i hi];cases p i<;>rfl) hend n 0 (by omega)
 rw [this]
 unfold brk
 cases allF (fun i=>!p i) 0 n<;>rfl
def fitM (R:PV->PV->Prop) (m v:PV):Prop:=(v.fld 0).asInt=10/\∀ x,x∈(v.fld 5).asList->(dmem kNum (x.fld 0).asInt (m.fld 1).asList zFld).2=true/\R (dmem kNum (x.fld 0).asInt (m.fld 1).asList zFld).1 (x.fld 1)
def fitE (a:PV) (R:PV->PV->Prop) (t v:PV):Prop:=((t.fld 0).asInt=10->fitM R (dmem aak (t.fld 1).asStr (a.fld 0).asList zMsg).1 v/\(dmem aak (t.fld 1).asStr (a.fld 0).asList zMsg).2=true)/\((t.fld 0).asInt=9->(v.fld 0).asInt=9/\(dmem aak (t.fld 1).asStr (a.fld 1).asList ab3).2=true)/\((t.fld 0).asInt≠10->(t.fld 0).asInt≠9->1<=(v.fld 0).asInt/\(v.fld 0).asInt<=8)
def fitD (a:PV) (R:PV->PV->Prop) (f v:PV):Prop:=((f.fld 2).asInt=4->(v.fld 0).asInt=11/\∀ x,x∈(v.fld 3).asList->fitE a R (f.fld 4) x)/\((f.fld 2).asInt=5->(v.fld 0).asInt=12/\∀ x,x∈(v.fld 4).asList->fitE a R (f.fld 4) (x.fld 1))/\((f.fld 2).asInt≠4->(f.fld 2).asInt≠5->fitE a R (f.fld 4) v)
def fitF (a:PV):Nat->PV->PV->Prop
 | 0=>fun _ _=>False
 | k+1=>fitD a (fitF a k)
def ChkF (a:PV) (k:Nat):Prop:=∀ (f v:PV) (level:Int) (keys:Bool),aac v<=k->aac v<=1048576->VOk v->∃ e:Int,(e=0->fitF a k f v)/\∀ n,4*k+4<=n->(G26 0 n).2.2.1 (a,f,v,level,keys)=some e
theorem ags {l:List PV}{i:Nat} (h:i<l.length):l.getD i .bad∈l:=by rw [aaf h];exact List.getElem_mem h
theorem VOk.slot {v x:PV} (h:VOk v) (hx:x∈(v.fld 5).asList):VOk (x.fld 1):=by cases h with | mk _ _ _ _ _ _ h=>exact h x hx
theorem VOk.elem {v x:PV} (h:VOk v) (hx:x∈(v.fld 3).asList):VOk x:=by cases h with | mk _ _ _ h=>exact h x hx
theorem VOk.key {v x:PV} (h:VOk v) (hx:x∈(v.fld 4).asList):VOk (x.fld 0):=by cases h with | mk _ _ _ _ h=>exact h x hx
theorem VOk.val {v x:PV} (h:VOk v) (hx:x∈(v.fld 4).asList):VOk (x.fld 1):=by cases h with | mk _ _ _ _ _ h=>exact h x hx
theorem apk (b:Bool):imp b true=true:=arl _ _ fun _=>rfl
theorem chkS {a:PV} (ha:SOk a) {k:Nat} (C:ChkF a k) (m v:PV) (level:Int) (keys:Bool) (hm:(m.fld 1).asList.length<=1048576) (hv:VOk v) (hb:aac v<=k+1) (hb2:aac v<=1048576) (i:Nat) (hi:i<(v.fld 5).asList.length):
 ∃ e:Int,(e=0->(dmem kNum (((v.fld 5).asList.getD i .bad).fld 0).asInt (m.fld 1).asList zFld).2=true/\fitF a k (dmem kNum (((v.fld 5).asList.getD i .bad).fld 0).asInt (m.fld 1).asList zFld).1 (((v.fld 5).asList.getD i .bad).fld 1))/\
  ∀ n,4*k+5<=n->(G26 0 n).2.1 (a,m,v,(i:Int),level,keys)=some e:=by
 have hx:=ags hi
 have hlen:=ab4 v 5
 have hxb:aac (((v.fld 5).asList.getD i .bad).fld 1)<aac v:=ac1 hx
 have hF:=aod m (((v.fld 5).asList.getD i .bad).fld 0).asInt hm
 generalize hf:dmem kNum (((v.fld 5).asList.getD i .bad).fld 0).asInt (m.fld 1).asList zFld=f at hF ⊢
 obtain ⟨e,e1,e2⟩:=C f.1 (((v.fld 5).asList.getD i .bad).fld 1) (IntKind.wrap .i64 (level+1)) keys (by omega) (by omega) (hv.slot hx)
 have hd:decide (i<(v.fld 5).asList.length)=true:=decide_eq_true hi
 cases hfound:f.2 with
 | false=>
  refine ⟨8,fun q=>(by cases q),fun n hn=>?_⟩
  obtain ⟨n,rfl⟩:∃ n',n=n'+1:=⟨n-1,by omega⟩
  show B48 0 _ _ _ _ a m v (i:Int) level keys=some 8
  unfold B48
  simp only [aaa,hd,cond_true,Int.toNat_natCast,hF,Option.bind_some,hfound,Bool.not_false]
 | true=>
  let p1:Nat->Bool:=fun j=>(((v.fld 5).asList.getD j .bad).fld 0).asInt==(f.1.fld 0).asInt
  let p2:Nat->Bool:=fun j=>bif (!((f.1.fld 5).asStr==([]:List UInt8))) then (((dmem kNum (((v.fld 5).asList.getD j .bad).fld 0).asInt (m.fld 1).asList zFld).1.fld 5).asStr==(f.1.fld 5).asStr) else false
  refine ⟨bif brk p1 i then 9 else bif brk p2 i then 15 else e,fun q=>⟨rfl,e1 ?_⟩,fun n hn=>?_⟩
  ·cases h1:brk p1 i with
   | true=>rw [h1] at q;cases q
   | false=>
    rw [h1] at q
    cases h2:brk p2 i with
    | true=>rw [h2] at q;cases q
    | false=>rw [h2] at q;exact q
  ·obtain ⟨n,rfl⟩:∃ n',n=n'+1:=⟨n-1,by omega⟩
   have l1:=aex (step:=B48_6step 0 ((G26 0 n).1) ((G26 0 n).2.1) ((G26 0 n).2.2.1) ((G26 0 n).2.2.2)) (fun j=>((i:Int),level,keys,(),(),(),(),((j:Nat):Int),a,m,v,f.1)) i p1 (.inl (9,a,m,v,f.1)) (.inr ((i:Int),level,keys,(),(),(),(),a,m,v,f.1)) (fun j hj=>by
    simp only [B48_6step,B48_6,decL j _ hj,cond_true,aaa,decide_eq_true (show j<(v.fld 5).asList.length by omega),Int.toNat_natCast,aa5 j (by omega)]
    show (bif p1 j then _ else _)=_
    cases p1 j<;>rfl) (by
    simp only [B48_6step,B48_6,decN,cond_false])
   have l2:=aex (step:=B48_11step 0 ((G26 0 n).1) ((G26 0 n).2.1) ((G26 0 n).2.2.1) ((G26 0 n).2.2.2)) (fun j=>((i:Int),level,keys,(),(),(),(),((j:Nat):Int),a,m,v,f.1)) i p2 (.inl (15,a,m,v,f.1)) (.inr ((i:Int),level,keys,(),(),(),a,m,v,f.1)) (fun j hj=>by
    simp only [B48_11step,B48_11,decL j _ hj,cond_true,aaa,decide_eq_true (show j<(v.fld 5).asList.length by omega),Int.toNat_natCast,aa5 j (by omega),aod m _ hm,Option.bind_some]
    show (bif p2 j then _ else _)=_
    cases p2 j<;>rfl) (by
    simp only [B48_11step,B48_11,decN,cond_false])
   have l1:aag 0 (B48_6step 0 ((G26 0 n).1) ((G26 0 n).2.1) ((G26 0 n).2.2.1) ((G26 0 n).2.2.2)) ((i:Int),level,keys,(),(),(),(),(0:Int),a,m,v,f.1)=_:=l1
   have l2:aag 0 (B48_11step 0 ((G26 0 n).1) ((G26 0 n).2.1) ((G26 0 n).2.2.1) ((G26 0 n).2.2.2)) ((i:Int),level,keys,(),(),(),(),(0:Int),a,m,v,f.1)=_:=l2
   show B48 0 _ _ _ _ a m v (i:Int) level keys=_
   unfold B48
   simp only [aaa,hd,cond_true,Int.toNat_natCast,hF,Option.bind_some,hfound,Bool.not_true,cond_false,l1]
   cases brk p1 i with
   | true=>rfl
   | false=>
    simp only [cond_false,ac5,l2,Option.bind_some]
    cases brk p2 i with
    | true=>rfl
    | false=>
     simp only [cond_false,ac5,aaa,hd,cond_true,Int.toNat_natCast,e2 n (by omega),Option.bind_some]
theorem chkM {a:PV} (ha:SOk a) {k:Nat} (C:ChkF a k) (m v:PV) (level:Int) (keys:Bool) (hm:(m.fld 1).asList.length<=1048576) (hv:VOk v) (hb:aac v<=k+1) (hb2:aac v<=1048576):
 ∃ e:Int,(e=0->fitM (fitF a k) m v)/\∀ n,4*k+6<=n->(G26 0 n).1 (a,m,v,level,keys)=some e:=by
 have h5:=ab4 v 5
 have h6:=ab4 v 6
 by_cases hk:(v.fld 0).asInt=10
 case neg=>
  refine ⟨12,fun q=>(by cases q),fun n hn=>?_⟩
  obtain ⟨n,rfl⟩:∃ n',n=n'+1:=⟨n-1,by omega⟩
  show B26 0 _ _ _ _ a m v level keys=_
  unfold B26
  have e:((v.fld 0).asInt != 10)=true:=by simp [hk]
  simp only [e,Bool.not_true,cond_false,cond_true,Option.bind_some]
 case pos=>
 have ek:((v.fld 0).asInt != 10)=false:=by simp [hk]
 obtain ⟨b,ho⟩:=ajb v
 obtain ⟨e1,p1,l1⟩:=aj5 (step:=fun n=>B26_7step 0 ((G26 0 n).1) ((G26 0 n).2.1) ((G26 0 n).2.2.1) ((G26 0 n).2.2.2)) (N:=4*k+5) (fun j=>(level,keys,(),(),(),((j:Nat):Int),a,m,v)) (v.fld 5).asList.length (fun e=>.inl (e,a,m,v)) (.inr ((),(),(),a,m,v))
  (fun j=>(dmem kNum (((v.fld 5).asList.getD j .bad).fld 0).asInt (m.fld 1).asList zFld).2=true/\fitF a k (dmem kNum (((v.fld 5).asList.getD j .bad).fld 0).asInt (m.fld 1).asList zFld).1 (((v.fld 5).asList.getD j .bad).fld 1)) (fun j hj=>by
   obtain ⟨e,q1,q2⟩:=chkS ha C m v level keys hm hv hb hb2 j hj
   refine ⟨e,q1,fun n hn=>?_⟩
   simp only [B26_7step,B26_7,decL j _ hj,cond_true,q2 n hn,Option.bind_some,aa5 j (by omega)]
   cases e != 0<;>rfl) (fun n hn=>by
   simp only [B26_7step,B26_7,decN,cond_false]) (v.fld 5).asList.length 0 (by omega)
 obtain ⟨e3,p3,l3⟩:=aj5 (step:=fun n=>B26_18step 0 ((G26 0 n).1) ((G26 0 n).2.1) ((G26 0 n).2.2.1) ((G26 0 n).2.2.2)) (N:=0) (fun j=>((),(),(),((j:Nat):Int),a,m,v)) (v.fld 6).asList.length (fun e=>.inl (e,a,m,v)) (.inr (a,m,v)) (fun _=>True) (fun j hj=>by
  obtain ⟨e,q⟩:=azc (x:=(v.fld 6).asList.getD j .bad) ha hm
  refine ⟨e,fun _=>trivial,fun n _=>?_⟩
  simp only [B26_18step,B26_18,decL j _ hj,cond_true,aaa,decide_eq_true hj,Int.toNat_natCast,q,Option.bind_some,aa5 j (by omega)]
  cases e != 0<;>rfl) (fun n _=>by
  simp only [B26_18step,B26_18,decN,cond_false]) (v.fld 6).asList.length 0 (by omega)
 let p2:Nat->Bool:=fun j=>bif (((m.fld 1).asList.getD j .bad).fld 2).asInt==1 then !((F49 0 v (((m.fld 1).asList.getD j .bad).fld 0).asInt).getD false) else false
 refine ⟨bif b then 12 else bif decide (level>16) then 17 else bif e1 != 0 then e1 else bif brk p2 (m.fld 1).asList.length then 14 else e3,fun q=>⟨hk,fun x hx=>?_⟩,fun n hn=>?_⟩
 ·obtain ⟨j,hj,rfl⟩:∃ j,j<(v.fld 5).asList.length/\(v.fld 5).asList.getD j .bad=x:=by
   obtain ⟨j,hj,rfl⟩:=List.mem_iff_getElem.1 hx
   exact ⟨j,hj,aaf hj⟩
  refine p1 ?_ j (Nat.zero_le _) hj
  cases b with
  | true=>cases q
  | false=>
   cases h2:decide (level>16) with
   | true=>rw [h2] at q;cases q
   | false=>
    rw [h2] at q
    cases h3:e1 != 0 with
    | true=>rw [h3] at q;exact q
    | false=>simpa using h3
 ·obtain ⟨n,rfl⟩:∃ n',n=n'+1:=⟨n-1,by omega⟩
  have l1:=l1 n (by omega)
  have l3:=l3 n (by omega)
  have l2:=aex (step:=B26_13step 0 ((G26 0 n).1) ((G26 0 n).2.1) ((G26 0 n).2.2.1) ((G26 0 n).2.2.2)) (fun j=>((),(),(),((j:Nat):Int),a,m,v)) (m.fld 1).asList.length p2 (.inl (14,a,m,v)) (.inr ((),(),(),a,m,v)) (fun j hj=>by
   obtain ⟨r,hr⟩:=azf v (((m.fld 1).asList.getD j .bad).fld 0).asInt (by omega)
   simp only [B26_13step,B26_13,decL j _ hj,cond_true,aaa,decide_eq_true hj,Int.toNat_natCast,apk,aa5 j (by omega),p2]
   cases (((m.fld 1).asList.getD j .bad).fld 2).asInt==1 with
   | false=>rfl
   | true=>simp only [cond_true,hr,Option.bind_some,Option.getD_some];cases r<;>rfl) (by
   simp only [B26_13step,B26_13,decN,cond_false])
  have l1:aag 0 (B26_7step 0 ((G26 0 n).1) ((G26 0 n).2.1) ((G26 0 n).2.2.1) ((G26 0 n).2.2.2)) (level,keys,(),(),(),(0:Int),a,m,v)=_:=l1
  have l2:aag 0 (B26_13step 0 ((G26 0 n).1) ((G26 0 n).2.1) ((G26 0 n).2.2.1) ((G26 0 n).2.2.2)) ((),(),(),(0:Int),a,m,v)=_:=l2
  have l3:aag 0 (B26_18step 0 ((G26 0 n).1) ((G26 0 n).2.1) ((G26 0 n).2.2.1) ((G26 0 n).2.2.2)) ((),(),(),(0:Int),a,m,v)=_:=l3
  show B26 0 _ _ _ _ a m v level keys=_
  unfold B26
  simp only [ek,Bool.not_false,cond_true,cond_false,ho,Option.bind_some]
  cases b with
  | true=>rfl
  | false=>
   simp only [cond_false]
   cases decide (level>16) with
   | true=>rfl
   | false=>
    simp only [cond_false,l1,Option.bind_some]
    cases e1 != 0 with
    | true=>rfl
    | false=>
     simp only [cond_false,ac5,l2,Option.bind_some]
     cases brk p2 (m.fld 1).asList.length with
     | true=>rfl
     | false=>
      simp only [cond_false,ac5,l3,Option.bind_some]
      cases h:e3 != 0 with
      | true=>rfl
      | false=>
       have:e3=0:=by simpa using h
       subst this;rfl
end Go.Ab
