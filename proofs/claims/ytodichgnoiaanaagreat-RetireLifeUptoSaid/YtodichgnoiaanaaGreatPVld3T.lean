/- The specification's examination of schemas ends; what it says: messages, enums, services, all. -/
import Derived.Test.YtodichgnoiaanaaGreatPVldT
import Derived.Test.YtodichgnoiaanaaGreatPEveryT
import Derived.Test.YtodichgnoiaanaaGreatAbBridgeZ
set_option linter.unusedVariables false
set_option linter.unusedSimpArgs false
set_option linter.unnecessarySimpa false
namespace Go.Ab
open Go
set_option maxRecDepth 100000
theorem al1 {i:Nat} (h:1<=i) (h2:i<=1048576):IntKind.wrap .i64 ((i:Int)-1)=((i-1:Nat):Int):=by
 rw [show (i:Int)-1=((i-1:Nat):Int) by omega];exact ac7 (by omega)
theorem ak6 {i n:Nat} (hi:i<n) (hn:n<=1048576):imp (decide ((i:Int)>(0:Int))) (aaa (IntKind.wrap .i64 ((i:Int)-1)) n)=true:=by
 by_cases h0:(i:Int)>0
 ·rw [decide_eq_true h0,al1 (by omega) (by omega),aab,decide_eq_true (show i-1<n by omega)];rfl
 ·rw [decide_eq_false h0];exact azk _
theorem abb {l:List PV}{i:Nat} (hi:i<l.length):l.getD i .bad∈l:=by rw [aav hi];exact List.getElem_mem hi
structure SOk (s:PV):Prop where
 len:SLen s
 msg:∀ m,m∈(s.fld 0).asList->OkMsg m
 enum:∀ m,m∈(s.fld 1).asList->OkEnum m
 svc:∀ m,m∈(s.fld 2).asList->OkSvc m
structure FldV (m:PV) (i:Nat):Prop where
 up:0<i->(((m.fld 1).asList.getD (i-1) .bad).fld 0).asInt<(((m.fld 1).asList.getD i .bad).fld 0).asInt
 pos:1<=(((m.fld 1).asList.getD i .bad).fld 0).asInt
 top:(((m.fld 1).asList.getD i .bad).fld 0).asInt<=65535
 card:F106 0 ((m.fld 1).asList.getD i .bad)=some true
 dflt:(((m.fld 1).asList.getD i .bad).fld 6).asBool=true->ado ((((m.fld 1).asList.getD i .bad).fld 4).fld 0).asInt (((m.fld 1).asList.getD i .bad).fld 7)=true
theorem a1k {s m:PV}{fin:List PV}{d:List UInt8}{acc:List PV}{f:PV}{i:Nat} (hi:i<(m.fld 1).asList.length) (hl:(m.fld 1).asList.length<=1048576):
 ∃ tw,aaf 0 (S70_11step 0) (fin,(),(),(),((i:Nat):Int),(),false,(0:Int),s,m,d,acc,f)=some (fin,(),(),(),((i:Nat):Int),(),tw,s,m,d,acc,f):=by
 obtain ⟨tw,h1,_⟩:=acd (step:=S70_11step 0) (fun j (b:Bool)=>(fin,(),(),(),((i:Nat):Int),(),b,((j:Nat):Int),s,m,d,acc,f)) i (fun b=>(fin,(),(),(),((i:Nat):Int),(),b,s,m,d,acc,f)) (fun _ _=>True) (fun j b hj _=>by
  simp only [S70_11step,S70_11,decL j _ hj,cond_true,aab,decide_eq_true (show j<(m.fld 1).asList.length by omega),Int.toNat_natCast,aa4 j (by omega)]
  cases (((m.fld 1).asList.getD j .bad).fld 1).asStr==(f.fld 1).asStr with
  | true=>exact ⟨true,rfl,trivial⟩
  | false=>exact ⟨b,rfl,trivial⟩) (fun b _=>by
  simp only [S70_11step,S70_11,decN,cond_false]) i 0 false (by omega) trivial
 exact ⟨tw,h1⟩
theorem a2o {s m:PV}{fin:List PV}{d:List UInt8}{acc:List PV}{i:Nat} (hs:SOk s) (hm:OkMsg m) (hi:i<(m.fld 1).asList.length) (ha:acc.length<50000000000):
 Ret (S70_6step 0 (fin,(),(),(),((i:Nat):Int),s,m,d,acc)) fun r=>∃ acc',r=.inl (fin,(),(),(),((i+1:Nat):Int),s,m,d,acc')/\Ad acc acc' 12 (FldV m i):=by
 have hl:=hm.fields
 have hf:=hm.field _ (abb hi)
 obtain ⟨tw,htw⟩:=a1k (s:=s) (m:=m) (fin:=fin) (d:=d) (acc:=acc) (f:=(m.fld 1).asList.getD i .bad) hi hl
 simp only [S70_6step,S70_6,decL i _ hi,cond_true,aab,decide_eq_true hi,Int.toNat_natCast]
 refine abg htw ?_
 dsimp only
 refine abe (by omega) fun c1 r1=>?_
 have l1:=r1.len
 dsimp only
 refine adq (ak6 hi hl) ?_
 refine abe (by omega) fun c2 r2=>?_
 have l2:=r2.len
 dsimp only
 refine aas (aey _ hf.name) fun u _ _=>?_
 refine abe (by omega) fun c3 r3=>?_
 have l3:=r3.len
 dsimp only
 refine abe (by omega) fun c4 r4=>?_
 have l4:=r4.len
 dsimp only
 refine aas (aku _ _ hm.spans) fun rs _ _=>?_
 refine aas (P:=fun _=>True) (aa7 (azi _ _ hm.gone) (aan _)) fun gn _ _=>?_
 refine abe (by omega) fun c5 r5=>?_
 have l5:=r5.len
 dsimp only
 refine aas (a1z _) fun cd hcd _=>?_
 refine abe (by omega) fun c6 r6=>?_
 have l6:=r6.len
 dsimp only
 refine aas (a6g s _ hs.len.m hs.len.e) fun ty _ _=>?_
 refine abe (by omega) fun c7 r7=>?_
 have l7:=r7.len
 dsimp only
 refine aas (a1l m hi hl hf.union) fun un _ _=>?_
 refine abe (by omega) fun c8 r8=>?_
 have l8:=r8.len
 dsimp only
 refine aas (a1n s _ hs.len.e (fun e he=>(hs.enum e he).items) hf.dflt) fun va _ hva=>?_
 refine abe (by omega) fun c9 r9=>?_
 have l9:=r9.len
 dsimp only
 obtain ⟨c10,hn,r10⟩:=afh (t:=2) (num:=(((m.fld 1).asList.getD i .bad).fld 0).asInt) (d:=d) (acc:=c9) (by omega) hf.notes hf.note
 refine abg hn ?_
 refine ⟨_,rfl,c10,?_,?_⟩
 ·rw [aa4 i (by omega)]
 ·refine (((((((((r1.trans r2).trans r3).trans r4).trans r5).trans r6).trans r7).trans r8).trans r9).trans r10).mono (by omega) ?_
  rintro ⟨⟨⟨⟨⟨⟨⟨⟨⟨p1,p2⟩,_⟩,_⟩,_⟩,p6⟩,_⟩,_⟩,p9⟩,_⟩
  refine ⟨fun h0=>?_,?_,?_,?_,fun hd=>?_⟩
  ·have hd:decide ((i:Int)>(0:Int))=true:=decide_eq_true (by omega)
   rw [hd,cond_true,al1 (by omega) (by omega),Int.toNat_natCast] at p2
   have:=of_decide_eq_false p2
   omega
  ·by_cases h1:(((m.fld 1).asList.getD i .bad).fld 0).asInt<1
   ·rw [decide_eq_true h1] at p1;cases p1
   ·omega
  ·by_cases h1:(((m.fld 1).asList.getD i .bad).fld 0).asInt<1
   ·rw [decide_eq_true h1] at p1;cases p1
   ·rw [decide_eq_false h1,cond_false] at p1
    have:=of_decide_eq_false p1
    omega
  ·have:cd=true:=by simpa using p6
   rw [hcd,this]
  ·have:va=true:=by simpa using p9
   exact hva this hd
def MsgV (m:PV):Prop:=∀ i,i<(m.fld 1).asList.length->FldV m i
theorem akj (s:List UInt8) (h:s.length<=1048576):Ret (F103 0 s) fun u=>u=defP s:=⟨_,ax4 s h,rfl⟩
theorem atv {s m:PV}{fin:List PV} (hs:SOk s) (hm:OkMsg m) (hfin:fin.length=(s.fld 0).asList.length):
 Ret (F70 0 s m fin) fun q=>q.length<=6+12*(m.fld 1).asList.length+2*(m.fld 2).asList.length+(m.fld 3).asList.length/\(q=[]->MsgV m):=by
 have hl:=hm.fields;have hsp:=hm.spans;have hg:=hm.gone
 unfold F70
 refine aas (akj _ hm.name) fun u _ _=>?_
 refine abe (by simp) fun c1 r1=>?_
 have l1:=r1.len
 simp only [List.length_nil] at l1
 dsimp only
 refine abe (by omega) fun c2 r2=>?_
 have l2:=r2.len
 dsimp only
 obtain ⟨c3,q1,q2,q3⟩:∃ c3,aaf 0 (S70_6step 0) (fin,(),(),(),(0:Int),s,m,(m.fld 0).asStr,c2)=some (fin,(),(),(),s,m,(m.fld 0).asStr,c3)/\Ad c2 c3 (12*(m.fld 1).asList.length) True/\(c3=[]->MsgV m):=by
  obtain ⟨c3,h1,h2,h3⟩:=acd (step:=S70_6step 0) (fun i c=>(fin,(),(),(),((i:Nat):Int),s,m,(m.fld 0).asStr,c)) (m.fld 1).asList.length (fun c=>(fin,(),(),(),s,m,(m.fld 0).asStr,c)) (fun i c=>Ad c2 c (12*i) True/\(c=[]->∀ j,j<i->FldV m j)) (fun i c hi hI=>by
   have hc:=hI.1.len
   obtain ⟨r,h1,c',rfl,h2⟩:=a2o (fin:=fin) (d:=(m.fld 0).asStr) (acc:=c) hs hm hi (by omega)
   refine ⟨c',h1,(hI.1.trans h2).mono (by omega) fun _=>trivial,fun e j hj=>?_⟩
   obtain ⟨e1,e2⟩:=h2.nil e
   by_cases hji:j=i
   ·subst hji;exact e2
   ·exact hI.2 e1 j (by omega)) (fun c _=>by
   simp only [S70_6step,S70_6,decN,cond_false]) (m.fld 1).asList.length 0 c2 (by omega) ⟨(Ad.refl c2).mono (by omega) fun _=>trivial,fun _ j hj=>by omega⟩
  exact ⟨c3,h1,h2,fun e i hi=>h3 e i hi⟩
 have l3:=q2.len
 refine abg q1 ?_
 dsimp only
 obtain ⟨c4,s1,s2⟩:=asi (l:=(m.fld 2).asList) (a:=1) (b:=65535) (d:=(m.fld 0).asStr) (acc:=c3) hsp (by omega)
 have l4:=s2.len
 refine abg s1 ?_
 dsimp only
 obtain ⟨c5,t1,t2⟩:∃ c5,aaf 0 (S70_27step 0) (fin,(),(),(),(0:Int),s,m,(m.fld 0).asStr,c4)=some (fin,(),(),(),s,m,(m.fld 0).asStr,c5)/\Ad c4 c5 (m.fld 3).asList.length True:=by
  obtain ⟨c5,h1,h2⟩:=acd (step:=S70_27step 0) (fun i c=>(fin,(),(),(),((i:Nat):Int),s,m,(m.fld 0).asStr,c)) (m.fld 3).asList.length (fun c=>(fin,(),(),(),s,m,(m.fld 0).asStr,c)) (fun i c=>Ad c4 c i True) (fun i c hi hI=>by
   have hc:=hI.len
   have hlen:=hm.goneS _ (abb hi)
   obtain ⟨c',h1,h2⟩:=ayb (bad:=!(aqh ((m.fld 3).asList.getD i .bad).asStr)) (num:=-1) (e:=7) (d:=(m.fld 0).asStr) (acc:=c) (by omega)
   refine ⟨c',?_,(hI.trans h2).mono (Nat.le_refl _) fun _=>trivial⟩
   simp only [S70_27step,S70_27,decL i _ hi,cond_true,aab,decide_eq_true hi,Int.toNat_natCast,aie _ (show ((m.fld 3).asList.getD i .bad).asStr.length<=9223372036854775000 by omega),Option.bind_some,h1,aa4 i (by omega)]) (fun c _=>by
   simp only [S70_27step,S70_27,decN,cond_false]) (m.fld 3).asList.length 0 c4 (by omega) (Ad.refl c4)
  exact ⟨c5,h1,h2⟩
 have l5:=t2.len
 refine abg t1 ?_
 dsimp only
 obtain ⟨c6,n1,n2⟩:=afh (l:=(m.fld 4).asList) (t:=1) (num:=-1) (d:=(m.fld 0).asStr) (acc:=c5) (by omega) hm.notes hm.note
 have l6:=n2.len
 refine abg n1 ?_
 dsimp only
 refine aas (a0g hfin hs.len.m hl) fun nd _ _=>?_
 refine abe (by omega) fun c7 r7=>?_
 have l7:=r7.len
 refine ⟨c7,rfl,by omega,fun e=>?_⟩
 obtain ⟨e6,_⟩:=r7.nil e
 obtain ⟨e5,_⟩:=n2.nil e6
 obtain ⟨e4,_⟩:=t2.nil e5
 obtain ⟨e3,_⟩:=s2.nil e4
 exact q3 e3
end Go.Ab
namespace Go.Ab
open Go
set_option maxRecDepth 100000
structure ItemV (m:PV) (i:Nat):Prop where
 up:0<i->(((m.fld 2).asList.getD (i-1) .bad).fld 1).asInt<(((m.fld 2).asList.getD i .bad).fld 1).asInt
 pos:0<=(((m.fld 2).asList.getD i .bad).fld 1).asInt
 top:(((m.fld 2).asList.getD i .bad).fld 1).asInt<=2147483647
def ax7 (m:PV):Prop:=∀ i,i<(m.fld 2).asList.length->ItemV m i
theorem ax3 {m:PV}{d:List UInt8}{acc:List PV}{f:PV}{i:Nat} (hi:i<(m.fld 2).asList.length) (hl:(m.fld 2).asList.length<=1048576):
 ∃ tw,aaf 0 (S71_12step 0) ((),(),((i:Nat):Int),(),false,(0:Int),m,d,acc,f)=some ((),(),((i:Nat):Int),(),tw,m,d,acc,f):=by
 obtain ⟨tw,h1,_⟩:=acd (step:=S71_12step 0) (fun j (b:Bool)=>((),(),((i:Nat):Int),(),b,((j:Nat):Int),m,d,acc,f)) i (fun b=>((),(),((i:Nat):Int),(),b,m,d,acc,f)) (fun _ _=>True) (fun j b hj _=>by
  simp only [S71_12step,S71_12,decL j _ hj,cond_true,aab,decide_eq_true (show j<(m.fld 2).asList.length by omega),Int.toNat_natCast,aa4 j (by omega)]
  cases (((m.fld 2).asList.getD j .bad).fld 0).asStr==(f.fld 0).asStr with
  | true=>exact ⟨true,rfl,trivial⟩
  | false=>exact ⟨b,rfl,trivial⟩) (fun b _=>by
  simp only [S71_12step,S71_12,decN,cond_false]) i 0 false (by omega) trivial
 exact ⟨tw,h1⟩
theorem azr {m:PV}{d:List UInt8}{acc:List PV}{i:Nat} (hm:OkEnum m) (hi:i<(m.fld 2).asList.length) (ha:acc.length<50000000000):
 Ret (S71_7step 0 ((),(),((i:Nat):Int),m,d,acc)) fun r=>∃ acc',r=.inl ((),(),((i+1:Nat):Int),m,d,acc')/\Ad acc acc' 6 (ItemV m i):=by
 have hl:=hm.items
 have hf:=hm.item _ (abb hi)
 obtain ⟨tw,htw⟩:=ax3 (m:=m) (d:=d) (acc:=acc) (f:=(m.fld 2).asList.getD i .bad) hi hl
 simp only [S71_7step,S71_7,decL i _ hi,cond_true,aab,decide_eq_true hi,Int.toNat_natCast]
 refine abg htw ?_
 dsimp only
 refine abe (by omega) fun c1 r1=>?_
 have l1:=r1.len
 dsimp only
 refine adq (ak6 hi hl) ?_
 refine abe (by omega) fun c2 r2=>?_
 have l2:=r2.len
 dsimp only
 refine aas (aey _ hf.name) fun u _ _=>?_
 refine abe (by omega) fun c3 r3=>?_
 have l3:=r3.len
 dsimp only
 refine abe (by omega) fun c4 r4=>?_
 have l4:=r4.len
 dsimp only
 refine aas (aku _ _ hm.spans) fun rs _ _=>?_
 refine abe (by omega) fun c5 r5=>?_
 have l5:=r5.len
 dsimp only
 obtain ⟨c6,hn,r6⟩:=afh (t:=4) (num:=(((m.fld 2).asList.getD i .bad).fld 1).asInt) (d:=d) (acc:=c5) (by omega) hf.notes hf.note
 refine abg hn ?_
 refine ⟨_,rfl,c6,?_,?_⟩
 ·rw [aa4 i (by omega)]
 ·refine (((((r1.trans r2).trans r3).trans r4).trans r5).trans r6).mono (by omega) ?_
  rintro ⟨⟨⟨⟨⟨p1,p2⟩,_⟩,_⟩,_⟩,_⟩
  refine ⟨fun h0=>?_,?_,?_⟩
  ·have hd:decide ((i:Int)>(0:Int))=true:=decide_eq_true (by omega)
   rw [hd,cond_true,al1 (by omega) (by omega),Int.toNat_natCast] at p2
   have:=of_decide_eq_false p2
   omega
  ·by_cases h1:(((m.fld 2).asList.getD i .bad).fld 1).asInt<0
   ·rw [decide_eq_true h1] at p1;cases p1
   ·omega
  ·by_cases h1:(((m.fld 2).asList.getD i .bad).fld 1).asInt<0
   ·rw [decide_eq_true h1] at p1;cases p1
   ·rw [decide_eq_false h1,cond_false] at p1
    have:=of_decide_eq_false p1
    omega
theorem a2h {m:PV} (hm:OkEnum m):Ret (F71 0 m) fun q=>q.length<=6+6*(m.fld 2).asList.length+2*(m.fld 3).asList.length/\(q=[]->ax7 m):=by
 have hl:=hm.items;have hsp:=hm.spans
 unfold F71
 refine aas (akj _ hm.name) fun u _ _=>?_
 refine abe (by simp) fun c1 r1=>?_
 have l1:=r1.len
 simp only [List.length_nil] at l1
 dsimp only
 refine abe (by omega) fun c2 r2=>?_
 have l2:=r2.len
 dsimp only
 refine adq ?_ ?_
 ·by_cases h0:(((m.fld 2).asList.length:Nat):Int)>0
  ·rw [decide_eq_true h0,show aaa (0:Int) (m.fld 2).asList.length=aaa ((0:Nat):Int) (m.fld 2).asList.length from rfl,aab,decide_eq_true (show 0<(m.fld 2).asList.length by omega)];rfl
  ·rw [decide_eq_false h0];exact azk _
 refine abe (by omega) fun c3 r3=>?_
 have l3:=r3.len
 dsimp only
 obtain ⟨c4,q1,q2,q3⟩:∃ c4,aaf 0 (S71_7step 0) ((),(),(0:Int),m,(m.fld 0).asStr,c3)=some ((),(),m,(m.fld 0).asStr,c4)/\Ad c3 c4 (6*(m.fld 2).asList.length) True/\(c4=[]->ax7 m):=by
  obtain ⟨c4,h1,h2,h3⟩:=acd (step:=S71_7step 0) (fun i c=>((),(),((i:Nat):Int),m,(m.fld 0).asStr,c)) (m.fld 2).asList.length (fun c=>((),(),m,(m.fld 0).asStr,c)) (fun i c=>Ad c3 c (6*i) True/\(c=[]->∀ j,j<i->ItemV m j)) (fun i c hi hI=>by
   have hc:=hI.1.len
   obtain ⟨r,h1,c',rfl,h2⟩:=azr (d:=(m.fld 0).asStr) (acc:=c) hm hi (by omega)
   refine ⟨c',h1,(hI.1.trans h2).mono (by omega) fun _=>trivial,fun e j hj=>?_⟩
   obtain ⟨e1,e2⟩:=h2.nil e
   by_cases hji:j=i
   ·subst hji;exact e2
   ·exact hI.2 e1 j (by omega)) (fun c _=>by
   simp only [S71_7step,S71_7,decN,cond_false]) (m.fld 2).asList.length 0 c3 (by omega) ⟨(Ad.refl c3).mono (by omega) fun _=>trivial,fun _ j hj=>by omega⟩
  exact ⟨c4,h1,h2,fun e i hi=>h3 e i hi⟩
 have l4:=q2.len
 refine abg q1 ?_
 dsimp only
 obtain ⟨c5,s1,s2⟩:=asi (l:=(m.fld 3).asList) (a:=0) (b:=2147483647) (d:=(m.fld 0).asStr) (acc:=c4) hsp (by omega)
 have l5:=s2.len
 refine abg s1 ?_
 dsimp only
 obtain ⟨c6,n1,n2⟩:=afh (l:=(m.fld 4).asList) (t:=3) (num:=-1) (d:=(m.fld 0).asStr) (acc:=c5) (by omega) hm.notes hm.note
 have l6:=n2.len
 refine abg n1 ?_
 refine ⟨c6,rfl,by omega,fun e=>?_⟩
 obtain ⟨e5,_⟩:=n2.nil e
 obtain ⟨e4,_⟩:=s2.nil e5
 exact q3 e4
structure MethV (m:PV) (i:Nat):Prop where
 name:ajo (((m.fld 1).asList.getD i .bad).fld 0).asStr=true
 up:0<i->(Op.bytesLess (((m.fld 1).asList.getD i .bad).fld 0).asStr (((m.fld 1).asList.getD (i-1) .bad).fld 0).asStr||(((m.fld 1).asList.getD i .bad).fld 0).asStr==(((m.fld 1).asList.getD (i-1) .bad).fld 0).asStr)=false
 shape:1<=(((m.fld 1).asList.getD i .bad).fld 3).asInt/\(((m.fld 1).asList.getD i .bad).fld 3).asInt<=4
def SvcV (m:PV):Prop:=∀ i,i<(m.fld 1).asList.length->MethV m i
theorem a0e {s m:PV}{d:List UInt8}{acc:List PV}{i:Nat} (hs:SOk s) (hm:OkSvc m) (hi:i<(m.fld 1).asList.length) (ha:acc.length<50000000000):
 Ret (S72_6step 0 ((),(),(),((i:Nat):Int),s,m,d,acc)) fun r=>∃ acc',r=.inl ((),(),(),((i+1:Nat):Int),s,m,d,acc')/\Ad acc acc' 5 (MethV m i):=by
 have hl:=hm.meths
 have hf:=hm.meth _ (abb hi)
 simp only [S72_6step,S72_6,decL i _ hi,cond_true,aab,decide_eq_true hi,Int.toNat_natCast]
 refine abg (ast _ hf.name) ?_
 refine abe (by omega) fun c1 r1=>?_
 have l1:=r1.len
 dsimp only
 refine adq (ak6 hi hl) ?_
 refine abe (by omega) fun c2 r2=>?_
 have l2:=r2.len
 dsimp only
 refine aas (ae8 s _ hs.len.m) fun a _ _=>?_
 refine aas (P:=fun _=>True) (aa7 ((fun ⟨r,h,_⟩=>⟨r,h,trivial⟩:Ret _ _->Ret _ _) (ae8 s _ hs.len.m)) (aan _)) fun b _ _=>?_
 refine abe (by omega) fun c3 r3=>?_
 have l3:=r3.len
 dsimp only
 refine abe (by omega) fun c4 r4=>?_
 have l4:=r4.len
 dsimp only
 obtain ⟨c5,hn,r5⟩:=afh (t:=6) (num:=((i:Nat):Int)) (d:=d) (acc:=c4) (by omega) hf.notes hf.note
 refine abg hn ?_
 refine ⟨_,rfl,c5,?_,?_⟩
 ·rw [aa4 i (by omega)]
 ·refine ((((r1.trans r2).trans r3).trans r4).trans r5).mono (by omega) ?_
  rintro ⟨⟨⟨⟨p1,p2⟩,_⟩,p4⟩,_⟩
  refine ⟨by simpa using p1,fun h0=>?_,?_⟩
  ·have hd:decide ((i:Int)>(0:Int))=true:=decide_eq_true (by omega)
   rw [hd,cond_true,al1 (by omega) (by omega),Int.toNat_natCast] at p2
   exact p2
  ·by_cases h1:(((m.fld 1).asList.getD i .bad).fld 3).asInt<1
   ·rw [decide_eq_true h1] at p4;cases p4
   ·rw [decide_eq_false h1,cond_false] at p4
    have:=of_decide_eq_false p4
    omega
theorem a6f {s m:PV} (hs:SOk s) (hm:OkSvc m):Ret (F72 0 s m) fun q=>q.length<=3+5*(m.fld 1).asList.length/\(q=[]->SvcV m/\defP (m.fld 0).asStr=true):=by
 have hl:=hm.meths
 unfold F72
 refine aas (akj _ hm.name) fun u _ hu=>?_
 refine abe (by simp) fun c1 r1=>?_
 have l1:=r1.len
 simp only [List.length_nil] at l1
 dsimp only
 refine abe (by omega) fun c2 r2=>?_
 have l2:=r2.len
 dsimp only
 obtain ⟨c3,q1,q2,q3⟩:∃ c3,aaf 0 (S72_6step 0) ((),(),(),(0:Int),s,m,(m.fld 0).asStr,c2)=some ((),(),s,m,(m.fld 0).asStr,c3)/\Ad c2 c3 (5*(m.fld 1).asList.length) True/\(c3=[]->SvcV m):=by
  obtain ⟨c3,h1,h2,h3⟩:=acd (step:=S72_6step 0) (fun i c=>((),(),(),((i:Nat):Int),s,m,(m.fld 0).asStr,c)) (m.fld 1).asList.length (fun c=>((),(),s,m,(m.fld 0).asStr,c)) (fun i c=>Ad c2 c (5*i) True/\(c=[]->∀ j,j<i->MethV m j)) (fun i c hi hI=>by
   have hc:=hI.1.len
   obtain ⟨r,h1,c',rfl,h2⟩:=a0e (d:=(m.fld 0).asStr) (acc:=c) hs hm hi (by omega)
   refine ⟨c',h1,(hI.1.trans h2).mono (by omega) fun _=>trivial,fun e j hj=>?_⟩
   obtain ⟨e1,e2⟩:=h2.nil e
   by_cases hji:j=i
   ·subst hji;exact e2
   ·exact hI.2 e1 j (by omega)) (fun c _=>by
   simp only [S72_6step,S72_6,decN,cond_false]) (m.fld 1).asList.length 0 c2 (by omega) ⟨(Ad.refl c2).mono (by omega) fun _=>trivial,fun _ j hj=>by omega⟩
  exact ⟨c3,h1,h2,fun e i hi=>h3 e i hi⟩
 have l3:=q2.len
 refine abg q1 ?_
 dsimp only
 obtain ⟨c4,n1,n2⟩:=afh (l:=(m.fld 2).asList) (t:=5) (num:=-1) (d:=(m.fld 0).asStr) (acc:=c3) (by omega) hm.notes hm.note
 have l4:=n2.len
 refine abg n1 ?_
 refine ⟨c4,rfl,by omega,fun e=>?_⟩
 obtain ⟨e3,_⟩:=n2.nil e
 obtain ⟨e2,_⟩:=q2.nil e3
 obtain ⟨e1,_⟩:=r2.nil e2
 obtain ⟨_,e0⟩:=r1.nil e1
 exact ⟨q3 e3,by rw [<-hu];simpa using e0⟩
theorem abo (v:PV) (i:Nat):aam (v.fld i)<=aam v:=by
 unfold PV.fld
 cases v with
 | agg xs=>
  show aam (xs.getD i .bad)<=aaw xs+1
  by_cases h:i<xs.length
  ·have:xs.getD i .bad∈xs:=by rw [aav h];exact List.getElem_mem h
   have:=adh this;omega
  ·have:xs.getD i .bad=.bad:=by simp [List.getD,List.getElem?_eq_none (Nat.le_of_not_lt h)]
   rw [this];simp [aam]
 | _=>simp [PV.parts,aam]
theorem acb (v:PV) (i:Nat):(v.fld i).asList.length<=aam v:=by
 have:=abo v i;have:=ad9 (v.fld i);omega
theorem ae2 (v:PV):aaw v.asList<=aam v:=by cases v<;>simp [PV.asList,aaw,aam]
theorem alo:∀ (l:List PV) (i:Nat),i<l.length->aaw (l.take i)+aam (l.getD i .bad)=aaw (l.take (i+1)):=by
 intro l
 induction l with
 | nil=>intro i h;simp at h
 | cons x l ih=>
  intro i h
  cases i with
  | zero=>simp [aaw]
  | succ i=>
   have:=ih i (by simpa using h)
   simp only [List.take_succ_cons,aaw,List.getD_cons_succ]
   omega
theorem aj1 (l:List PV) (i:Nat):aaw (l.take i)<=aaw l:=by
 induction l generalizing i with
 | nil=>simp
 | cons x l ih=>
  cases i with
  | zero=>simp [aaw]
  | succ i=>simp only [List.take_succ_cons,aaw];have:=ih i;omega
structure SchemaV (s:PV):Prop where
 ascM:∀ i,i+1<(s.fld 0).asList.length->ascB (nmL (s.fld 0).asList) i=true
 ascE:∀ i,i+1<(s.fld 1).asList.length->ascB (nmL (s.fld 1).asList) i=true
 ascS:∀ i,i+1<(s.fld 2).asList.length->ascB (nmL (s.fld 2).asList) i=true
 msg:∀ i,i<(s.fld 0).asList.length->MsgV ((s.fld 0).asList.getD i .bad)
 enum:∀ i,i<(s.fld 1).asList.length->ax7 ((s.fld 1).asList.getD i .bad)
 svc:∀ i,i<(s.fld 2).asList.length->SvcV ((s.fld 2).asList.getD i .bad)
 svcN:∀ i,i<(s.fld 2).asList.length->defP (((s.fld 2).asList.getD i .bad).fld 0).asStr=true
 meet:F68 0 (nmL (s.fld 0).asList) (nmL (s.fld 1).asList)=some false
theorem a4s {s:PV} (hs:SOk s) (hb:aam s<=1048576):Ret (F47 0 s) fun q=>q=[]->SchemaV s:=by
 have h1:=hs.len.m;have h2:=hs.len.e;have h3:=hs.len.v
 have hn:∀ l:List PV,(nmL l).length=l.length:=fun l=>by simp [nmL]
 have one:∀ (w:Int) (acc:List PV),(w=1∨w=2∨w=3)->acc.length<50000000000->∃ acc',S47_4step 0 ((),(),w,s,([]:List UInt8),acc)=some (.inl ((),(),IntKind.wrap .i64 (w+1),s,([]:List UInt8),acc'))/\Ad acc acc' 2 (∀ i,i+1<(nmL (bif w==1 then (s.fld 0).asList else bif w==2 then (s.fld 1).asList else (s.fld 2).asList)).length->ascB (nmL (bif w==1 then (s.fld 0).asList else bif w==2 then (s.fld 1).asList else (s.fld 2).asList)) i=true):=by
  intro w acc hw ha
  have hle:decide (w<=3)=true:=decide_eq_true (by omega)
  have hll:(nmL (bif w==1 then (s.fld 0).asList else bif w==2 then (s.fld 1).asList else (s.fld 2).asList)).length<=1048576:=by
   rw [hn];cases w==1<;>cases w==2<;>simp<;>omega
  have goal:Ret (S47_4step 0 ((),(),w,s,([]:List UInt8),acc)) fun r=>∃ acc',r=.inl ((),(),IntKind.wrap .i64 (w+1),s,([]:List UInt8),acc')/\Ad acc acc' 2 (∀ i,i+1<(nmL (bif w==1 then (s.fld 0).asList else bif w==2 then (s.fld 1).asList else (s.fld 2).asList)).length->ascB (nmL (bif w==1 then (s.fld 0).asList else bif w==2 then (s.fld 1).asList else (s.fld 2).asList)) i=true):=by
   simp only [S47_4step,S47_4,hle,cond_true]
   refine abg (ak9 hs.len hw) ?_
   refine abe (by omega) fun c1 r1=>?_
   have l1:=r1.len
   dsimp only
   refine aas (a4t hll) fun b _ hbt=>?_
   refine abe (by omega) fun c2 r2=>?_
   refine ⟨_,rfl,c2,rfl,(r1.trans r2).mono (by omega) ?_⟩
   rintro ⟨_,p2⟩
   exact hbt (by simpa using p2)
  obtain ⟨r,e,acc',rfl,h⟩:=goal
  exact ⟨acc',e,h⟩
 obtain ⟨a1,s1,d1⟩:=one 1 [] (Or.inl rfl) (by simp)
 have la1:=d1.len
 simp only [List.length_nil] at la1
 obtain ⟨a2,s2,d2⟩:=one 2 a1 (Or.inr (Or.inl rfl)) (by omega)
 have la2:=d2.len
 obtain ⟨a3,s3,d3⟩:=one 3 a2 (Or.inr (Or.inr rfl)) (by omega)
 have la3:=d3.len
 have w1:IntKind.wrap .i64 ((1:Int)+1)=2:=by decide
 have w2:IntKind.wrap .i64 ((2:Int)+1)=3:=by decide
 have w3:IntKind.wrap .i64 ((3:Int)+1)=4:=by decide
 rw [w1] at s1;rw [w2] at s2;rw [w3] at s3
 have hloop:aaf 0 (S47_4step 0) ((),(),(1:Int),s,([]:List UInt8),[])=some ((),(),s,([]:List UInt8),a3):=by
  show aay _ _=_
  rw [aa0 s1,aa0 s2,aa0 s3]
  refine aah ?_
  simp only [S47_4step,S47_4,show decide ((4:Int)<=3)=false from rfl,cond_false]
 unfold F47
 refine abg hloop ?_
 dsimp only
 refine abg (ak9 hs.len (w:=1) (Or.inl rfl)) ?_
 refine abg (ak9 hs.len (w:=2) (Or.inr (Or.inl rfl))) ?_
 refine abg (ak9 hs.len (w:=3) (Or.inr (Or.inr rfl))) ?_
 have e1:((1:Int)==1)=true:=rfl
 have e21:((2:Int)==1)=false:=rfl
 have e22:((2:Int)==2)=true:=rfl
 have e31:((3:Int)==1)=false:=rfl
 have e32:((3:Int)==2)=false:=rfl
 simp only [e1,e21,e22,e31,e32,cond_true,cond_false] at d1 d2 d3 ⊢
 rw [hn] at d1 d2 d3
 refine aas (apr (by rw [hn];omega) (by rw [hn];omega)) fun b1 hb1 _=>?_
 refine aas (P:=fun _=>True) (aa7 (apr (by rw [hn];omega) (by rw [hn];omega)) (aan _)) fun b2 _ _=>?_
 refine aas (P:=fun _=>True) (aa7 (apr (by rw [hn];omega) (by rw [hn];omega)) (aan _)) fun b3 _ _=>?_
 refine abe (by omega) fun a4 d4=>?_
 have la4:=d4.len
 dsimp only
 refine aas (aw0 hs.len.m fun m hm=>(hs.msg m hm).fields) fun fin _ hfin=>?_
 have b0:aaw (s.fld 0).asList<=1048576:=by have:=ae2 (s.fld 0);have:=abo s 0;omega
 have b1':aaw (s.fld 1).asList<=1048576:=by have:=ae2 (s.fld 1);have:=abo s 1;omega
 have b2':aaw (s.fld 2).asList<=1048576:=by have:=ae2 (s.fld 2);have:=abo s 2;omega
 obtain ⟨a5,q5,d5,f5⟩:∃ a5,aaf 0 (S47_15step 0) ((),(),fin,(0:Int),s,([]:List UInt8),a4)=some ((),(),s,([]:List UInt8),a5)/\Ad a4 a5 (30*1048576) True/\(a5=[]->∀ i,i<(s.fld 0).asList.length->MsgV ((s.fld 0).asList.getD i .bad)):=by
  obtain ⟨a5,h1,h2,h3⟩:=acd (step:=S47_15step 0) (fun i c=>((),(),fin,((i:Nat):Int),s,([]:List UInt8),c)) (s.fld 0).asList.length (fun c=>((),(),s,([]:List UInt8),c)) (fun i c=>Ad a4 c (30*aaw ((s.fld 0).asList.take i)) True/\(c=[]->∀ j,j<i->MsgV ((s.fld 0).asList.getD j .bad))) (fun i c hi hI=>by
   have hc:=hI.1.len
   have ht:=aj1 (s.fld 0).asList i
   have ht1:=alo (s.fld 0).asList i hi
   have hm:=hs.msg _ (abb hi)
   obtain ⟨q,g1,g2,g3⟩:=atv (fin:=fin) hs hm hfin
   have k1:=acb ((s.fld 0).asList.getD i .bad) 1
   have k2:=acb ((s.fld 0).asList.getD i .bad) 2
   have k3:=acb ((s.fld 0).asList.getD i .bad) 3
   have k4:=ad2 ((s.fld 0).asList.getD i .bad)
   have kb:aam ((s.fld 0).asList.getD i .bad)<=1048576:=by have:=adh (abb hi);omega
   refine ⟨c++q,?_,(hI.1.trans (⟨q,rfl,Nat.le_refl _,fun _=>trivial⟩:Ad c (c++q) q.length True)).mono (by omega) fun _=>trivial,fun e j hj=>?_⟩
   ·simp only [S47_15step,S47_15,decL i _ hi,cond_true,aab,decide_eq_true hi,Int.toNat_natCast,g1,Option.bind_some,decide_eq_true (show c.length+q.length<=aao by unfold aao;omega),aa4 i (by omega)]
   ·obtain ⟨e1,e2⟩:=List.append_eq_nil_iff.1 e
    by_cases hji:j=i
    ·subst hji;exact g3 e2
    ·exact hI.2 e1 j (by omega)) (fun c _=>by
   simp only [S47_15step,S47_15,decN,cond_false]) (s.fld 0).asList.length 0 a4 (by omega) ⟨(Ad.refl a4).mono (by omega) fun _=>trivial,fun _ j hj=>by omega⟩
  rw [List.take_length] at h2
  exact ⟨a5,h1,h2.mono (by omega) id,h3⟩
 have la5:=d5.len
 refine abg q5 ?_
 dsimp only
 obtain ⟨a6,q6,d6,f6⟩:∃ a6,aaf 0 (S47_19step 0) ((),(),(0:Int),s,([]:List UInt8),a5)=some ((),(),s,([]:List UInt8),a6)/\Ad a5 a6 (30*1048576) True/\(a6=[]->∀ i,i<(s.fld 1).asList.length->ax7 ((s.fld 1).asList.getD i .bad)):=by
  obtain ⟨a6,h1,h2,h3⟩:=acd (step:=S47_19step 0) (fun i c=>((),(),((i:Nat):Int),s,([]:List UInt8),c)) (s.fld 1).asList.length (fun c=>((),(),s,([]:List UInt8),c)) (fun i c=>Ad a5 c (30*aaw ((s.fld 1).asList.take i)) True/\(c=[]->∀ j,j<i->ax7 ((s.fld 1).asList.getD j .bad))) (fun i c hi hI=>by
   have hc:=hI.1.len
   have ht:=aj1 (s.fld 1).asList i
   have ht1:=alo (s.fld 1).asList i hi
   have hm:=hs.enum _ (abb hi)
   obtain ⟨q,g1,g2,g3⟩:=a2h hm
   have k1:=acb ((s.fld 1).asList.getD i .bad) 2
   have k2:=acb ((s.fld 1).asList.getD i .bad) 3
   have k4:=ad2 ((s.fld 1).asList.getD i .bad)
   have kb:aam ((s.fld 1).asList.getD i .bad)<=1048576:=by have:=adh (abb hi);omega
   refine ⟨c++q,?_,(hI.1.trans (⟨q,rfl,Nat.le_refl _,fun _=>trivial⟩:Ad c (c++q) q.length True)).mono (by omega) fun _=>trivial,fun e j hj=>?_⟩
   ·simp only [S47_19step,S47_19,decL i _ hi,cond_true,aab,decide_eq_true hi,Int.toNat_natCast,g1,Option.bind_some,decide_eq_true (show c.length+q.length<=aao by unfold aao;omega),aa4 i (by omega)]
   ·obtain ⟨e1,e2⟩:=List.append_eq_nil_iff.1 e
    by_cases hji:j=i
    ·subst hji;exact g3 e2
    ·exact hI.2 e1 j (by omega)) (fun c _=>by
   simp only [S47_19step,S47_19,decN,cond_false]) (s.fld 1).asList.length 0 a5 (by omega) ⟨(Ad.refl a5).mono (by omega) fun _=>trivial,fun _ j hj=>by omega⟩
  rw [List.take_length] at h2
  exact ⟨a6,h1,h2.mono (by omega) id,h3⟩
 have la6:=d6.len
 refine abg q6 ?_
 dsimp only
 obtain ⟨a7,q7,d7,f7⟩:∃ a7,aaf 0 (S47_23step 0) ((),(),(0:Int),s,([]:List UInt8),a6)=some ((),s,([]:List UInt8),a7)/\Ad a6 a7 (30*1048576) True/\(a7=[]->∀ i,i<(s.fld 2).asList.length->SvcV ((s.fld 2).asList.getD i .bad)/\defP (((s.fld 2).asList.getD i .bad).fld 0).asStr=true):=by
  obtain ⟨a7,h1,h2,h3⟩:=acd (step:=S47_23step 0) (fun i c=>((),(),((i:Nat):Int),s,([]:List UInt8),c)) (s.fld 2).asList.length (fun c=>((),s,([]:List UInt8),c)) (fun i c=>Ad a6 c (30*aaw ((s.fld 2).asList.take i)) True/\(c=[]->∀ j,j<i->SvcV ((s.fld 2).asList.getD j .bad)/\defP (((s.fld 2).asList.getD j .bad).fld 0).asStr=true)) (fun i c hi hI=>by
   have hc:=hI.1.len
   have ht:=aj1 (s.fld 2).asList i
   have ht1:=alo (s.fld 2).asList i hi
   have hm:=hs.svc _ (abb hi)
   obtain ⟨q,g1,g2,g3⟩:=a6f hs hm
   have k1:=acb ((s.fld 2).asList.getD i .bad) 1
   have k4:=ad2 ((s.fld 2).asList.getD i .bad)
   have kb:aam ((s.fld 2).asList.getD i .bad)<=1048576:=by have:=adh (abb hi);omega
   refine ⟨c++q,?_,(hI.1.trans (⟨q,rfl,Nat.le_refl _,fun _=>trivial⟩:Ad c (c++q) q.length True)).mono (by omega) fun _=>trivial,fun e j hj=>?_⟩
   ·simp only [S47_23step,S47_23,decL i _ hi,cond_true,aab,decide_eq_true hi,Int.toNat_natCast,g1,Option.bind_some,decide_eq_true (show c.length+q.length<=aao by unfold aao;omega),aa4 i (by omega)]
   ·obtain ⟨e1,e2⟩:=List.append_eq_nil_iff.1 e
    by_cases hji:j=i
    ·subst hji;exact g3 e2
    ·exact hI.2 e1 j (by omega)) (fun c _=>by
   simp only [S47_23step,S47_23,decN,cond_false]) (s.fld 2).asList.length 0 a6 (by omega) ⟨(Ad.refl a6).mono (by omega) fun _=>trivial,fun _ j hj=>by omega⟩
  rw [List.take_length] at h2
  exact ⟨a7,h1,h2.mono (by omega) id,h3⟩
 refine abg q7 ?_
 refine ⟨a7,rfl,fun e=>?_⟩
 have g7:=f7 e
 obtain ⟨e6,_⟩:=d7.nil e
 have g6:=f6 e6
 obtain ⟨e5,_⟩:=d6.nil e6
 have g5:=f5 e5
 obtain ⟨e4,_⟩:=d5.nil e5
 obtain ⟨e3,p4⟩:=d4.nil e4
 obtain ⟨ee2,p3⟩:=d3.nil e3
 obtain ⟨ee1,p2⟩:=d2.nil ee2
 obtain ⟨_,p1⟩:=d1.nil ee1
 have hbf:b1=false:=by
  cases hb:b1 with
  | false=>rfl
  | true=>rw [hb] at p4;cases p4
 exact ⟨p1,p2,p3,g5,g6,fun i hi=>(g7 i hi).1,fun i hi=>(g7 i hi).2,by rw [hb1,hbf]⟩
theorem asu {s:PV} (hs:SOk s) (hb:aam s<=1048576):Ret (F36 0 s) fun b=>b=true->SchemaV s:=by
 unfold F36
 refine aas (a4s hs hb) fun q _ hq=>⟨_,rfl,fun h=>hq ?_⟩
 have h:((q.length:Int)==(0:Int))=true:=h
 have:(q.length:Int)=0:=by simpa using h
 exact List.length_eq_zero_iff.1 (by omega)
end Go.Ab
