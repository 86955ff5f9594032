/- The specification's examination of schemas ends; what it says: messages, enums, services, all. -/
import Derived.Test.YthokbeimbdnnoaaGreatDoorPVldT
set_option linter.unusedVariables false
set_option linter.unusedSimpArgs false
set_option linter.unnecessarySimpa false
namespace Go.Ab
open Go
set_option maxRecDepth 100000
theorem aow {i:Nat} (h:1<=i) (o:i<=1048576):IntKind.wrap .i64 ((i:Int)-1)=((i-1:Nat):Int):=by rw [show (i:Int)-1=((i-1:Nat):Int) by omega];exact aa9 (by omega)
theorem aoy {i n:Nat} (o:i<n) (z:n<=1048576):imp (decide ((i:Int)>(0:Int))) (aaa (IntKind.wrap .i64 ((i:Int)-1)) n)=true:=by
 by_cases h:(i:Int)>0
 ·rw [Ag h,aow (by omega) (by omega),aab,Ag (show i-1<n by omega)];rfl
 ·rw [An h];exact a1p _
theorem ah1 {l:List PV}{i:Nat} (h:i<l.length):l.getD i .bad∈l:=by rw [aaf h];exact List.getElem_mem h
structure SOk (s:PV):Prop where
 len:SLen s
 msg:∀ m,m∈(s.fld 0).asList->OkMsg m
 enum:∀ m,m∈(s.fld 1).asList->OkEnum m
 svc:∀ m,m∈(s.fld 2).asList->OkSvc m
structure FldV (m:PV) (i:Nat):Prop where
 up:0<i->(((m.fld 1).asList.getD (i-1) .bad).fld 0).asInt<(((m.fld 1).asList.getD i .bad).fld 0).asInt
 card:F144 0 ((m.fld 1).asList.getD i .bad)=some true
 dflt:(((m.fld 1).asList.getD i .bad).fld 6).asBool=true->ac4 ((((m.fld 1).asList.getD i .bad).fld 4).fld 0).asInt (((m.fld 1).asList.getD i .bad).fld 7)=true
theorem a0e {s m:PV}{fin:List PV}{d:Bq}{acc:List PV}{f:PV}{i:Nat} (H:i<(m.fld 1).asList.length) (I:(m.fld 1).asList.length<=1048576):
 ∃ h,aag 0 (S79_11step 0) (fin,(),(),(),((i:Nat):Int),(),false,(0:Int),s,m,d,acc,f)=some (fin,(),(),(),((i:Nat):Int),(),h,s,m,d,acc,f):=by
 obtain ⟨h,o,_⟩:=acs (step:=S79_11step 0) (λj (b:Bool)=>(fin,(),(),(),((i:Nat):Int),(),b,((j:Nat):Int),s,m,d,acc,f)) i (λb=>(fin,(),(),(),((i:Nat):Int),(),b,s,m,d,acc,f)) (λ_ _=>True) (λj b z _=>by
  simp only [S79_11step,S79_11,decL j _ z,Af,aab,Ag (show j<(m.fld 1).asList.length by omega),Aj,aaz j (by omega)];cases (((m.fld 1).asList.getD j .bad).fld 1).asStr==(f.fld 1).asStr with
  | true=>exact ⟨true,rfl,trivial⟩
  | false=>exact ⟨b,rfl,trivial⟩) (λb _=>by
  simp only [S79_11step,S79_11,decN,Ah]) i 0 false (by omega) trivial
 exact ⟨h,o⟩
theorem a1e {s m:PV}{fin:List PV}{d:Bq}{acc:List PV}{i:Nat} (I:SOk s) (H:OkMsg m) (o:i<(m.fld 1).asList.length) (ha:acc.length<50000000000):
 Ret (S79_6step 0 (fin,(),(),(),((i:Nat):Int),s,m,d,acc)) λr=>∃ h,r=.inl (fin,(),(),(),((i+1:Nat):Int),s,m,d,h)/\Ad acc h 12 (FldV m i):=by
 have Z:=H.fields
 have z:=H.field _ (ah1 o)
 obtain ⟨tw,aa⟩:=a0e (s:=s) (m:=m) (fin:=fin) (d:=d) (acc:=acc) (f:=(m.fld 1).asList.getD i .bad) o Z
 simp only [S79_6step,S79_6,decL i _ o,Af,aab,Ag o,Aj]
 refine abf aa ?_
 dsimp only
 refine abb (by omega) λc1 r1=>?_
 have l1:=r1.len
 dsimp only
 refine adt (aoy o Z) ?_
 refine abb (by omega) λc2 r2=>?_
 have l2:=r2.len
 dsimp only
 refine abj (ae0 _ z.name) λu _ _=>?_
 refine abb (by omega) λc3 r3=>?_
 have l3:=r3.len
 dsimp only
 refine abb (by omega) λc4 r4=>?_
 have l4:=r4.len
 dsimp only
 refine abj (akm _ _ H.spans) λrs _ _=>?_
 refine abj (P:=λ_=>True) (acx (ax9 _ _ H.gone) (ab8 _)) λgn _ _=>?_
 refine abb (by omega) λc5 r5=>?_
 have l5:=r5.len
 dsimp only
 refine abj (a00 _) λcd M _=>?_
 refine abb (by omega) λc6 r6=>?_
 have l6:=r6.len
 dsimp only
 refine abj (a6r s _ I.len.m I.len.e) λty _ _=>?_
 refine abb (by omega) λc7 r7=>?_
 have l7:=r7.len
 dsimp only
 refine abj (a0g m o Z z.union) λun _ _=>?_
 refine abb (by omega) λc8 r8=>?_
 have l8:=r8.len
 dsimp only
 refine abj (a0j s _ I.len.e (λe he=>(I.enum e he).items) z.dflt) λva _ ab=>?_
 refine abb (by omega) λc9 r9=>?_
 have l9:=r9.len
 dsimp only
 obtain ⟨J,hn,ad⟩:=afi (t:=2) (num:=(((m.fld 1).asList.getD i .bad).fld 0).asInt) (d:=d) (acc:=c9) (by omega) z.notes z.note
 refine abf hn ?_
 refine ⟨_,rfl,J,?_,?_⟩
 ·rw [aaz i (by omega)]
 ·refine (((((((((r1.trans r2).trans r3).trans r4).trans r5).trans r6).trans r7).trans r8).trans r9).trans ad).mono (by omega) ?_;rintro ⟨⟨⟨⟨⟨⟨⟨⟨⟨_,p2⟩,_⟩,_⟩,_⟩,p6⟩,_⟩,_⟩,p9⟩,_⟩;refine ⟨λh0=>?_,?_,λO=>?_⟩
  ·have O:decide ((i:Int)>(0:Int))=true:=Ag (by omega);rw [O,Af,aow (by omega) (by omega),Aj] at p2;have:=of_decide_eq_false p2;omega
  ·have:cd=true:=by simpa using p6
   rw [M,this]
  ·have:va=true:=by simpa using p9
   exact ab this O
def MsgV (m:PV):Prop:=∀ i,i<(m.fld 1).asList.length->FldV m i
theorem aj8 (s:Bq) (h:s.length<=1048576):Ret (F141 0 s) λ_=>True:=⟨_,awz s h,trivial⟩
theorem as1 {s m:PV}{fin:List PV} (hs:SOk s) (o:OkMsg m) (aa:fin.length=(s.fld 0).asList.length):
 Ret (F79 0 s m fin) λq=>q.length<=6+12*(m.fld 1).asList.length+2*(m.fld 2).asList.length+(m.fld 3).asList.length/\(q=[]->MsgV m):=by
 have hl:=o.fields;have ad:=o.spans;have hg:=o.gone
 unfold F79
 refine abj (aj8 _ o.name) λu _ _=>?_
 refine abb (by simp) λc1 r1=>?_
 have l1:=r1.len
 simp only [Ao] at l1
 dsimp only
 refine abb (by omega) λO r2=>?_
 have l2:=r2.len
 dsimp only
 obtain ⟨z,q1,q2,q3⟩:∃ z,aag 0 (S79_6step 0) (fin,(),(),(),(0:Int),s,m,(m.fld 0).asStr,O)=some (fin,(),(),(),s,m,(m.fld 0).asStr,z)/\Ad O z (12*(m.fld 1).asList.length) True/\(z=[]->MsgV m):=by
  obtain ⟨z,H,h,h3⟩:=acs (step:=S79_6step 0) (λi c=>(fin,(),(),(),((i:Nat):Int),s,m,(m.fld 0).asStr,c)) (m.fld 1).asList.length (λc=>(fin,(),(),(),s,m,(m.fld 0).asStr,c)) (λi c=>Ad O c (12*i) True/\(c=[]->∀ j,j<i->FldV m j)) (λi c I M=>by
   have hc:=M.1.len;obtain ⟨r,H,c',rfl,h⟩:=a1e (fin:=fin) (d:=(m.fld 0).asStr) (acc:=c) hs o I (by omega);refine ⟨c',H,(M.1.trans h).mono (by omega) λ_=>trivial,λe j hj=>?_⟩;obtain ⟨e1,e2⟩:=h.nil e;by_cases ab:j=i
   ·subst ab;exact e2
   ·exact M.2 e1 j (by omega)) (λc _=>by
   simp only [S79_6step,S79_6,decN,Ah]) (m.fld 1).asList.length 0 O (by omega) ⟨(Ad.refl O).mono (by omega) λ_=>trivial,λ_ j hj=>by omega⟩
  exact ⟨z,H,h,λe i I=>h3 e i I⟩
 have l3:=q2.len
 refine abf q1 ?_
 dsimp only
 obtain ⟨Z,s1,s2⟩:=arl (l:=(m.fld 2).asList) (a:=1) (b:=65535) (d:=(m.fld 0).asStr) (acc:=z) ad (by omega)
 have l4:=s2.len
 refine abf s1 ?_
 dsimp only
 obtain ⟨J,t1,t2⟩:∃ J,aag 0 (S79_27step 0) (fin,(),(),(),(0:Int),s,m,(m.fld 0).asStr,Z)=some (fin,(),(),(),s,m,(m.fld 0).asStr,J)/\Ad Z J (m.fld 3).asList.length True:=by
  obtain ⟨J,H,h⟩:=acs (step:=S79_27step 0) (λi c=>(fin,(),(),(),((i:Nat):Int),s,m,(m.fld 0).asStr,c)) (m.fld 3).asList.length (λc=>(fin,(),(),(),s,m,(m.fld 0).asStr,c)) (λi c=>Ad Z c i True) (λi c I M=>by
   have hc:=M.len;have ae:=o.goneS _ (ah1 I);obtain ⟨c',H,h⟩:=aw9 (bad:=!(valid ((m.fld 3).asList.getD i .bad).asStr)) (num:=-1) (e:=7) (d:=(m.fld 0).asStr) (acc:=c) (by omega);refine ⟨c',?_,(M.trans h).mono (Nat.le_refl _) λ_=>trivial⟩;simp only [S79_27step,S79_27,decL i _ I,Af,aab,Ag I,Aj,amm _ (show ((m.fld 3).asList.getD i .bad).asStr.length<=9223372036854775000 by omega),Ae,H,aaz i (by omega)]) (λc _=>by
   simp only [S79_27step,S79_27,decN,Ah]) (m.fld 3).asList.length 0 Z (by omega) (Ad.refl Z)
  exact ⟨J,H,h⟩
 have l5:=t2.len
 refine abf t1 ?_
 dsimp only
 obtain ⟨c6,n1,n2⟩:=afi (l:=(m.fld 4).asList) (t:=1) (num:=-1) (d:=(m.fld 0).asStr) (acc:=J) (by omega) o.notes o.note
 have l6:=n2.len
 refine abf n1 ?_
 dsimp only
 refine abj (azd aa hs.len.m hl) λnd _ _=>?_
 refine abb (by omega) λc7 r7=>?_
 have l7:=r7.len
 refine ⟨c7,rfl,by omega,λe=>?_⟩
 obtain ⟨e6,_⟩:=r7.nil e
 obtain ⟨e5,_⟩:=n2.nil e6
 obtain ⟨e4,_⟩:=t2.nil e5
 obtain ⟨e3,_⟩:=s2.nil e4
 exact q3 e3
end Go.Ab
namespace Go.Ab
open Go
set_option maxRecDepth 100000
structure ItemV (m:PV) (i:Nat):Prop where
 up:0<i->(((m.fld 2).asList.getD (i-1) .bad).fld 1).asInt<(((m.fld 2).asList.getD i .bad).fld 1).asInt
 pos:0<=(((m.fld 2).asList.getD i .bad).fld 1).asInt
def EnumV (m:PV):Prop:=∀ i,i<(m.fld 2).asList.length->ItemV m i
theorem awy {m:PV}{d:Bq}{acc:List PV}{f:PV}{i:Nat} (H:i<(m.fld 2).asList.length) (I:(m.fld 2).asList.length<=1048576):
 ∃ h,aag 0 (S80_12step 0) ((),(),((i:Nat):Int),(),false,(0:Int),m,d,acc,f)=some ((),(),((i:Nat):Int),(),h,m,d,acc,f):=by
 obtain ⟨h,o,_⟩:=acs (step:=S80_12step 0) (λj (b:Bool)=>((),(),((i:Nat):Int),(),b,((j:Nat):Int),m,d,acc,f)) i (λb=>((),(),((i:Nat):Int),(),b,m,d,acc,f)) (λ_ _=>True) (λj b z _=>by
  simp only [S80_12step,S80_12,decL j _ z,Af,aab,Ag (show j<(m.fld 2).asList.length by omega),Aj,aaz j (by omega)];cases (((m.fld 2).asList.getD j .bad).fld 0).asStr==(f.fld 0).asStr with
  | true=>exact ⟨true,rfl,trivial⟩
  | false=>exact ⟨b,rfl,trivial⟩) (λb _=>by
  simp only [S80_12step,S80_12,decN,Ah]) i 0 false (by omega) trivial
 exact ⟨h,o⟩
theorem ayn {m:PV}{d:Bq}{acc:List PV}{i:Nat} (H:OkEnum m) (o:i<(m.fld 2).asList.length) (ha:acc.length<50000000000):
 Ret (S80_7step 0 ((),(),((i:Nat):Int),m,d,acc)) λr=>∃ h,r=.inl ((),(),((i+1:Nat):Int),m,d,h)/\Ad acc h 6 (ItemV m i):=by
 have J:=H.items
 have z:=H.item _ (ah1 o)
 obtain ⟨tw,I⟩:=awy (m:=m) (d:=d) (acc:=acc) (f:=(m.fld 2).asList.getD i .bad) o J
 simp only [S80_7step,S80_7,decL i _ o,Af,aab,Ag o,Aj]
 refine abf I ?_
 dsimp only
 refine abb (by omega) λc1 Z=>?_
 have l1:=Z.len
 dsimp only
 refine adt (aoy o J) ?_
 refine abb (by omega) λc2 r2=>?_
 have l2:=r2.len
 dsimp only
 refine abj (ae0 _ z.name) λu _ _=>?_
 refine abb (by omega) λc3 r3=>?_
 have l3:=r3.len
 dsimp only
 refine abb (by omega) λc4 r4=>?_
 have l4:=r4.len
 dsimp only
 refine abj (akm _ _ H.spans) λrs _ _=>?_
 refine abb (by omega) λc5 r5=>?_
 have l5:=r5.len
 dsimp only
 obtain ⟨c6,hn,r6⟩:=afi (t:=4) (num:=(((m.fld 2).asList.getD i .bad).fld 1).asInt) (d:=d) (acc:=c5) (by omega) z.notes z.note
 refine abf hn ?_
 refine ⟨_,rfl,c6,?_,?_⟩
 ·rw [aaz i (by omega)]
 ·refine (((((Z.trans r2).trans r3).trans r4).trans r5).trans r6).mono (by omega) ?_;rintro ⟨⟨⟨⟨⟨M,O⟩,_⟩,_⟩,_⟩,_⟩;refine ⟨λh0=>?_,?_⟩
  ·have hd:decide ((i:Int)>(0:Int))=true:=Ag (by omega);rw [hd,Af,aow (by omega) (by omega),Aj] at O;have:=of_decide_eq_false O;omega
  ·by_cases h1:(((m.fld 2).asList.getD i .bad).fld 1).asInt<0
   ·rw [Ag h1] at M;cases M
   ·omega
theorem a1b {m:PV} (o:OkEnum m):Ret (F80 0 m) λq=>q.length<=6+6*(m.fld 2).asList.length+2*(m.fld 3).asList.length/\(q=[]->EnumV m):=by
 have hl:=o.items;have Z:=o.spans;unfold F80;refine abj (aj8 _ o.name) λu _ _=>?_;refine abb (by simp) λc1 r1=>?_;have l1:=r1.len;simp only [Ao] at l1;dsimp only;refine abb (by omega) λc2 r2=>?_;have l2:=r2.len;dsimp only;refine adt ?_ ?_
 ·by_cases h0:(((m.fld 2).asList.length:Nat):Int)>0
  ·rw [Ag h0,show aaa (0:Int) (m.fld 2).asList.length=aaa ((0:Nat):Int) (m.fld 2).asList.length from rfl,aab,Ag (show 0<(m.fld 2).asList.length by omega)];rfl
  ·rw [An h0];exact a1p _
 refine abb (by omega) λz r3=>?_;have l3:=r3.len;dsimp only;obtain ⟨h,q1,q2,q3⟩:∃ h,aag 0 (S80_7step 0) ((),(),(0:Int),m,(m.fld 0).asStr,z)=some ((),(),m,(m.fld 0).asStr,h)/\Ad z h (6*(m.fld 2).asList.length) True/\(h=[]->EnumV m):=by
  obtain ⟨h,I,H,h3⟩:=acs (step:=S80_7step 0) (λi c=>((),(),((i:Nat):Int),m,(m.fld 0).asStr,c)) (m.fld 2).asList.length (λc=>((),(),m,(m.fld 0).asStr,c)) (λi c=>Ad z c (6*i) True/\(c=[]->∀ j,j<i->ItemV m j)) (λi c M J=>by
   have hc:=J.1.len;obtain ⟨r,I,c',rfl,H⟩:=ayn (d:=(m.fld 0).asStr) (acc:=c) o M (by omega);refine ⟨c',I,(J.1.trans H).mono (by omega) λ_=>trivial,λe j hj=>?_⟩;obtain ⟨e1,e2⟩:=H.nil e;by_cases O:j=i
   ·subst O;exact e2
   ·exact J.2 e1 j (by omega)) (λc _=>by
   simp only [S80_7step,S80_7,decN,Ah]) (m.fld 2).asList.length 0 z (by omega) ⟨(Ad.refl z).mono (by omega) λ_=>trivial,λ_ j hj=>by omega⟩
  exact ⟨h,I,H,λe i M=>h3 e i M⟩
 have l4:=q2.len;refine abf q1 ?_;dsimp only;obtain ⟨c5,s1,s2⟩:=arl (l:=(m.fld 3).asList) (a:=0) (b:=2147483647) (d:=(m.fld 0).asStr) (acc:=h) Z (by omega);have l5:=s2.len;refine abf s1 ?_;dsimp only;obtain ⟨c6,n1,n2⟩:=afi (l:=(m.fld 4).asList) (t:=3) (num:=-1) (d:=(m.fld 0).asStr) (acc:=c5) (by omega) o.notes o.note;have l6:=n2.len;refine abf n1 ?_;refine ⟨c6,rfl,by omega,λe=>?_⟩;obtain ⟨e5,_⟩:=n2.nil e;obtain ⟨e4,_⟩:=s2.nil e5;exact q3 e4
structure MethV (m:PV) (i:Nat):Prop where
 name:aje (((m.fld 1).asList.getD i .bad).fld 0).asStr=true
 up:0<i->(Op.bytesLess (((m.fld 1).asList.getD i .bad).fld 0).asStr (((m.fld 1).asList.getD (i-1) .bad).fld 0).asStr||(((m.fld 1).asList.getD i .bad).fld 0).asStr==(((m.fld 1).asList.getD (i-1) .bad).fld 0).asStr)=false
 shape:1<=(((m.fld 1).asList.getD i .bad).fld 3).asInt/\(((m.fld 1).asList.getD i .bad).fld 3).asInt<=4
def SvcV (m:PV):Prop:=∀ i,i<(m.fld 1).asList.length->MethV m i
theorem azb {s m:PV}{d:Bq}{acc:List PV}{i:Nat} (O:SOk s) (M:OkSvc m) (z:i<(m.fld 1).asList.length) (ha:acc.length<50000000000):
 Ret (S81_6step 0 ((),(),(),((i:Nat):Int),s,m,d,acc)) λr=>∃ o,r=.inl ((),(),(),((i+1:Nat):Int),s,m,d,o)/\Ad acc o 5 (MethV m i):=by
 have hl:=M.meths
 have I:=M.meth _ (ah1 z)
 simp only [S81_6step,S81_6,decL i _ z,Af,aab,Ag z,Aj]
 refine abf (arx _ I.name) ?_
 refine abb (by omega) λc1 r1=>?_
 have l1:=r1.len
 dsimp only
 refine adt (aoy z hl) ?_
 refine abb (by omega) λc2 r2=>?_
 have l2:=r2.len
 dsimp only
 refine abj (afb s _ O.len.m) λa _ _=>?_
 refine abj (P:=λ_=>True) (acx ((λ⟨r,h,_⟩=>⟨r,h,trivial⟩:Ret _ _->Ret _ _) (afb s _ O.len.m)) (ab8 _)) λb _ _=>?_
 refine abb (by omega) λc3 r3=>?_
 have l3:=r3.len
 dsimp only
 refine abb (by omega) λc4 r4=>?_
 have l4:=r4.len
 dsimp only
 obtain ⟨c5,hn,r5⟩:=afi (t:=6) (num:=((i:Nat):Int)) (d:=d) (acc:=c4) (by omega) I.notes I.note
 refine abf hn ?_
 refine ⟨_,rfl,c5,?_,?_⟩
 ·rw [aaz i (by omega)]
 ·refine ((((r1.trans r2).trans r3).trans r4).trans r5).mono (by omega) ?_;rintro ⟨⟨⟨⟨p1,Z⟩,_⟩,H⟩,_⟩;refine ⟨by simpa using p1,λh0=>?_,?_⟩
  ·have hd:decide ((i:Int)>(0:Int))=true:=Ag (by omega);rw [hd,Af,aow (by omega) (by omega),Aj] at Z;exact Z
  ·by_cases J:(((m.fld 1).asList.getD i .bad).fld 3).asInt<1
   ·rw [Ag J] at H;cases H
   ·rw [An J,Ah] at H;have:=of_decide_eq_false H;omega
theorem a6n {s m:PV} (hs:SOk s) (z:OkSvc m):Ret (F81 0 s m) λq=>q.length<=3+5*(m.fld 1).asList.length/\(q=[]->SvcV m):=by
 have hl:=z.meths;unfold F81;refine abj (aj8 _ z.name) λu _ _=>?_;refine abb (by simp) λc1 r1=>?_;have l1:=r1.len;simp only [Ao] at l1;dsimp only;refine abb (by omega) λo r2=>?_;have l2:=r2.len;dsimp only;obtain ⟨h,q1,q2,q3⟩:∃ h,aag 0 (S81_6step 0) ((),(),(),(0:Int),s,m,(m.fld 0).asStr,o)=some ((),(),s,m,(m.fld 0).asStr,h)/\Ad o h (5*(m.fld 1).asList.length) True/\(h=[]->SvcV m):=by
  obtain ⟨h,I,H,h3⟩:=acs (step:=S81_6step 0) (λi c=>((),(),(),((i:Nat):Int),s,m,(m.fld 0).asStr,c)) (m.fld 1).asList.length (λc=>((),(),s,m,(m.fld 0).asStr,c)) (λi c=>Ad o c (5*i) True/\(c=[]->∀ j,j<i->MethV m j)) (λi c M J=>by
   have hc:=J.1.len;obtain ⟨r,I,c',rfl,H⟩:=azb (d:=(m.fld 0).asStr) (acc:=c) hs z M (by omega);refine ⟨c',I,(J.1.trans H).mono (by omega) λ_=>trivial,λe j hj=>?_⟩;obtain ⟨e1,e2⟩:=H.nil e;by_cases O:j=i
   ·subst O;exact e2
   ·exact J.2 e1 j (by omega)) (λc _=>by
   simp only [S81_6step,S81_6,decN,Ah]) (m.fld 1).asList.length 0 o (by omega) ⟨(Ad.refl o).mono (by omega) λ_=>trivial,λ_ j hj=>by omega⟩
  exact ⟨h,I,H,λe i M=>h3 e i M⟩
 have l3:=q2.len;refine abf q1 ?_;dsimp only;obtain ⟨c4,n1,Z⟩:=afi (l:=(m.fld 2).asList) (t:=5) (num:=-1) (d:=(m.fld 0).asStr) (acc:=h) (by omega) z.notes z.note;have l4:=Z.len;refine abf n1 ?_;refine ⟨c4,rfl,by omega,λe=>?_⟩;obtain ⟨e3,_⟩:=Z.nil e;exact q3 e3
theorem adc (v:PV) (i:Nat):aau (v.fld i)<=aau v:=by
 unfold PV.fld;cases v with
 | agg xs=>
  show aau (xs.getD i .bad)<=aaw xs+1;by_cases h:i<xs.length
  ·have:xs.getD i .bad∈xs:=by rw [aaf h];exact List.getElem_mem h
   have:=aee this;omega
  ·have:xs.getD i .bad=.bad:=by simp [List.getD,A4 (Nat.le_of_not_lt h)]
   rw [this];simp [aau]
 | _=>simp [PV.parts,aau]
theorem ae5 (v:PV) (i:Nat):(v.fld i).asList.length<=aau v:=by have:=adc v i;have:=aef (v.fld i);omega
theorem ae6 (v:PV):aaw v.asList<=aau v:=by cases v<;>simp [PV.asList,aaw,aau]
theorem alf:∀ (l:List PV) (i:Nat),i<l.length->aaw (l.take i)+aau (l.getD i .bad)=aaw (l.take (i+1)):=by
 intro l;induction l with
 | nil=>intro i h;simp at h
 | cons x l o=>
  intro i h;cases i with
  | zero=>simp [aaw]
  | succ i=>have:=o i (by simpa using h);simp only [List.take_succ_cons,aaw,List.getD_cons_succ];omega
theorem ajl (l:List PV) (i:Nat):aaw (l.take i)<=aaw l:=by
 induction l generalizing i with
 | nil=>simp
 | cons x l h=>
  cases i with
  | zero=>simp [aaw]
  | succ i=>simp only [List.take_succ_cons,aaw];have:=h i;omega
structure SchemaV (s:PV):Prop where
 ascM:∀ i,i+1<(s.fld 0).asList.length->ascB (nmL (s.fld 0).asList) i=true
 ascE:∀ i,i+1<(s.fld 1).asList.length->ascB (nmL (s.fld 1).asList) i=true
 ascS:∀ i,i+1<(s.fld 2).asList.length->ascB (nmL (s.fld 2).asList) i=true
 msg:∀ i,i<(s.fld 0).asList.length->MsgV ((s.fld 0).asList.getD i .bad)
 enum:∀ i,i<(s.fld 1).asList.length->EnumV ((s.fld 1).asList.getD i .bad)
 svc:∀ i,i<(s.fld 2).asList.length->SvcV ((s.fld 2).asList.getD i .bad)
theorem a4t {s:PV} (H:SOk s) (hb:aau s<=1048576):Ret (F33 0 s) λq=>q=[]->SchemaV s:=by
 have h1:=H.len.m;have Z:=H.len.e;have h3:=H.len.v;have hn:∀ l:List PV,(nmL l).length=l.length:=λl=>by simp [nmL]
 have ab:∀ (w:Int) (acc:List PV),(w=1\/w=2\/w=3)->acc.length<50000000000->∃ o,S33_4step 0 ((),(),w,s,([]:Bq),acc)=some (.inl ((),(),IntKind.wrap .i64 (w+1),s,([]:Bq),o))/\Ad acc o 2 (∀ i,i+1<(nmL (bif w==1 then (s.fld 0).asList else bif w==2 then (s.fld 1).asList else (s.fld 2).asList)).length->ascB (nmL (bif w==1 then (s.fld 0).asList else bif w==2 then (s.fld 1).asList else (s.fld 2).asList)) i=true):=by
  intro w acc hw ha;have an:decide (w<=3)=true:=Ag (by omega);have ao:(nmL (bif w==1 then (s.fld 0).asList else bif w==2 then (s.fld 1).asList else (s.fld 2).asList)).length<=1048576:=by rw [hn];cases w==1<;>cases w==2<;>simp<;>omega
  have ad:Ret (S33_4step 0 ((),(),w,s,([]:Bq),acc)) λr=>∃ o,r=.inl ((),(),IntKind.wrap .i64 (w+1),s,([]:Bq),o)/\Ad acc o 2 (∀ i,i+1<(nmL (bif w==1 then (s.fld 0).asList else bif w==2 then (s.fld 1).asList else (s.fld 2).asList)).length->ascB (nmL (bif w==1 then (s.fld 0).asList else bif w==2 then (s.fld 1).asList else (s.fld 2).asList)) i=true):=by simp only [S33_4step,S33_4,an,Af];refine abf (ak2 H.len hw) ?_;refine abb (by omega) λc1 r1=>?_;have l1:=r1.len;dsimp only;refine abj (a4u ao) λb _ am=>?_;refine abb (by omega) λc2 r2=>?_;refine ⟨_,rfl,c2,rfl,(r1.trans r2).mono (by omega) ?_⟩;rintro ⟨_,p2⟩;exact am (by simpa using p2)
  obtain ⟨r,e,o,rfl,h⟩:=ad;exact ⟨o,e,h⟩
 obtain ⟨a1,s1,d1⟩:=ab 1 [] (Or.inl rfl) (by simp);have ap:=d1.len;simp only [Ao] at ap;obtain ⟨a2,s2,d2⟩:=ab 2 a1 (Or.inr (Or.inl rfl)) (by omega);have au:=d2.len;obtain ⟨a3,s3,d3⟩:=ab 3 a2 (Or.inr (Or.inr rfl)) (by omega);have av:=d3.len;have w1:IntKind.wrap .i64 ((1:Int)+1)=2:=by decide
 have w2:IntKind.wrap .i64 ((2:Int)+1)=3:=by decide
 have w3:IntKind.wrap .i64 ((3:Int)+1)=4:=by decide
 rw [w1] at s1;rw [w2] at s2;rw [w3] at s3;have aa:aag 0 (S33_4step 0) ((),(),(1:Int),s,([]:Bq),[])=some ((),(),s,([]:Bq),a3):=by show aba _ _=_;rw [aat s1,aat s2,aat s3];refine aai ?_;simp only [S33_4step,S33_4,show decide ((4:Int)<=3)=false from rfl,Ah]
 unfold F33;refine abf aa ?_;dsimp only;refine abf (ak2 H.len (w:=1) (Or.inl rfl)) ?_;refine abf (ak2 H.len (w:=2) (Or.inr (Or.inl rfl))) ?_;refine abf (ak2 H.len (w:=3) (Or.inr (Or.inr rfl))) ?_;have e1:((1:Int)==1)=true:=rfl;have ag:((2:Int)==1)=false:=rfl;have ah:((2:Int)==2)=true:=rfl;have ai:((3:Int)==1)=false:=rfl;have aj:((3:Int)==2)=false:=rfl;simp only [e1,ag,ah,ai,aj,Af,Ah] at d1 d2 d3 ⊢;rw [hn] at d1 d2 d3;refine abj (ao9 (by rw [hn];omega) (by rw [hn];omega)) λb1 _ _=>?_;refine abj (P:=λ_=>True) (acx (ao9 (by rw [hn];omega) (by rw [hn];omega)) (ab8 _)) λb2 _ _=>?_;refine abj (P:=λ_=>True) (acx (ao9 (by rw [hn];omega) (by rw [hn];omega)) (ab8 _)) λb3 _ _=>?_;refine abb (by omega) λa4 d4=>?_;have aw:=d4.len;dsimp only;refine abj (avu H.len.m λm hm=>(H.msg m hm).fields) λfin _ ae=>?_;have b0:aaw (s.fld 0).asList<=1048576:=by have:=ae6 (s.fld 0);have:=adc s 0;omega
 have aq:aaw (s.fld 1).asList<=1048576:=by have:=ae6 (s.fld 1);have:=adc s 1;omega
 have ar:aaw (s.fld 2).asList<=1048576:=by have:=ae6 (s.fld 2);have:=adc s 2;omega
 obtain ⟨I,q5,d5,f5⟩:∃ I,aag 0 (S33_15step 0) ((),(),fin,(0:Int),s,([]:Bq),a4)=some ((),(),s,([]:Bq),I)/\Ad a4 I (30*1048576) True/\(I=[]->∀ i,i<(s.fld 0).asList.length->MsgV ((s.fld 0).asList.getD i .bad)):=by
  obtain ⟨I,h1,Z,h3⟩:=acs (step:=S33_15step 0) (λi c=>((),(),fin,((i:Nat):Int),s,([]:Bq),c)) (s.fld 0).asList.length (λc=>((),(),s,([]:Bq),c)) (λi c=>Ad a4 c (30*aaw ((s.fld 0).asList.take i)) True/\(c=[]->∀ j,j<i->MsgV ((s.fld 0).asList.getD j .bad))) (λi c z M=>by
   have hc:=M.1.len;have ht:=ajl (s.fld 0).asList i;have af:=alf (s.fld 0).asList i z;have hm:=H.msg _ (ah1 z);obtain ⟨q,g1,g2,g3⟩:=as1 (fin:=fin) H hm ae;have k1:=ae5 ((s.fld 0).asList.getD i .bad) 1;have k2:=ae5 ((s.fld 0).asList.getD i .bad) 2;have k3:=ae5 ((s.fld 0).asList.getD i .bad) 3;have k4:=ad4 ((s.fld 0).asList.getD i .bad);have kb:aau ((s.fld 0).asList.getD i .bad)<=1048576:=by have:=aee (ah1 z);omega
   refine ⟨c++q,?_,(M.1.trans (⟨q,rfl,Nat.le_refl _,λ_=>trivial⟩:Ad c (c++q) q.length True)).mono (by omega) λ_=>trivial,λe j hj=>?_⟩
   ·simp only [S33_15step,S33_15,decL i _ z,Af,aab,Ag z,Aj,g1,Ae,Ag (show c.length+q.length<=aae by unfold aae;omega),aaz i (by omega)]
   ·obtain ⟨e1,e2⟩:=List.append_eq_nil_iff.1 e;by_cases O:j=i
    ·subst O;exact g3 e2
    ·exact M.2 e1 j (by omega)) (λc _=>by
   simp only [S33_15step,S33_15,decN,Ah]) (s.fld 0).asList.length 0 a4 (by omega) ⟨(Ad.refl a4).mono (by omega) λ_=>trivial,λ_ j hj=>by omega⟩
  rw [List.take_length] at Z;exact ⟨I,h1,Z.mono (by omega) id,h3⟩
 have ax:=d5.len;refine abf q5 ?_;dsimp only;obtain ⟨J,q6,d6,f6⟩:∃ J,aag 0 (S33_19step 0) ((),(),(0:Int),s,([]:Bq),I)=some ((),(),s,([]:Bq),J)/\Ad I J (30*1048576) True/\(J=[]->∀ i,i<(s.fld 1).asList.length->EnumV ((s.fld 1).asList.getD i .bad)):=by
  obtain ⟨J,h1,Z,h3⟩:=acs (step:=S33_19step 0) (λi c=>((),(),((i:Nat):Int),s,([]:Bq),c)) (s.fld 1).asList.length (λc=>((),(),s,([]:Bq),c)) (λi c=>Ad I c (30*aaw ((s.fld 1).asList.take i)) True/\(c=[]->∀ j,j<i->EnumV ((s.fld 1).asList.getD j .bad))) (λi c z M=>by
   have hc:=M.1.len;have ht:=ajl (s.fld 1).asList i;have af:=alf (s.fld 1).asList i z;have hm:=H.enum _ (ah1 z);obtain ⟨q,g1,g2,g3⟩:=a1b hm;have k1:=ae5 ((s.fld 1).asList.getD i .bad) 2;have k2:=ae5 ((s.fld 1).asList.getD i .bad) 3;have k4:=ad4 ((s.fld 1).asList.getD i .bad);have kb:aau ((s.fld 1).asList.getD i .bad)<=1048576:=by have:=aee (ah1 z);omega
   refine ⟨c++q,?_,(M.1.trans (⟨q,rfl,Nat.le_refl _,λ_=>trivial⟩:Ad c (c++q) q.length True)).mono (by omega) λ_=>trivial,λe j hj=>?_⟩
   ·simp only [S33_19step,S33_19,decL i _ z,Af,aab,Ag z,Aj,g1,Ae,Ag (show c.length+q.length<=aae by unfold aae;omega),aaz i (by omega)]
   ·obtain ⟨e1,e2⟩:=List.append_eq_nil_iff.1 e;by_cases O:j=i
    ·subst O;exact g3 e2
    ·exact M.2 e1 j (by omega)) (λc _=>by
   simp only [S33_19step,S33_19,decN,Ah]) (s.fld 1).asList.length 0 I (by omega) ⟨(Ad.refl I).mono (by omega) λ_=>trivial,λ_ j hj=>by omega⟩
  rw [List.take_length] at Z;exact ⟨J,h1,Z.mono (by omega) id,h3⟩
 have ay:=d6.len;refine abf q6 ?_;dsimp only;obtain ⟨a7,q7,d7,f7⟩:∃ a7,aag 0 (S33_23step 0) ((),(),(0:Int),s,([]:Bq),J)=some ((),s,([]:Bq),a7)/\Ad J a7 (30*1048576) True/\(a7=[]->∀ i,i<(s.fld 2).asList.length->SvcV ((s.fld 2).asList.getD i .bad)):=by
  obtain ⟨a7,h1,Z,h3⟩:=acs (step:=S33_23step 0) (λi c=>((),(),((i:Nat):Int),s,([]:Bq),c)) (s.fld 2).asList.length (λc=>((),s,([]:Bq),c)) (λi c=>Ad J c (30*aaw ((s.fld 2).asList.take i)) True/\(c=[]->∀ j,j<i->SvcV ((s.fld 2).asList.getD j .bad))) (λi c z M=>by
   have hc:=M.1.len;have ht:=ajl (s.fld 2).asList i;have af:=alf (s.fld 2).asList i z;have hm:=H.svc _ (ah1 z);obtain ⟨q,g1,g2,g3⟩:=a6n H hm;have k1:=ae5 ((s.fld 2).asList.getD i .bad) 1;have k4:=ad4 ((s.fld 2).asList.getD i .bad);have kb:aau ((s.fld 2).asList.getD i .bad)<=1048576:=by have:=aee (ah1 z);omega
   refine ⟨c++q,?_,(M.1.trans (⟨q,rfl,Nat.le_refl _,λ_=>trivial⟩:Ad c (c++q) q.length True)).mono (by omega) λ_=>trivial,λe j hj=>?_⟩
   ·simp only [S33_23step,S33_23,decL i _ z,Af,aab,Ag z,Aj,g1,Ae,Ag (show c.length+q.length<=aae by unfold aae;omega),aaz i (by omega)]
   ·obtain ⟨e1,e2⟩:=List.append_eq_nil_iff.1 e;by_cases O:j=i
    ·subst O;exact g3 e2
    ·exact M.2 e1 j (by omega)) (λc _=>by
   simp only [S33_23step,S33_23,decN,Ah]) (s.fld 2).asList.length 0 J (by omega) ⟨(Ad.refl J).mono (by omega) λ_=>trivial,λ_ j hj=>by omega⟩
  rw [List.take_length] at Z;exact ⟨a7,h1,Z.mono (by omega) id,h3⟩
 refine abf q7 ?_;refine ⟨a7,rfl,λe=>?_⟩;have g7:=f7 e;obtain ⟨e6,_⟩:=d7.nil e;have g6:=f6 e6;obtain ⟨e5,_⟩:=d6.nil e6;have g5:=f5 e5;obtain ⟨e4,_⟩:=d5.nil e5;obtain ⟨e3,_⟩:=d4.nil e4;obtain ⟨al,p3⟩:=d3.nil e3;obtain ⟨ak,p2⟩:=d2.nil al;obtain ⟨_,p1⟩:=d1.nil ak;exact ⟨p1,p2,p3,g5,g6,g7⟩
theorem a0i {s:PV} (H:SOk s) (o:aau s<=1048576):Ret (F11 0 s) λb=>b=true->SchemaV s:=by
 unfold F11;refine abj (a4t H o) λq _ z=>⟨_,rfl,λh=>z ?_⟩;have h:((q.length:Int)==(0:Int))=true:=h;have:(q.length:Int)=0:=by simpa using h
 exact List.length_eq_zero_iff.1 (by omega)
end Go.Ab
