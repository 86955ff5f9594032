/- The specification's examination of schemas ends; what it says: messages, enums, services, all. -/
import Derived.Test.YtjogoleiodbfdaaGreatDoorPVldT
set_option linter.unusedVariables false
set_option linter.unusedSimpArgs false
set_option linter.unnecessarySimpa false
namespace Go.Ab
open Go
set_option maxRecDepth 100000
theorem apz {i:Nat} (h:1<=i) (o:i<=1048576):IntKind.wrap .i64 ((i:Int)-1)=((i-1:Nat):Int):=by rw [show (i:Int)-1=((i-1:Nat):Int) by omega];exact abb (by omega)
theorem ap1 {i n:Nat} (o:i<n) (H:n<=1048576):imp (decide ((i:Int)>(0:Int))) (aaa (IntKind.wrap .i64 ((i:Int)-1)) n)=true:=by
 by_cases h:(i:Int)>0
 ·rw [Ag h,apz (by omega) (by omega),aab,Ag (show i-1<n by omega)];rfl
 ·rw [An h];exact a4m _
theorem aik {l:List PV}{i:Nat} (h:i<l.length):l.getD i .bad∈l:=by rw [aae h];exact List.getElem_mem h
structure SOk (s:PV):Prop where
 len:SLen s
 msg:∀ m,m∈(s.fld 0).asList->OkMsg m
 enum:∀ m,m∈(s.fld 1).asList->OkEnum m
 svc:∀ m,m∈(s.fld 2).asList->OkSvc m
structure FldV (m:PV) (i:Nat):Prop where
 up:0<i->(((m.fld 1).asList.getD (i-1) .bad).fld 0).asInt<(((m.fld 1).asList.getD i .bad).fld 0).asInt
 card:F87 0 ((m.fld 1).asList.getD i .bad)=some true
 dflt:(((m.fld 1).asList.getD i .bad).fld 6).asBool=true->adh ((((m.fld 1).asList.getD i .bad).fld 4).fld 0).asInt (((m.fld 1).asList.getD i .bad).fld 7)=true
theorem a2q {s m:PV}{fin:List PV}{d:Bt}{acc:List PV}{f:PV}{i:Nat} (I:i<(m.fld 1).asList.length) (J:(m.fld 1).asList.length<=1048576):
 ∃ h,aag 0 (S48_11step 0) (fin,(),(),(),((i:Nat):Int),(),false,(0:Int),s,m,d,acc,f)=some (fin,(),(),(),((i:Nat):Int),(),h,s,m,d,acc,f):=by
 obtain ⟨h,o,_⟩:=acv (step:=S48_11step 0) (λj (b:Bool)=>(fin,(),(),(),((i:Nat):Int),(),b,((j:Nat):Int),s,m,d,acc,f)) i (λb=>(fin,(),(),(),((i:Nat):Int),(),b,s,m,d,acc,f)) (λ_ _=>True) (λj b H _=>by
  simp only [S48_11step,S48_11,decL j _ H,Af,aab,Ag (show j<(m.fld 1).asList.length by omega),Ai,aax j (by omega)];cases (((m.fld 1).asList.getD j .bad).fld 1).asStr==(f.fld 1).asStr with
  | true=>exact ⟨true,rfl,trivial⟩
  | false=>exact ⟨b,rfl,trivial⟩) (λb _=>by
  simp only [S48_11step,S48_11,decN,Ah]) i 0 false (by omega) trivial
 exact ⟨h,o⟩
theorem a4b {s m:PV}{fin:List PV}{d:Bt}{acc:List PV}{i:Nat} (J:SOk s) (I:OkMsg m) (o:i<(m.fld 1).asList.length) (ha:acc.length<50000000000):
 Ret (S48_6step 0 (fin,(),(),(),((i:Nat):Int),s,m,d,acc)) λr=>∃ h,r=.inl (fin,(),(),(),((i+1:Nat):Int),s,m,d,h)/\Ad acc h 12 (FldV m i):=by
 have hl:=I.fields
 have H:=I.field _ (aik o)
 obtain ⟨tw,aa⟩:=a2q (s:=s) (m:=m) (fin:=fin) (d:=d) (acc:=acc) (f:=(m.fld 1).asList.getD i .bad) o hl
 simp only [S48_6step,S48_6,decL i _ o,Af,aab,Ag o,Ai]
 refine abh aa ?_
 dsimp only
 refine abe (by omega) λc1 r1=>?_
 have l1:=r1.len
 dsimp only
 refine ad5 (ap1 o hl) ?_
 refine abe (by omega) λc2 r2=>?_
 have l2:=r2.len
 dsimp only
 refine abl (afc _ H.name) λu _ _=>?_
 refine abe (by omega) λc3 r3=>?_
 have l3:=r3.len
 dsimp only
 refine abe (by omega) λc4 r4=>?_
 have l4:=r4.len
 dsimp only
 refine abl (ali _ _ I.spans) λrs _ _=>?_
 refine abl (P:=λ_=>True) (ac5 (az9 _ _ I.gone) (ach _)) λgn _ _=>?_
 refine abe (by omega) λc5 r5=>?_
 have l5:=r5.len
 dsimp only
 refine abl (a3o _) λcd O _=>?_
 refine abe (by omega) λc6 r6=>?_
 have l6:=r6.len
 dsimp only
 refine abl (a9l s _ J.len.m J.len.e) λty _ _=>?_
 refine abe (by omega) λc7 r7=>?_
 have l7:=r7.len
 dsimp only
 refine abl (a2s m o hl H.union) λun _ _=>?_
 refine abe (by omega) λc8 r8=>?_
 have l8:=r8.len
 dsimp only
 refine abl (a2w s _ J.len.e (λe he=>(J.enum e he).items) H.dflt) λva _ ab=>?_
 refine abe (by omega) λc9 r9=>?_
 have l9:=r9.len
 dsimp only
 obtain ⟨M,hn,ad⟩:=afv (t:=2) (num:=(((m.fld 1).asList.getD i .bad).fld 0).asInt) (d:=d) (acc:=c9) (by omega) H.notes H.note
 refine abh hn ?_
 refine ⟨_,rfl,M,?_,?_⟩
 ·rw [aax i (by omega)]
 ·refine (((((((((r1.trans r2).trans r3).trans r4).trans r5).trans r6).trans r7).trans r8).trans r9).trans ad).mono (by omega) ?_;rintro ⟨⟨⟨⟨⟨⟨⟨⟨⟨_,p2⟩,_⟩,_⟩,_⟩,p6⟩,_⟩,_⟩,p9⟩,_⟩;refine ⟨λh0=>?_,?_,λZ=>?_⟩
  ·have Z:decide ((i:Int)>(0:Int))=true:=Ag (by omega);rw [Z,Af,apz (by omega) (by omega),Ai] at p2;have:=of_decide_eq_false p2;omega
  ·have:cd=true:=by simpa using p6
   rw [O,this]
  ·have:va=true:=by simpa using p9
   exact ab this Z
def MsgV (m:PV):Prop:=∀ i,i<(m.fld 1).asList.length->FldV m i
theorem ak2 (s:Bt) (h:s.length<=1048576):Ret (F84 0 s) λu=>u=defP s:=⟨_,ayx s h,rfl⟩
theorem aug {s m:PV}{fin:List PV} (hs:SOk s) (o:OkMsg m) (aa:fin.length=(s.fld 0).asList.length):
 Ret (F48 0 s m fin) λq=>q.length<=6+12*(m.fld 1).asList.length+2*(m.fld 2).asList.length+(m.fld 3).asList.length/\(q=[]->MsgV m):=by
 have hl:=o.fields;have ad:=o.spans;have hg:=o.gone
 unfold F48
 refine abl (ak2 _ o.name) λu _ _=>?_
 refine abe (by simp) λc1 r1=>?_
 have l1:=r1.len
 simp only [Ao] at l1
 dsimp only
 refine abe (by omega) λZ r2=>?_
 have l2:=r2.len
 dsimp only
 obtain ⟨H,q1,q2,q3⟩:∃ H,aag 0 (S48_6step 0) (fin,(),(),(),(0:Int),s,m,(m.fld 0).asStr,Z)=some (fin,(),(),(),s,m,(m.fld 0).asStr,H)/\Ad Z H (12*(m.fld 1).asList.length) True/\(H=[]->MsgV m):=by
  obtain ⟨H,I,h,h3⟩:=acv (step:=S48_6step 0) (λi c=>(fin,(),(),(),((i:Nat):Int),s,m,(m.fld 0).asStr,c)) (m.fld 1).asList.length (λc=>(fin,(),(),(),s,m,(m.fld 0).asStr,c)) (λi c=>Ad Z c (12*i) True/\(c=[]->∀ j,j<i->FldV m j)) (λi c J O=>by
   have hc:=O.1.len;obtain ⟨r,I,c',rfl,h⟩:=a4b (fin:=fin) (d:=(m.fld 0).asStr) (acc:=c) hs o J (by omega);refine ⟨c',I,(O.1.trans h).mono (by omega) λ_=>trivial,λe j hj=>?_⟩;obtain ⟨e1,e2⟩:=h.nil e;by_cases ab:j=i
   ·subst ab;exact e2
   ·exact O.2 e1 j (by omega)) (λc _=>by
   simp only [S48_6step,S48_6,decN,Ah]) (m.fld 1).asList.length 0 Z (by omega) ⟨(Ad.refl Z).mono (by omega) λ_=>trivial,λ_ j hj=>by omega⟩
  exact ⟨H,I,h,λe i J=>h3 e i J⟩
 have l3:=q2.len
 refine abh q1 ?_
 dsimp only
 obtain ⟨c4,s1,s2⟩:=asw (l:=(m.fld 2).asList) (a:=1) (b:=65535) (d:=(m.fld 0).asStr) (acc:=H) ad (by omega)
 have l4:=s2.len
 refine abh s1 ?_
 dsimp only
 obtain ⟨M,t1,t2⟩:∃ M,aag 0 (S48_27step 0) (fin,(),(),(),(0:Int),s,m,(m.fld 0).asStr,c4)=some (fin,(),(),(),s,m,(m.fld 0).asStr,M)/\Ad c4 M (m.fld 3).asList.length True:=by
  obtain ⟨M,I,h⟩:=acv (step:=S48_27step 0) (λi c=>(fin,(),(),(),((i:Nat):Int),s,m,(m.fld 0).asStr,c)) (m.fld 3).asList.length (λc=>(fin,(),(),(),s,m,(m.fld 0).asStr,c)) (λi c=>Ad c4 c i True) (λi c J O=>by
   have hc:=O.len;have ae:=o.goneS _ (aik J);obtain ⟨c',I,h⟩:=ay7 (bad:=!(valid ((m.fld 3).asList.getD i .bad).asStr)) (num:=-1) (e:=7) (d:=(m.fld 0).asStr) (acc:=c) (by omega);refine ⟨c',?_,(O.trans h).mono (Nat.le_refl _) λ_=>trivial⟩;simp only [S48_27step,S48_27,decL i _ J,Af,aab,Ag J,Ai,ann _ (show ((m.fld 3).asList.getD i .bad).asStr.length<=9223372036854775000 by omega),Aa,I,aax i (by omega)]) (λc _=>by
   simp only [S48_27step,S48_27,decN,Ah]) (m.fld 3).asList.length 0 c4 (by omega) (Ad.refl c4)
  exact ⟨M,I,h⟩
 have l5:=t2.len
 refine abh t1 ?_
 dsimp only
 obtain ⟨c6,n1,n2⟩:=afv (l:=(m.fld 4).asList) (t:=1) (num:=-1) (d:=(m.fld 0).asStr) (acc:=M) (by omega) o.notes o.note
 have l6:=n2.len
 refine abh n1 ?_
 dsimp only
 refine abl (a1g aa hs.len.m hl) λnd _ _=>?_
 refine abe (by omega) λc7 r7=>?_
 have l7:=r7.len
 refine ⟨c7,rfl,by omega,λe=>?_⟩
 obtain ⟨e6,_⟩:=r7.nil e
 obtain ⟨e5,_⟩:=n2.nil e6
 obtain ⟨e4,_⟩:=t2.nil e5
 obtain ⟨e3,_⟩:=s2.nil e4
 exact q3 e3
end Go.Ab
namespace Go.Ab
open Go
set_option maxRecDepth 100000
structure ItemV (m:PV) (i:Nat):Prop where
 up:0<i->(((m.fld 2).asList.getD (i-1) .bad).fld 1).asInt<(((m.fld 2).asList.getD i .bad).fld 1).asInt
 pos:0<=(((m.fld 2).asList.getD i .bad).fld 1).asInt
def EnumV (m:PV):Prop:=∀ i,i<(m.fld 2).asList.length->ItemV m i
theorem ayw {m:PV}{d:Bt}{acc:List PV}{f:PV}{i:Nat} (I:i<(m.fld 2).asList.length) (J:(m.fld 2).asList.length<=1048576):
 ∃ h,aag 0 (S49_12step 0) ((),(),((i:Nat):Int),(),false,(0:Int),m,d,acc,f)=some ((),(),((i:Nat):Int),(),h,m,d,acc,f):=by
 obtain ⟨h,o,_⟩:=acv (step:=S49_12step 0) (λj (b:Bool)=>((),(),((i:Nat):Int),(),b,((j:Nat):Int),m,d,acc,f)) i (λb=>((),(),((i:Nat):Int),(),b,m,d,acc,f)) (λ_ _=>True) (λj b H _=>by
  simp only [S49_12step,S49_12,decL j _ H,Af,aab,Ag (show j<(m.fld 2).asList.length by omega),Ai,aax j (by omega)];cases (((m.fld 2).asList.getD j .bad).fld 0).asStr==(f.fld 0).asStr with
  | true=>exact ⟨true,rfl,trivial⟩
  | false=>exact ⟨b,rfl,trivial⟩) (λb _=>by
  simp only [S49_12step,S49_12,decN,Ah]) i 0 false (by omega) trivial
 exact ⟨h,o⟩
theorem a0o {m:PV}{d:Bt}{acc:List PV}{i:Nat} (I:OkEnum m) (o:i<(m.fld 2).asList.length) (ha:acc.length<50000000000):
 Ret (S49_7step 0 ((),(),((i:Nat):Int),m,d,acc)) λr=>∃ h,r=.inl ((),(),((i+1:Nat):Int),m,d,h)/\Ad acc h 6 (ItemV m i):=by
 have M:=I.items
 have H:=I.item _ (aik o)
 obtain ⟨tw,J⟩:=ayw (m:=m) (d:=d) (acc:=acc) (f:=(m.fld 2).asList.getD i .bad) o M
 simp only [S49_7step,S49_7,decL i _ o,Af,aab,Ag o,Ai]
 refine abh J ?_
 dsimp only
 refine abe (by omega) λc1 r1=>?_
 have l1:=r1.len
 dsimp only
 refine ad5 (ap1 o M) ?_
 refine abe (by omega) λc2 r2=>?_
 have l2:=r2.len
 dsimp only
 refine abl (afc _ H.name) λu _ _=>?_
 refine abe (by omega) λc3 r3=>?_
 have l3:=r3.len
 dsimp only
 refine abe (by omega) λc4 r4=>?_
 have l4:=r4.len
 dsimp only
 refine abl (ali _ _ I.spans) λrs _ _=>?_
 refine abe (by omega) λc5 r5=>?_
 have l5:=r5.len
 dsimp only
 obtain ⟨c6,hn,r6⟩:=afv (t:=4) (num:=(((m.fld 2).asList.getD i .bad).fld 1).asInt) (d:=d) (acc:=c5) (by omega) H.notes H.note
 refine abh hn ?_
 refine ⟨_,rfl,c6,?_,?_⟩
 ·rw [aax i (by omega)]
 ·refine (((((r1.trans r2).trans r3).trans r4).trans r5).trans r6).mono (by omega) ?_;rintro ⟨⟨⟨⟨⟨O,Z⟩,_⟩,_⟩,_⟩,_⟩;refine ⟨λh0=>?_,?_⟩
  ·have hd:decide ((i:Int)>(0:Int))=true:=Ag (by omega);rw [hd,Af,apz (by omega) (by omega),Ai] at Z;have:=of_decide_eq_false Z;omega
  ·by_cases h1:(((m.fld 2).asList.getD i .bad).fld 1).asInt<0
   ·rw [Ag h1] at O;cases O
   ·omega
theorem a3y {m:PV} (o:OkEnum m):Ret (F49 0 m) λq=>q.length<=6+6*(m.fld 2).asList.length+2*(m.fld 3).asList.length/\(q=[]->EnumV m):=by
 have hl:=o.items;have aa:=o.spans;unfold F49;refine abl (ak2 _ o.name) λu _ _=>?_;refine abe (by simp) λc1 r1=>?_;have l1:=r1.len;simp only [Ao] at l1;dsimp only;refine abe (by omega) λc2 r2=>?_;have l2:=r2.len;dsimp only;refine ad5 ?_ ?_
 ·by_cases h0:(((m.fld 2).asList.length:Nat):Int)>0
  ·rw [Ag h0,show aaa (0:Int) (m.fld 2).asList.length=aaa ((0:Nat):Int) (m.fld 2).asList.length from rfl,aab,Ag (show 0<(m.fld 2).asList.length by omega)];rfl
  ·rw [An h0];exact a4m _
 refine abe (by omega) λH r3=>?_;have l3:=r3.len;dsimp only;obtain ⟨h,q1,q2,q3⟩:∃ h,aag 0 (S49_7step 0) ((),(),(0:Int),m,(m.fld 0).asStr,H)=some ((),(),m,(m.fld 0).asStr,h)/\Ad H h (6*(m.fld 2).asList.length) True/\(h=[]->EnumV m):=by
  obtain ⟨h,J,I,h3⟩:=acv (step:=S49_7step 0) (λi c=>((),(),((i:Nat):Int),m,(m.fld 0).asStr,c)) (m.fld 2).asList.length (λc=>((),(),m,(m.fld 0).asStr,c)) (λi c=>Ad H c (6*i) True/\(c=[]->∀ j,j<i->ItemV m j)) (λi c O M=>by
   have hc:=M.1.len;obtain ⟨r,J,c',rfl,I⟩:=a0o (d:=(m.fld 0).asStr) (acc:=c) o O (by omega);refine ⟨c',J,(M.1.trans I).mono (by omega) λ_=>trivial,λe j hj=>?_⟩;obtain ⟨e1,e2⟩:=I.nil e;by_cases Z:j=i
   ·subst Z;exact e2
   ·exact M.2 e1 j (by omega)) (λc _=>by
   simp only [S49_7step,S49_7,decN,Ah]) (m.fld 2).asList.length 0 H (by omega) ⟨(Ad.refl H).mono (by omega) λ_=>trivial,λ_ j hj=>by omega⟩
  exact ⟨h,J,I,λe i O=>h3 e i O⟩
 have l4:=q2.len;refine abh q1 ?_;dsimp only;obtain ⟨c5,s1,s2⟩:=asw (l:=(m.fld 3).asList) (a:=0) (b:=2147483647) (d:=(m.fld 0).asStr) (acc:=h) aa (by omega);have l5:=s2.len;refine abh s1 ?_;dsimp only;obtain ⟨c6,n1,n2⟩:=afv (l:=(m.fld 4).asList) (t:=3) (num:=-1) (d:=(m.fld 0).asStr) (acc:=c5) (by omega) o.notes o.note;have l6:=n2.len;refine abh n1 ?_;refine ⟨c6,rfl,by omega,λe=>?_⟩;obtain ⟨e5,_⟩:=n2.nil e;obtain ⟨e4,_⟩:=s2.nil e5;exact q3 e4
structure MethV (m:PV) (i:Nat):Prop where
 name:aj3 (((m.fld 1).asList.getD i .bad).fld 0).asStr=true
 up:0<i->(Op.bytesLess (((m.fld 1).asList.getD i .bad).fld 0).asStr (((m.fld 1).asList.getD (i-1) .bad).fld 0).asStr||(((m.fld 1).asList.getD i .bad).fld 0).asStr==(((m.fld 1).asList.getD (i-1) .bad).fld 0).asStr)=false
 shape:1<=(((m.fld 1).asList.getD i .bad).fld 3).asInt/\(((m.fld 1).asList.getD i .bad).fld 3).asInt<=4
def SvcV (m:PV):Prop:=∀ i,i<(m.fld 1).asList.length->MethV m i
theorem a1d {s m:PV}{d:Bt}{acc:List PV}{i:Nat} (Z:SOk s) (O:OkSvc m) (H:i<(m.fld 1).asList.length) (ha:acc.length<50000000000):
 Ret (S50_6step 0 ((),(),(),((i:Nat):Int),s,m,d,acc)) λr=>∃ o,r=.inl ((),(),(),((i+1:Nat):Int),s,m,d,o)/\Ad acc o 5 (MethV m i):=by
 have hl:=O.meths
 have J:=O.meth _ (aik H)
 simp only [S50_6step,S50_6,decL i _ H,Af,aab,Ag H,Ai]
 refine abh (as9 _ J.name) ?_
 refine abe (by omega) λc1 r1=>?_
 have l1:=r1.len
 dsimp only
 refine ad5 (ap1 H hl) ?_
 refine abe (by omega) λc2 r2=>?_
 have l2:=r2.len
 dsimp only
 refine abl (afo s _ Z.len.m) λa _ _=>?_
 refine abl (P:=λ_=>True) (ac5 ((λ⟨r,h,_⟩=>⟨r,h,trivial⟩:Ret _ _->Ret _ _) (afo s _ Z.len.m)) (ach _)) λb _ _=>?_
 refine abe (by omega) λc3 r3=>?_
 have l3:=r3.len
 dsimp only
 refine abe (by omega) λc4 r4=>?_
 have l4:=r4.len
 dsimp only
 obtain ⟨c5,hn,r5⟩:=afv (t:=6) (num:=((i:Nat):Int)) (d:=d) (acc:=c4) (by omega) J.notes J.note
 refine abh hn ?_
 refine ⟨_,rfl,c5,?_,?_⟩
 ·rw [aax i (by omega)]
 ·refine ((((r1.trans r2).trans r3).trans r4).trans r5).mono (by omega) ?_;rintro ⟨⟨⟨⟨p1,p2⟩,_⟩,I⟩,_⟩;refine ⟨by simpa using p1,λh0=>?_,?_⟩
  ·have hd:decide ((i:Int)>(0:Int))=true:=Ag (by omega);rw [hd,Af,apz (by omega) (by omega),Ai] at p2;exact p2
  ·by_cases M:(((m.fld 1).asList.getD i .bad).fld 3).asInt<1
   ·rw [Ag M] at I;cases I
   ·rw [An M,Ah] at I;have:=of_decide_eq_false I;omega
theorem a9h {s m:PV} (hs:SOk s) (H:OkSvc m):Ret (F50 0 s m) λq=>q.length<=3+5*(m.fld 1).asList.length/\(q=[]->SvcV m/\defP (m.fld 0).asStr=true):=by
 have hl:=H.meths;unfold F50;refine abl (ak2 _ H.name) λu _ hu=>?_;refine abe (by simp) λc1 r1=>?_;have l1:=r1.len;simp only [Ao] at l1;dsimp only;refine abe (by omega) λo r2=>?_;have l2:=r2.len;dsimp only;obtain ⟨h,q1,q2,q3⟩:∃ h,aag 0 (S50_6step 0) ((),(),(),(0:Int),s,m,(m.fld 0).asStr,o)=some ((),(),s,m,(m.fld 0).asStr,h)/\Ad o h (5*(m.fld 1).asList.length) True/\(h=[]->SvcV m):=by
  obtain ⟨h,O,I,h3⟩:=acv (step:=S50_6step 0) (λi c=>((),(),(),((i:Nat):Int),s,m,(m.fld 0).asStr,c)) (m.fld 1).asList.length (λc=>((),(),s,m,(m.fld 0).asStr,c)) (λi c=>Ad o c (5*i) True/\(c=[]->∀ j,j<i->MethV m j)) (λi c hi Z=>by
   have hc:=Z.1.len;obtain ⟨r,O,c',rfl,I⟩:=a1d (d:=(m.fld 0).asStr) (acc:=c) hs H hi (by omega);refine ⟨c',O,(Z.1.trans I).mono (by omega) λ_=>trivial,λe j hj=>?_⟩;obtain ⟨J,M⟩:=I.nil e;by_cases aa:j=i
   ·subst aa;exact M
   ·exact Z.2 J j (by omega)) (λc _=>by
   simp only [S50_6step,S50_6,decN,Ah]) (m.fld 1).asList.length 0 o (by omega) ⟨(Ad.refl o).mono (by omega) λ_=>trivial,λ_ j hj=>by omega⟩
  exact ⟨h,O,I,λe i hi=>h3 e i hi⟩
 have l3:=q2.len;refine abh q1 ?_;dsimp only;obtain ⟨c4,n1,n2⟩:=afv (l:=(m.fld 2).asList) (t:=5) (num:=-1) (d:=(m.fld 0).asStr) (acc:=h) (by omega) H.notes H.note;have l4:=n2.len;refine abh n1 ?_;refine ⟨c4,rfl,by omega,λe=>?_⟩;obtain ⟨e3,_⟩:=n2.nil e;obtain ⟨M,_⟩:=q2.nil e3;obtain ⟨J,_⟩:=r2.nil M;obtain ⟨_,e0⟩:=r1.nil J;exact ⟨q3 e3,by rw [<-hu];simpa using e0⟩
theorem ads (v:PV) (i:Nat):aat (v.fld i)<=aat v:=by
 unfold PV.fld;cases v with
 | agg xs=>
  show aat (xs.getD i .bad)<=aay xs+1;by_cases h:i<xs.length
  ·have:xs.getD i .bad∈xs:=by rw [aae h];exact List.getElem_mem h
   have:=aeo this;omega
  ·have:xs.getD i .bad=.bad:=by simp [List.getD,Bb (Nat.le_of_not_lt h)]
   rw [this];simp [aat]
 | _=>simp [PV.parts,aat]
theorem afh (v:PV) (i:Nat):(v.fld i).asList.length<=aat v:=by have:=ads v i;have:=aep (v.fld i);omega
theorem afi (v:PV):aay v.asList<=aat v:=by cases v<;>simp [PV.asList,aay,aat]
theorem amc:∀ (l:List PV) (i:Nat),i<l.length->aay (l.take i)+aat (l.getD i .bad)=aay (l.take (i+1)):=by
 intro l;induction l with
 | nil=>intro i h;simp at h
 | cons x l o=>
  intro i h;cases i with
  | zero=>simp [aay]
  | succ i=>have:=o i (by simpa using h);simp only [List.take_succ_cons,aay,List.getD_cons_succ];omega
theorem akb (l:List PV) (i:Nat):aay (l.take i)<=aay l:=by
 induction l generalizing i with
 | nil=>simp
 | cons x l h=>
  cases i with
  | zero=>simp [aay]
  | succ i=>simp only [List.take_succ_cons,aay];have:=h i;omega
structure SchemaV (s:PV):Prop where
 ascM:∀ i,i+1<(s.fld 0).asList.length->ascB (nmL (s.fld 0).asList) i=true
 ascE:∀ i,i+1<(s.fld 1).asList.length->ascB (nmL (s.fld 1).asList) i=true
 ascS:∀ i,i+1<(s.fld 2).asList.length->ascB (nmL (s.fld 2).asList) i=true
 msg:∀ i,i<(s.fld 0).asList.length->MsgV ((s.fld 0).asList.getD i .bad)
 enum:∀ i,i<(s.fld 1).asList.length->EnumV ((s.fld 1).asList.getD i .bad)
 svc:∀ i,i<(s.fld 2).asList.length->SvcV ((s.fld 2).asList.getD i .bad)
 svcN:∀ i,i<(s.fld 2).asList.length->defP (((s.fld 2).asList.getD i .bad).fld 0).asStr=true
theorem a7k {s:PV} (I:SOk s) (hb:aat s<=1048576):Ret (F18 0 s) λq=>q=[]->SchemaV s:=by
 have h1:=I.len.m;have h2:=I.len.e;have h3:=I.len.v;have hn:∀ l:List PV,(nmL l).length=l.length:=λl=>by simp [nmL]
 have ab:∀ (w:Int) (acc:List PV),(w=1\/w=2\/w=3)->acc.length<50000000000->∃ o,S18_4step 0 ((),(),w,s,([]:Bt),acc)=some (.inl ((),(),IntKind.wrap .i64 (w+1),s,([]:Bt),o))/\Ad acc o 2 (∀ i,i+1<(nmL (bif w==1 then (s.fld 0).asList else bif w==2 then (s.fld 1).asList else (s.fld 2).asList)).length->ascB (nmL (bif w==1 then (s.fld 0).asList else bif w==2 then (s.fld 1).asList else (s.fld 2).asList)) i=true):=by
  intro w acc hw ha;have an:decide (w<=3)=true:=Ag (by omega);have ao:(nmL (bif w==1 then (s.fld 0).asList else bif w==2 then (s.fld 1).asList else (s.fld 2).asList)).length<=1048576:=by rw [hn];cases w==1<;>cases w==2<;>simp<;>omega
  have ad:Ret (S18_4step 0 ((),(),w,s,([]:Bt),acc)) λr=>∃ o,r=.inl ((),(),IntKind.wrap .i64 (w+1),s,([]:Bt),o)/\Ad acc o 2 (∀ i,i+1<(nmL (bif w==1 then (s.fld 0).asList else bif w==2 then (s.fld 1).asList else (s.fld 2).asList)).length->ascB (nmL (bif w==1 then (s.fld 0).asList else bif w==2 then (s.fld 1).asList else (s.fld 2).asList)) i=true):=by simp only [S18_4step,S18_4,an,Af];refine abh (alz I.len hw) ?_;refine abe (by omega) λc1 r1=>?_;have l1:=r1.len;dsimp only;refine abl (a7l ao) λb _ am=>?_;refine abe (by omega) λc2 r2=>?_;refine ⟨_,rfl,c2,rfl,(r1.trans r2).mono (by omega) ?_⟩;rintro ⟨_,p2⟩;exact am (by simpa using p2)
  obtain ⟨r,e,o,rfl,h⟩:=ad;exact ⟨o,e,h⟩
 obtain ⟨a1,s1,d1⟩:=ab 1 [] (Or.inl rfl) (by simp);have ap:=d1.len;simp only [Ao] at ap;obtain ⟨a2,s2,d2⟩:=ab 2 a1 (Or.inr (Or.inl rfl)) (by omega);have au:=d2.len;obtain ⟨a3,s3,d3⟩:=ab 3 a2 (Or.inr (Or.inr rfl)) (by omega);have av:=d3.len;have w1:IntKind.wrap .i64 ((1:Int)+1)=2:=by decide
 have w2:IntKind.wrap .i64 ((2:Int)+1)=3:=by decide
 have w3:IntKind.wrap .i64 ((3:Int)+1)=4:=by decide
 rw [w1] at s1;rw [w2] at s2;rw [w3] at s3;have aa:aag 0 (S18_4step 0) ((),(),(1:Int),s,([]:Bt),[])=some ((),(),s,([]:Bt),a3):=by show aa9 _ _=_;rw [aaq s1,aaq s2,aaq s3];refine aah ?_;simp only [S18_4step,S18_4,show decide ((4:Int)<=3)=false from rfl,Ah]
 unfold F18;refine abh aa ?_;dsimp only;refine abh (alz I.len (w:=1) (Or.inl rfl)) ?_;refine abh (alz I.len (w:=2) (Or.inr (Or.inl rfl))) ?_;refine abh (alz I.len (w:=3) (Or.inr (Or.inr rfl))) ?_;have e1:((1:Int)==1)=true:=rfl;have ag:((2:Int)==1)=false:=rfl;have ah:((2:Int)==2)=true:=rfl;have ai:((3:Int)==1)=false:=rfl;have aj:((3:Int)==2)=false:=rfl;simp only [e1,ag,ah,ai,aj,Af,Ah] at d1 d2 d3 ⊢;rw [hn] at d1 d2 d3;refine abl (aqc (by rw [hn];omega) (by rw [hn];omega)) λb1 _ _=>?_;refine abl (P:=λ_=>True) (ac5 (aqc (by rw [hn];omega) (by rw [hn];omega)) (ach _)) λb2 _ _=>?_;refine abl (P:=λ_=>True) (ac5 (aqc (by rw [hn];omega) (by rw [hn];omega)) (ach _)) λb3 _ _=>?_;refine abe (by omega) λa4 d4=>?_;have aw:=d4.len;dsimp only;refine abl (axm I.len.m λm hm=>(I.msg m hm).fields) λfin _ ae=>?_;have b0:aay (s.fld 0).asList<=1048576:=by have:=afi (s.fld 0);have:=ads s 0;omega
 have aq:aay (s.fld 1).asList<=1048576:=by have:=afi (s.fld 1);have:=ads s 1;omega
 have ar:aay (s.fld 2).asList<=1048576:=by have:=afi (s.fld 2);have:=ads s 2;omega
 obtain ⟨J,q5,d5,f5⟩:∃ J,aag 0 (S18_15step 0) ((),(),fin,(0:Int),s,([]:Bt),a4)=some ((),(),s,([]:Bt),J)/\Ad a4 J (30*1048576) True/\(J=[]->∀ i,i<(s.fld 0).asList.length->MsgV ((s.fld 0).asList.getD i .bad)):=by
  obtain ⟨J,h1,h2,h3⟩:=acv (step:=S18_15step 0) (λi c=>((),(),fin,((i:Nat):Int),s,([]:Bt),c)) (s.fld 0).asList.length (λc=>((),(),s,([]:Bt),c)) (λi c=>Ad a4 c (30*aay ((s.fld 0).asList.take i)) True/\(c=[]->∀ j,j<i->MsgV ((s.fld 0).asList.getD j .bad))) (λi c H O=>by
   have hc:=O.1.len;have ht:=akb (s.fld 0).asList i;have af:=amc (s.fld 0).asList i H;have hm:=I.msg _ (aik H);obtain ⟨q,g1,g2,g3⟩:=aug (fin:=fin) I hm ae;have k1:=afh ((s.fld 0).asList.getD i .bad) 1;have k2:=afh ((s.fld 0).asList.getD i .bad) 2;have k3:=afh ((s.fld 0).asList.getD i .bad) 3;have k4:=aee ((s.fld 0).asList.getD i .bad);have kb:aat ((s.fld 0).asList.getD i .bad)<=1048576:=by have:=aeo (aik H);omega
   refine ⟨c++q,?_,(O.1.trans (⟨q,rfl,Nat.le_refl _,λ_=>trivial⟩:Ad c (c++q) q.length True)).mono (by omega) λ_=>trivial,λe j hj=>?_⟩
   ·simp only [S18_15step,S18_15,decL i _ H,Af,aab,Ag H,Ai,g1,Aa,Ag (show c.length+q.length<=aaf by unfold aaf;omega),aax i (by omega)]
   ·obtain ⟨e1,e2⟩:=List.append_eq_nil_iff.1 e;by_cases Z:j=i
    ·subst Z;exact g3 e2
    ·exact O.2 e1 j (by omega)) (λc _=>by
   simp only [S18_15step,S18_15,decN,Ah]) (s.fld 0).asList.length 0 a4 (by omega) ⟨(Ad.refl a4).mono (by omega) λ_=>trivial,λ_ j hj=>by omega⟩
  rw [List.take_length] at h2;exact ⟨J,h1,h2.mono (by omega) id,h3⟩
 have ax:=d5.len;refine abh q5 ?_;dsimp only;obtain ⟨M,q6,d6,f6⟩:∃ M,aag 0 (S18_19step 0) ((),(),(0:Int),s,([]:Bt),J)=some ((),(),s,([]:Bt),M)/\Ad J M (30*1048576) True/\(M=[]->∀ i,i<(s.fld 1).asList.length->EnumV ((s.fld 1).asList.getD i .bad)):=by
  obtain ⟨M,h1,h2,h3⟩:=acv (step:=S18_19step 0) (λi c=>((),(),((i:Nat):Int),s,([]:Bt),c)) (s.fld 1).asList.length (λc=>((),(),s,([]:Bt),c)) (λi c=>Ad J c (30*aay ((s.fld 1).asList.take i)) True/\(c=[]->∀ j,j<i->EnumV ((s.fld 1).asList.getD j .bad))) (λi c H O=>by
   have hc:=O.1.len;have ht:=akb (s.fld 1).asList i;have af:=amc (s.fld 1).asList i H;have hm:=I.enum _ (aik H);obtain ⟨q,g1,g2,g3⟩:=a3y hm;have k1:=afh ((s.fld 1).asList.getD i .bad) 2;have k2:=afh ((s.fld 1).asList.getD i .bad) 3;have k4:=aee ((s.fld 1).asList.getD i .bad);have kb:aat ((s.fld 1).asList.getD i .bad)<=1048576:=by have:=aeo (aik H);omega
   refine ⟨c++q,?_,(O.1.trans (⟨q,rfl,Nat.le_refl _,λ_=>trivial⟩:Ad c (c++q) q.length True)).mono (by omega) λ_=>trivial,λe j hj=>?_⟩
   ·simp only [S18_19step,S18_19,decL i _ H,Af,aab,Ag H,Ai,g1,Aa,Ag (show c.length+q.length<=aaf by unfold aaf;omega),aax i (by omega)]
   ·obtain ⟨e1,e2⟩:=List.append_eq_nil_iff.1 e;by_cases Z:j=i
    ·subst Z;exact g3 e2
    ·exact O.2 e1 j (by omega)) (λc _=>by
   simp only [S18_19step,S18_19,decN,Ah]) (s.fld 1).asList.length 0 J (by omega) ⟨(Ad.refl J).mono (by omega) λ_=>trivial,λ_ j hj=>by omega⟩
  rw [List.take_length] at h2;exact ⟨M,h1,h2.mono (by omega) id,h3⟩
 have ay:=d6.len;refine abh q6 ?_;dsimp only;obtain ⟨a7,q7,d7,f7⟩:∃ a7,aag 0 (S18_23step 0) ((),(),(0:Int),s,([]:Bt),M)=some ((),s,([]:Bt),a7)/\Ad M a7 (30*1048576) True/\(a7=[]->∀ i,i<(s.fld 2).asList.length->SvcV ((s.fld 2).asList.getD i .bad)/\defP (((s.fld 2).asList.getD i .bad).fld 0).asStr=true):=by
  obtain ⟨a7,h1,h2,h3⟩:=acv (step:=S18_23step 0) (λi c=>((),(),((i:Nat):Int),s,([]:Bt),c)) (s.fld 2).asList.length (λc=>((),s,([]:Bt),c)) (λi c=>Ad M c (30*aay ((s.fld 2).asList.take i)) True/\(c=[]->∀ j,j<i->SvcV ((s.fld 2).asList.getD j .bad)/\defP (((s.fld 2).asList.getD j .bad).fld 0).asStr=true)) (λi c H O=>by
   have hc:=O.1.len;have ht:=akb (s.fld 2).asList i;have af:=amc (s.fld 2).asList i H;have hm:=I.svc _ (aik H);obtain ⟨q,g1,g2,g3⟩:=a9h I hm;have k1:=afh ((s.fld 2).asList.getD i .bad) 1;have k4:=aee ((s.fld 2).asList.getD i .bad);have kb:aat ((s.fld 2).asList.getD i .bad)<=1048576:=by have:=aeo (aik H);omega
   refine ⟨c++q,?_,(O.1.trans (⟨q,rfl,Nat.le_refl _,λ_=>trivial⟩:Ad c (c++q) q.length True)).mono (by omega) λ_=>trivial,λe j hj=>?_⟩
   ·simp only [S18_23step,S18_23,decL i _ H,Af,aab,Ag H,Ai,g1,Aa,Ag (show c.length+q.length<=aaf by unfold aaf;omega),aax i (by omega)]
   ·obtain ⟨e1,e2⟩:=List.append_eq_nil_iff.1 e;by_cases Z:j=i
    ·subst Z;exact g3 e2
    ·exact O.2 e1 j (by omega)) (λc _=>by
   simp only [S18_23step,S18_23,decN,Ah]) (s.fld 2).asList.length 0 M (by omega) ⟨(Ad.refl M).mono (by omega) λ_=>trivial,λ_ j hj=>by omega⟩
  rw [List.take_length] at h2;exact ⟨a7,h1,h2.mono (by omega) id,h3⟩
 refine abh q7 ?_;refine ⟨a7,rfl,λe=>?_⟩;have g7:=f7 e;obtain ⟨e6,_⟩:=d7.nil e;have g6:=f6 e6;obtain ⟨e5,_⟩:=d6.nil e6;have g5:=f5 e5;obtain ⟨e4,_⟩:=d5.nil e5;obtain ⟨e3,_⟩:=d4.nil e4;obtain ⟨al,p3⟩:=d3.nil e3;obtain ⟨ak,p2⟩:=d2.nil al;obtain ⟨_,p1⟩:=d1.nil ak;exact ⟨p1,p2,p3,g5,g6,λi H=>(g7 i H).1,λi H=>(g7 i H).2⟩
theorem a2v {s:PV} (I:SOk s) (o:aat s<=1048576):Ret (F9 0 s) λb=>b=true->SchemaV s:=by
 unfold F9;refine abl (a7k I o) λq _ H=>⟨_,rfl,λh=>H ?_⟩;have h:((q.length:Int)==(0:Int))=true:=h;have:(q.length:Int)=0:=by simpa using h
 exact List.length_eq_zero_iff.1 (by omega)
end Go.Ab
