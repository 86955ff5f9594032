/- The specification's examination of schemas ends; what it says: messages, enums, services, all. -/
import Derived.Test.YtodichgnoiaanaaGreatDoorPVldT
set_option linter.unusedVariables false
set_option linter.unusedSimpArgs false
set_option linter.unnecessarySimpa false
namespace Go.Ab
open Go
set_option maxRecDepth 100000
theorem arm {i:Nat} (h:1<=i) (o:i<=1048576):IntKind.wrap .i64 ((i:Int)-1)=((i-1:Nat):Int):=by grind [abe]
theorem aro {i n:Nat} (o:i<n) (z:n<=1048576):imp (decide ((i:Int)>(0:Int))) (aab (IntKind.wrap .i64 ((i:Int)-1)) n)=true:=by
 by_cases h:(i:Int)>0
 ·rw [Ag h,arm (by omega) (by omega),aaa,Ag (show i-1<n by omega)];rfl
 grind [decide_eq_false,a3k]
theorem ai7 {l:List PV}{i:Nat} (h:i<l.length):l.getD i .bad∈l:=by grind
structure SOk (s:PV):Prop where
 len:SLen s
 msg:∀ m,m∈(s.fld 0).asList->OkMsg m
 enum:∀ m,m∈(s.fld 1).asList->OkEnum m
 svc:∀ m,m∈(s.fld 2).asList->OkSvc m
structure FldV (m:PV) (i:Nat):Prop where
 up:0<i->(((m.fld 1).asList.getD (i-1) .bad).fld 0).asInt<(((m.fld 1).asList.getD i .bad).fld 0).asInt
 pos:1<=(((m.fld 1).asList.getD i .bad).fld 0).asInt
 top:(((m.fld 1).asList.getD i .bad).fld 0).asInt<=65535
 card:F61 0 ((m.fld 1).asList.getD i .bad)=some true
 dflt:(((m.fld 1).asList.getD i .bad).fld 6).asBool=true->ad8 ((((m.fld 1).asList.getD i .bad).fld 4).fld 0).asInt (((m.fld 1).asList.getD i .bad).fld 7)=true
theorem a6q {s m:PV}{fin:List PV}{d:Bo}{acc:List PV}{f:PV}{i:Nat} (H:i<(m.fld 1).asList.length) (I:(m.fld 1).asList.length<=1048576):
 ∃ h,aaf 0 (S25_11step 0) (fin,(),(),(),((i:Nat):Int),(),false,(0:Int),s,m,d,acc,f)=some (fin,(),(),(),((i:Nat):Int),(),h,s,m,d,acc,f):=by
 obtain ⟨h,o,_⟩:=acy (step:=S25_11step 0) (λj (b:Bool)=>(fin,(),(),(),((i:Nat):Int),(),b,((j:Nat):Int),s,m,d,acc,f)) i (λb=>(fin,(),(),(),((i:Nat):Int),(),b,s,m,d,acc,f)) (λ_ _=>True) (λj b z _=>by
  simp only [S25_11step,S25_11,decL j _ z,Af,aaa,Ag (show j<(m.fld 1).asList.length by omega),Ai,aat j (by omega)];cases (((m.fld 1).asList.getD j .bad).fld 1).asStr==(f.fld 1).asStr with
  | true=>grind
  | false=>grind) (λb _=>by
  simp only [S25_11step,S25_11,decN,Ah]) i 0 false (by omega) trivial
 exact ⟨h,o⟩
theorem a8e {s m:PV}{fin:List PV}{d:Bo}{acc:List PV}{i:Nat} (I:SOk s) (H:OkMsg m) (o:i<(m.fld 1).asList.length) (ha:acc.length<50000000000):
 Ret (S25_6step 0 (fin,(),(),(),((i:Nat):Int),s,m,d,acc)) λr=>∃ h,r=.inl (fin,(),(),(),((i+1:Nat):Int),s,m,d,h)/\Ad acc h 12 (FldV m i):=by
 have M:=H.fields
 have z:=H.field _ (ai7 o)
 obtain ⟨tw,O⟩:=a6q (s:=s) (m:=m) (fin:=fin) (d:=d) (acc:=acc) (f:=(m.fld 1).asList.getD i .bad) o M
 simp only [S25_6step,S25_6,decL i _ o,Af,aaa,Ag o,Ai]
 refine abh O ?_
 dsimp only
 refine abc (by omega) λc1 r1=>?_
 have l1:=r1.len
 dsimp only
 refine afb (aro o M) ?_
 refine abc (by omega) λc2 r2=>?_
 have l2:=r2.len
 dsimp only
 refine abn (afv _ z.name) λu _ _=>?_
 refine abc (by omega) λc3 r3=>?_
 have l3:=r3.len
 dsimp only
 refine abc (by omega) λc4 r4=>?_
 have l4:=r4.len
 dsimp only
 refine abn (amk _ _ H.spans) λrs _ _=>?_
 refine abn (P:=λ_=>True) (ac8 (a3h _ _ H.gone) (acg _)) λgn _ _=>?_
 refine abc (by omega) λc5 r5=>?_
 have l5:=r5.len
 dsimp only
 refine abn (a7q _) λcd aa _=>?_
 refine abc (by omega) λc6 r6=>?_
 have l6:=r6.len
 dsimp only
 refine abn (bc3 s _ I.len.m I.len.e) λty _ _=>?_
 refine abc (by omega) λc7 r7=>?_
 have l7:=r7.len
 dsimp only
 refine abn (a6t m o M z.union) λun _ _=>?_
 refine abc (by omega) λc8 r8=>?_
 have l8:=r8.len
 dsimp only
 refine abn (a6y s _ I.len.e (λe he=>(I.enum e he).items) z.dflt) λva _ ab=>?_
 refine abc (by omega) λc9 r9=>?_
 have l9:=r9.len
 dsimp only
 obtain ⟨J,hn,Z⟩:=agh (t:=2) (num:=(((m.fld 1).asList.getD i .bad).fld 0).asInt) (d:=d) (acc:=c9) (by omega) z.notes z.note
 refine abh hn ?_
 refine ⟨_,rfl,J,?_,?_⟩
 ·rw [aat i (by omega)]
 ·refine (((((((((r1.trans r2).trans r3).trans r4).trans r5).trans r6).trans r7).trans r8).trans r9).trans Z).mono (by omega) ?_;rintro ⟨⟨⟨⟨⟨⟨⟨⟨⟨p1,p2⟩,_⟩,_⟩,_⟩,p6⟩,_⟩,_⟩,p9⟩,_⟩;refine ⟨λh0=>?_,?_,?_,?_,λhd=>?_⟩
  ·have hd:decide ((i:Int)>(0:Int))=true:=Ag (by omega);rw [hd,Af,arm (by omega) (by omega),Ai] at p2;all_goals grind
  all_goals grind
def MsgV (m:PV):Prop:=∀ i,i<(m.fld 1).asList.length->FldV m i
theorem alz (s:Bo) (h:s.length<=1048576):Ret (F58 0 s) λu=>u=defP s:=⟨_,a1e s h,rfl⟩
theorem awy {s m:PV}{fin:List PV} (hs:SOk s) (o:OkMsg m) (aa:fin.length=(s.fld 0).asList.length):
 Ret (F25 0 s m fin) λq=>q.length<=6+12*(m.fld 1).asList.length+2*(m.fld 2).asList.length+(m.fld 3).asList.length/\(q=[]->MsgV m):=by
 have hl:=o.fields;have ab:=o.spans;have hg:=o.gone
 unfold F25
 refine abn (alz _ o.name) λu _ _=>?_
 refine abc (by simp) λc1 r1=>?_
 have l1:=r1.len
 simp only [Aw] at l1
 dsimp only
 refine abc (by omega) λM r2=>?_
 have l2:=r2.len
 dsimp only
 obtain ⟨z,q1,q2,q3⟩:∃ z,aaf 0 (S25_6step 0) (fin,(),(),(),(0:Int),s,m,(m.fld 0).asStr,M)=some (fin,(),(),(),s,m,(m.fld 0).asStr,z)/\Ad M z (12*(m.fld 1).asList.length) True/\(z=[]->MsgV m):=by
  obtain ⟨z,H,h,h3⟩:=acy (step:=S25_6step 0) (λi c=>(fin,(),(),(),((i:Nat):Int),s,m,(m.fld 0).asStr,c)) (m.fld 1).asList.length (λc=>(fin,(),(),(),s,m,(m.fld 0).asStr,c)) (λi c=>Ad M c (12*i) True/\(c=[]->∀ j,j<i->FldV m j)) (λi c I Z=>by
   have hc:=Z.1.len;obtain ⟨r,H,c',rfl,h⟩:=a8e (fin:=fin) (d:=(m.fld 0).asStr) (acc:=c) hs o I (by omega);refine ⟨c',H,(Z.1.trans h).mono (by omega) λ_=>trivial,λe j hj=>?_⟩;obtain ⟨e1,e2⟩:=h.nil e;grind) (λc _=>by
   simp only [S25_6step,S25_6,decN,Ah]) (m.fld 1).asList.length 0 M (by omega) ⟨(Ad.refl M).mono (by omega) λ_=>trivial,λ_ j hj=>by omega⟩
  exact ⟨z,H,h,λe i I=>h3 e i I⟩
 have l3:=q2.len
 refine abh q1 ?_
 dsimp only
 obtain ⟨O,s1,s2⟩:=au8 (l:=(m.fld 2).asList) (a:=1) (b:=65535) (d:=(m.fld 0).asStr) (acc:=z) ab (by omega)
 have l4:=s2.len
 refine abh s1 ?_
 dsimp only
 obtain ⟨J,t1,t2⟩:∃ J,aaf 0 (S25_27step 0) (fin,(),(),(),(0:Int),s,m,(m.fld 0).asStr,O)=some (fin,(),(),(),s,m,(m.fld 0).asStr,J)/\Ad O J (m.fld 3).asList.length True:=by
  obtain ⟨J,H,h⟩:=acy (step:=S25_27step 0) (λi c=>(fin,(),(),(),((i:Nat):Int),s,m,(m.fld 0).asStr,c)) (m.fld 3).asList.length (λc=>(fin,(),(),(),s,m,(m.fld 0).asStr,c)) (λi c=>Ad O c i True) (λi c I Z=>by
   have hc:=Z.len;have ad:=o.goneS _ (ai7 I);obtain ⟨c',H,h⟩:=a1q (bad:=!(valid ((m.fld 3).asList.getD i .bad).asStr)) (num:=-1) (e:=7) (d:=(m.fld 0).asStr) (acc:=c) (by omega);refine ⟨c',?_,(Z.trans h).mono (Nat.le_refl _) λ_=>trivial⟩;simp only [S25_27step,S25_27,decL i _ I,Af,aaa,Ag I,Ai,aoz _ (show ((m.fld 3).asList.getD i .bad).asStr.length<=9223372036854775000 by omega),Aa,H,aat i (by omega)]) (λc _=>by
   simp only [S25_27step,S25_27,decN,Ah]) (m.fld 3).asList.length 0 O (by omega) (Ad.refl O)
  exact ⟨J,H,h⟩
 have l5:=t2.len
 refine abh t1 ?_
 dsimp only
 obtain ⟨c6,n1,n2⟩:=agh (l:=(m.fld 4).asList) (t:=1) (num:=-1) (d:=(m.fld 0).asStr) (acc:=J) (by omega) o.notes o.note
 have l6:=n2.len
 refine abh n1 ?_
 dsimp only
 refine abn (a5b aa hs.len.m hl) λnd _ _=>?_
 refine abc (by omega) λc7 r7=>?_
 have l7:=r7.len
 refine ⟨c7,rfl,by omega,λe=>?_⟩
 obtain ⟨e6,_⟩:=r7.nil e
 obtain ⟨e5,_⟩:=n2.nil e6
 obtain ⟨e4,_⟩:=t2.nil e5
 obtain ⟨e3,_⟩:=s2.nil e4
 exact q3 e3
end Go.Ab
namespace Go.Ab
open Go
set_option maxRecDepth 100000
structure ItemV (m:PV) (i:Nat):Prop where
 up:0<i->(((m.fld 2).asList.getD (i-1) .bad).fld 1).asInt<(((m.fld 2).asList.getD i .bad).fld 1).asInt
 pos:0<=(((m.fld 2).asList.getD i .bad).fld 1).asInt
 top:(((m.fld 2).asList.getD i .bad).fld 1).asInt<=2147483647
def EnumV (m:PV):Prop:=∀ i,i<(m.fld 2).asList.length->ItemV m i
theorem a1d {m:PV}{d:Bo}{acc:List PV}{f:PV}{i:Nat} (H:i<(m.fld 2).asList.length) (I:(m.fld 2).asList.length<=1048576):
 ∃ h,aaf 0 (S26_12step 0) ((),(),((i:Nat):Int),(),false,(0:Int),m,d,acc,f)=some ((),(),((i:Nat):Int),(),h,m,d,acc,f):=by
 obtain ⟨h,o,_⟩:=acy (step:=S26_12step 0) (λj (b:Bool)=>((),(),((i:Nat):Int),(),b,((j:Nat):Int),m,d,acc,f)) i (λb=>((),(),((i:Nat):Int),(),b,m,d,acc,f)) (λ_ _=>True) (λj b z _=>by
  simp only [S26_12step,S26_12,decL j _ z,Af,aaa,Ag (show j<(m.fld 2).asList.length by omega),Ai,aat j (by omega)];cases (((m.fld 2).asList.getD j .bad).fld 0).asStr==(f.fld 0).asStr with
  | true=>grind
  | false=>grind) (λb _=>by
  simp only [S26_12step,S26_12,decN,Ah]) i 0 false (by omega) trivial
 exact ⟨h,o⟩
theorem a3y {m:PV}{d:Bo}{acc:List PV}{i:Nat} (H:OkEnum m) (o:i<(m.fld 2).asList.length) (ha:acc.length<50000000000):
 Ret (S26_7step 0 ((),(),((i:Nat):Int),m,d,acc)) λr=>∃ h,r=.inl ((),(),((i+1:Nat):Int),m,d,h)/\Ad acc h 6 (ItemV m i):=by
 have J:=H.items
 have z:=H.item _ (ai7 o)
 obtain ⟨tw,I⟩:=a1d (m:=m) (d:=d) (acc:=acc) (f:=(m.fld 2).asList.getD i .bad) o J
 simp only [S26_7step,S26_7,decL i _ o,Af,aaa,Ag o,Ai]
 refine abh I ?_
 dsimp only
 refine abc (by omega) λc1 M=>?_
 have l1:=M.len
 dsimp only
 refine afb (aro o J) ?_
 refine abc (by omega) λc2 O=>?_
 have l2:=O.len
 dsimp only
 refine abn (afv _ z.name) λu _ _=>?_
 refine abc (by omega) λc3 Z=>?_
 have l3:=Z.len
 dsimp only
 refine abc (by omega) λc4 r4=>?_
 have l4:=r4.len
 dsimp only
 refine abn (amk _ _ H.spans) λrs _ _=>?_
 refine abc (by omega) λc5 r5=>?_
 have l5:=r5.len
 dsimp only
 obtain ⟨c6,hn,r6⟩:=agh (t:=4) (num:=(((m.fld 2).asList.getD i .bad).fld 1).asInt) (d:=d) (acc:=c5) (by omega) z.notes z.note
 refine abh hn ?_
 refine ⟨_,rfl,c6,?_,?_⟩
 ·rw [aat i (by omega)]
 ·refine (((((M.trans O).trans Z).trans r4).trans r5).trans r6).mono (by omega) ?_;rintro ⟨⟨⟨⟨⟨p1,p2⟩,_⟩,_⟩,_⟩,_⟩;refine ⟨λh0=>?_,?_,?_⟩
  ·have hd:decide ((i:Int)>(0:Int))=true:=Ag (by omega);rw [hd,Af,arm (by omega) (by omega),Ai] at p2;all_goals grind
  all_goals grind
theorem a8b {m:PV} (o:OkEnum m):Ret (F26 0 m) λq=>q.length<=6+6*(m.fld 2).asList.length+2*(m.fld 3).asList.length/\(q=[]->EnumV m):=by
 have hl:=o.items;have M:=o.spans;unfold F26;refine abn (alz _ o.name) λu _ _=>?_;refine abc (by simp) λc1 r1=>?_;have l1:=r1.len;simp only [Aw] at l1;dsimp only;refine abc (by omega) λc2 r2=>?_;have l2:=r2.len;dsimp only;refine afb ?_ ?_
 ·by_cases h0:(((m.fld 2).asList.length:Nat):Int)>0
  ·rw [Ag h0,show aab (0:Int) (m.fld 2).asList.length=aab ((0:Nat):Int) (m.fld 2).asList.length from rfl,aaa,Ag (show 0<(m.fld 2).asList.length by omega)];rfl
  grind [decide_eq_false,a3k]
 refine abc (by omega) λz r3=>?_;have l3:=r3.len;dsimp only;obtain ⟨h,q1,q2,q3⟩:∃ h,aaf 0 (S26_7step 0) ((),(),(0:Int),m,(m.fld 0).asStr,z)=some ((),(),m,(m.fld 0).asStr,h)/\Ad z h (6*(m.fld 2).asList.length) True/\(h=[]->EnumV m):=by
  obtain ⟨h,I,H,h3⟩:=acy (step:=S26_7step 0) (λi c=>((),(),((i:Nat):Int),m,(m.fld 0).asStr,c)) (m.fld 2).asList.length (λc=>((),(),m,(m.fld 0).asStr,c)) (λi c=>Ad z c (6*i) True/\(c=[]->∀ j,j<i->ItemV m j)) (λi c J O=>by
   have hc:=O.1.len;obtain ⟨r,I,c',rfl,H⟩:=a3y (d:=(m.fld 0).asStr) (acc:=c) o J (by omega);refine ⟨c',I,(O.1.trans H).mono (by omega) λ_=>trivial,λe j hj=>?_⟩;obtain ⟨e1,e2⟩:=H.nil e;grind) (λc _=>by
   simp only [S26_7step,S26_7,decN,Ah]) (m.fld 2).asList.length 0 z (by omega) ⟨(Ad.refl z).mono (by omega) λ_=>trivial,λ_ j hj=>by omega⟩
  exact ⟨h,I,H,λe i J=>h3 e i J⟩
 have l4:=q2.len;refine abh q1 ?_;dsimp only;obtain ⟨c5,s1,s2⟩:=au8 (l:=(m.fld 3).asList) (a:=0) (b:=2147483647) (d:=(m.fld 0).asStr) (acc:=h) M (by omega);have l5:=s2.len;refine abh s1 ?_;dsimp only;obtain ⟨c6,n1,Z⟩:=agh (l:=(m.fld 4).asList) (t:=3) (num:=-1) (d:=(m.fld 0).asStr) (acc:=c5) (by omega) o.notes o.note;have l6:=Z.len;refine abh n1 ?_;refine ⟨c6,rfl,by omega,λe=>?_⟩;obtain ⟨e5,_⟩:=Z.nil e;obtain ⟨e4,_⟩:=s2.nil e5;exact q3 e4
structure MethV (m:PV) (i:Nat):Prop where
 name:alr (((m.fld 1).asList.getD i .bad).fld 0).asStr=true
 up:0<i->(Op.bytesLess (((m.fld 1).asList.getD i .bad).fld 0).asStr (((m.fld 1).asList.getD (i-1) .bad).fld 0).asStr||(((m.fld 1).asList.getD i .bad).fld 0).asStr==(((m.fld 1).asList.getD (i-1) .bad).fld 0).asStr)=false
 shape:1<=(((m.fld 1).asList.getD i .bad).fld 3).asInt/\(((m.fld 1).asList.getD i .bad).fld 3).asInt<=4
def SvcV (m:PV):Prop:=∀ i,i<(m.fld 1).asList.length->MethV m i
theorem a4y {s m:PV}{d:Bo}{acc:List PV}{i:Nat} (J:SOk s) (I:OkSvc m) (z:i<(m.fld 1).asList.length) (ha:acc.length<50000000000):
 Ret (S27_6step 0 ((),(),(),((i:Nat):Int),s,m,d,acc)) λr=>∃ o,r=.inl ((),(),(),((i+1:Nat):Int),s,m,d,o)/\Ad acc o 5 (MethV m i):=by
 have hl:=I.meths
 have H:=I.meth _ (ai7 z)
 simp only [S27_6step,S27_6,decL i _ z,Af,aaa,Ag z,Ai]
 refine abh (avm _ H.name) ?_
 refine abc (by omega) λc1 O=>?_
 have l1:=O.len
 dsimp only
 refine afb (aro z hl) ?_
 refine abc (by omega) λc2 Z=>?_
 have l2:=Z.len
 dsimp only
 refine abn (af6 s _ J.len.m) λa _ _=>?_
 refine abn (P:=λ_=>True) (ac8 ((λ⟨r,h,_⟩=>⟨r,h,trivial⟩:Ret _ _->Ret _ _) (af6 s _ J.len.m)) (acg _)) λb _ _=>?_
 refine abc (by omega) λc3 r3=>?_
 have l3:=r3.len
 dsimp only
 refine abc (by omega) λc4 r4=>?_
 have l4:=r4.len
 dsimp only
 obtain ⟨c5,hn,r5⟩:=agh (t:=6) (num:=((i:Nat):Int)) (d:=d) (acc:=c4) (by omega) H.notes H.note
 refine abh hn ?_
 refine ⟨_,rfl,c5,?_,?_⟩
 ·rw [aat i (by omega)]
 ·refine ((((O.trans Z).trans r3).trans r4).trans r5).mono (by omega) ?_;rintro ⟨⟨⟨⟨p1,M⟩,_⟩,p4⟩,_⟩;refine ⟨by simpa using p1,λh0=>?_,?_⟩
  ·have hd:decide ((i:Int)>(0:Int))=true:=Ag (by omega);rw [hd,Af,arm (by omega) (by omega),Ai] at M;exact M
  grind
theorem bcz {s m:PV} (hs:SOk s) (z:OkSvc m):Ret (F27 0 s m) λq=>q.length<=3+5*(m.fld 1).asList.length/\(q=[]->SvcV m/\defP (m.fld 0).asStr=true):=by
 have hl:=z.meths;unfold F27;refine abn (alz _ z.name) λu _ hu=>?_;refine abc (by simp) λc1 r1=>?_;have l1:=r1.len;simp only [Aw] at l1;dsimp only;refine abc (by omega) λo r2=>?_;have l2:=r2.len;dsimp only;obtain ⟨h,q1,q2,q3⟩:∃ h,aaf 0 (S27_6step 0) ((),(),(),(0:Int),s,m,(m.fld 0).asStr,o)=some ((),(),s,m,(m.fld 0).asStr,h)/\Ad o h (5*(m.fld 1).asList.length) True/\(h=[]->SvcV m):=by
  obtain ⟨h,I,H,h3⟩:=acy (step:=S27_6step 0) (λi c=>((),(),(),((i:Nat):Int),s,m,(m.fld 0).asStr,c)) (m.fld 1).asList.length (λc=>((),(),s,m,(m.fld 0).asStr,c)) (λi c=>Ad o c (5*i) True/\(c=[]->∀ j,j<i->MethV m j)) (λi c J Z=>by
   have hc:=Z.1.len;obtain ⟨r,I,c',rfl,H⟩:=a4y (d:=(m.fld 0).asStr) (acc:=c) hs z J (by omega);refine ⟨c',I,(Z.1.trans H).mono (by omega) λ_=>trivial,λe j hj=>?_⟩;obtain ⟨M,O⟩:=H.nil e;grind) (λc _=>by
   simp only [S27_6step,S27_6,decN,Ah]) (m.fld 1).asList.length 0 o (by omega) ⟨(Ad.refl o).mono (by omega) λ_=>trivial,λ_ j hj=>by omega⟩
  exact ⟨h,I,H,λe i J=>h3 e i J⟩
 have l3:=q2.len;refine abh q1 ?_;dsimp only;obtain ⟨c4,n1,n2⟩:=agh (l:=(m.fld 2).asList) (t:=5) (num:=-1) (d:=(m.fld 0).asStr) (acc:=h) (by omega) z.notes z.note;have l4:=n2.len;refine abh n1 ?_;refine ⟨c4,rfl,by omega,λe=>?_⟩;obtain ⟨e3,_⟩:=n2.nil e;obtain ⟨O,_⟩:=q2.nil e3;obtain ⟨M,_⟩:=r2.nil O;obtain ⟨_,e0⟩:=r1.nil M;grind
theorem adi (v:PV) (i:Nat):aaq (v.fld i)<=aaq v:=by
 unfold PV.fld;cases v with
 | agg xs=>
  show aaq (xs.getD i .bad)<=aax xs+1;by_cases h:i<xs.length
  ·have:xs.getD i .bad∈xs:=by grind
   have:=ae1 this;omega
  grind [bad,List.getD,List.getElem?_eq_none,Nat.le_of_not_lt,aaq]
 | _=>simp [PV.parts,aaq]
theorem ae2 (v:PV) (i:Nat):(v.fld i).asList.length<=aaq v:=by grind [adi,ae3]
theorem aeo (v:PV):aax v.asList<=aaq v:=by cases v<;>simp [PV.asList,aax,aaq]
theorem anp:∀ (l:List PV) (i:Nat),i<l.length->aax (l.take i)+aaq (l.getD i .bad)=aax (l.take (i+1)):=by
 intro l;induction l with
 | nil=>grind
 | cons x l o=>
  intro i h;cases i with
  | zero=>simp [aax]
  | succ i=>grind [aax,List.getD_cons_succ]
theorem ak8 (l:List PV) (i:Nat):aax (l.take i)<=aax l:=by
 induction l generalizing i with
 | nil=>simp
 | cons x l h=>
  cases i with
  | zero=>simp [aax]
  | succ i=>grind [aax]
structure SchemaV (s:PV):Prop where
 ascM:∀ i,i+1<(s.fld 0).asList.length->ascB (nmL (s.fld 0).asList) i=true
 ascE:∀ i,i+1<(s.fld 1).asList.length->ascB (nmL (s.fld 1).asList) i=true
 ascS:∀ i,i+1<(s.fld 2).asList.length->ascB (nmL (s.fld 2).asList) i=true
 msg:∀ i,i<(s.fld 0).asList.length->MsgV ((s.fld 0).asList.getD i .bad)
 enum:∀ i,i<(s.fld 1).asList.length->EnumV ((s.fld 1).asList.getD i .bad)
 svc:∀ i,i<(s.fld 2).asList.length->SvcV ((s.fld 2).asList.getD i .bad)
 svcN:∀ i,i<(s.fld 2).asList.length->defP (((s.fld 2).asList.getD i .bad).fld 0).asStr=true
 meet:F23 0 (nmL (s.fld 0).asList) (nmL (s.fld 1).asList)=some false
theorem bbq {s:PV} (z:SOk s) (hb:aaq s<=1048576):Ret (F8 0 s) λq=>q=[]->SchemaV s:=by
 have h1:=z.len.m;have J:=z.len.e;have h3:=z.len.v;have hn:∀ l:List PV,(nmL l).length=l.length:=λl=>by simp [nmL]
 have aa:∀ (w:Int) (acc:List PV),(w=1\/w=2\/w=3)->acc.length<50000000000->∃ o,S8_4step 0 ((),(),w,s,([]:Bo),acc)=some (.inl ((),(),IntKind.wrap .i64 (w+1),s,([]:Bo),o))/\Ad acc o 2 (∀ i,i+1<(nmL (bif w==1 then (s.fld 0).asList else bif w==2 then (s.fld 1).asList else (s.fld 2).asList)).length->ascB (nmL (bif w==1 then (s.fld 0).asList else bif w==2 then (s.fld 1).asList else (s.fld 2).asList)) i=true):=by
  intro w acc hw ha;have am:decide (w<=3)=true:=Ag (by omega);have an:(nmL (bif w==1 then (s.fld 0).asList else bif w==2 then (s.fld 1).asList else (s.fld 2).asList)).length<=1048576:=by grind
  have ap:Ret (S8_4step 0 ((),(),w,s,([]:Bo),acc)) λr=>∃ o,r=.inl ((),(),IntKind.wrap .i64 (w+1),s,([]:Bo),o)/\Ad acc o 2 (∀ i,i+1<(nmL (bif w==1 then (s.fld 0).asList else bif w==2 then (s.fld 1).asList else (s.fld 2).asList)).length->ascB (nmL (bif w==1 then (s.fld 0).asList else bif w==2 then (s.fld 1).asList else (s.fld 2).asList)) i=true):=by simp only [S8_4step,S8_4,am,Af];refine abh (am5 z.len hw) ?_;refine abc (by omega) λc1 r1=>?_;have l1:=r1.len;dsimp only;refine abn (bbr an) λb _ au=>?_;refine abc (by omega) λc2 r2=>?_;refine ⟨_,rfl,c2,rfl,(r1.trans r2).mono (by omega) ?_⟩;grind
  grind
 obtain ⟨a1,s1,d1⟩:=aa 1 [] (Or.inl rfl) (by simp);have ao:=d1.len;simp only [Aw] at ao;obtain ⟨a2,s2,d2⟩:=aa 2 a1 (Or.inr (Or.inl rfl)) (by omega);have av:=d2.len;obtain ⟨a3,s3,d3⟩:=aa 3 a2 (Or.inr (Or.inr rfl)) (by omega);have aw:=d3.len;have w1:IntKind.wrap .i64 ((1:Int)+1)=2:=by decide
 have w2:IntKind.wrap .i64 ((2:Int)+1)=3:=by decide
 have w3:IntKind.wrap .i64 ((3:Int)+1)=4:=by decide
 rw [w1] at s1;rw [w2] at s2;rw [w3] at s3;have Z:aaf 0 (S8_4step 0) ((),(),(1:Int),s,([]:Bo),[])=some ((),(),s,([]:Bo),a3):=by show aa3 _ _=_;rw [aao s1,aao s2,aao s3];refine aai ?_;simp only [S8_4step,S8_4,show decide ((4:Int)<=3)=false from rfl,Ah]
 unfold F8;refine abh Z ?_;dsimp only;refine abh (am5 z.len (w:=1) (Or.inl rfl)) ?_;refine abh (am5 z.len (w:=2) (Or.inr (Or.inl rfl))) ?_;refine abh (am5 z.len (w:=3) (Or.inr (Or.inr rfl))) ?_;have e1:((1:Int)==1)=true:=rfl;have ae:((2:Int)==1)=false:=rfl;have af:((2:Int)==2)=true:=rfl;have ag:((3:Int)==1)=false:=rfl;have ah:((3:Int)==2)=false:=rfl;simp only [e1,ae,af,ag,ah,Af,Ah] at d1 d2 d3 ⊢;rw [hn] at d1 d2 d3;refine abn (ar5 (by rw [hn];omega) (by rw [hn];omega)) λb1 ak _=>?_;refine abn (P:=λ_=>True) (ac8 (ar5 (by rw [hn];omega) (by rw [hn];omega)) (acg _)) λb2 _ _=>?_;refine abn (P:=λ_=>True) (ac8 (ar5 (by rw [hn];omega) (by rw [hn];omega)) (acg _)) λb3 _ _=>?_;refine abc (by omega) λa4 d4=>?_;have ax:=d4.len;dsimp only;refine abn (az5 z.len.m λm hm=>(z.msg m hm).fields) λfin _ ab=>?_;have b0:aax (s.fld 0).asList<=1048576:=by grind [aeo,adi]
 have aq:aax (s.fld 1).asList<=1048576:=by grind [aeo,adi]
 have ar:aax (s.fld 2).asList<=1048576:=by grind [aeo,adi]
 obtain ⟨H,q5,d5,f5⟩:∃ H,aaf 0 (S8_15step 0) ((),(),fin,(0:Int),s,([]:Bo),a4)=some ((),(),s,([]:Bo),H)/\Ad a4 H (30*1048576) True/\(H=[]->∀ i,i<(s.fld 0).asList.length->MsgV ((s.fld 0).asList.getD i .bad)):=by
  obtain ⟨H,h1,J,h3⟩:=acy (step:=S8_15step 0) (λi c=>((),(),fin,((i:Nat):Int),s,([]:Bo),c)) (s.fld 0).asList.length (λc=>((),(),s,([]:Bo),c)) (λi c=>Ad a4 c (30*aax ((s.fld 0).asList.take i)) True/\(c=[]->∀ j,j<i->MsgV ((s.fld 0).asList.getD j .bad))) (λi c h M=>by
   have hc:=M.1.len;have ht:=ak8 (s.fld 0).asList i;have ad:=anp (s.fld 0).asList i h;have hm:=z.msg _ (ai7 h);obtain ⟨q,g1,g2,g3⟩:=awy (fin:=fin) z hm ab;have k1:=ae2 ((s.fld 0).asList.getD i .bad) 1;have k2:=ae2 ((s.fld 0).asList.getD i .bad) 2;have k3:=ae2 ((s.fld 0).asList.getD i .bad) 3;have k4:=aen ((s.fld 0).asList.getD i .bad);have kb:aaq ((s.fld 0).asList.getD i .bad)<=1048576:=by have:=ae1 (ai7 h);omega
   refine ⟨c++q,?_,(M.1.trans (⟨q,rfl,Nat.le_refl _,λ_=>trivial⟩:Ad c (c++q) q.length True)).mono (by omega) λ_=>trivial,λe j hj=>?_⟩
   ·simp only [S8_15step,S8_15,decL i _ h,Af,aaa,Ag h,Ai,g1,Aa,Ag (show c.length+q.length<=aae by unfold aae;omega),aat i (by omega)]
   grind [List.append_eq_nil_iff]) (λc _=>by
   simp only [S8_15step,S8_15,decN,Ah]) (s.fld 0).asList.length 0 a4 (by omega) ⟨(Ad.refl a4).mono (by omega) λ_=>trivial,λ_ j hj=>by omega⟩
  rw [List.take_length] at J;exact ⟨H,h1,J.mono (by omega) id,h3⟩
 have ay:=d5.len;refine abh q5 ?_;dsimp only;obtain ⟨I,q6,d6,f6⟩:∃ I,aaf 0 (S8_19step 0) ((),(),(0:Int),s,([]:Bo),H)=some ((),(),s,([]:Bo),I)/\Ad H I (30*1048576) True/\(I=[]->∀ i,i<(s.fld 1).asList.length->EnumV ((s.fld 1).asList.getD i .bad)):=by
  obtain ⟨I,h1,J,h3⟩:=acy (step:=S8_19step 0) (λi c=>((),(),((i:Nat):Int),s,([]:Bo),c)) (s.fld 1).asList.length (λc=>((),(),s,([]:Bo),c)) (λi c=>Ad H c (30*aax ((s.fld 1).asList.take i)) True/\(c=[]->∀ j,j<i->EnumV ((s.fld 1).asList.getD j .bad))) (λi c h M=>by
   have hc:=M.1.len;have ht:=ak8 (s.fld 1).asList i;have ad:=anp (s.fld 1).asList i h;have hm:=z.enum _ (ai7 h);obtain ⟨q,g1,g2,g3⟩:=a8b hm;have k1:=ae2 ((s.fld 1).asList.getD i .bad) 2;have k2:=ae2 ((s.fld 1).asList.getD i .bad) 3;have k4:=aen ((s.fld 1).asList.getD i .bad);have kb:aaq ((s.fld 1).asList.getD i .bad)<=1048576:=by have:=ae1 (ai7 h);omega
   refine ⟨c++q,?_,(M.1.trans (⟨q,rfl,Nat.le_refl _,λ_=>trivial⟩:Ad c (c++q) q.length True)).mono (by omega) λ_=>trivial,λe j hj=>?_⟩
   ·simp only [S8_19step,S8_19,decL i _ h,Af,aaa,Ag h,Ai,g1,Aa,Ag (show c.length+q.length<=aae by unfold aae;omega),aat i (by omega)]
   grind [List.append_eq_nil_iff]) (λc _=>by
   simp only [S8_19step,S8_19,decN,Ah]) (s.fld 1).asList.length 0 H (by omega) ⟨(Ad.refl H).mono (by omega) λ_=>trivial,λ_ j hj=>by omega⟩
  rw [List.take_length] at J;exact ⟨I,h1,J.mono (by omega) id,h3⟩
 have az:=d6.len;refine abh q6 ?_;dsimp only;obtain ⟨O,q7,d7,f7⟩:∃ O,aaf 0 (S8_23step 0) ((),(),(0:Int),s,([]:Bo),I)=some ((),s,([]:Bo),O)/\Ad I O (30*1048576) True/\(O=[]->∀ i,i<(s.fld 2).asList.length->SvcV ((s.fld 2).asList.getD i .bad)/\defP (((s.fld 2).asList.getD i .bad).fld 0).asStr=true):=by
  obtain ⟨O,h1,J,h3⟩:=acy (step:=S8_23step 0) (λi c=>((),(),((i:Nat):Int),s,([]:Bo),c)) (s.fld 2).asList.length (λc=>((),s,([]:Bo),c)) (λi c=>Ad I c (30*aax ((s.fld 2).asList.take i)) True/\(c=[]->∀ j,j<i->SvcV ((s.fld 2).asList.getD j .bad)/\defP (((s.fld 2).asList.getD j .bad).fld 0).asStr=true)) (λi c h M=>by
   have hc:=M.1.len;have ht:=ak8 (s.fld 2).asList i;have ad:=anp (s.fld 2).asList i h;have hm:=z.svc _ (ai7 h);obtain ⟨q,g1,g2,g3⟩:=bcz z hm;have k1:=ae2 ((s.fld 2).asList.getD i .bad) 1;have k4:=aen ((s.fld 2).asList.getD i .bad);have kb:aaq ((s.fld 2).asList.getD i .bad)<=1048576:=by have:=ae1 (ai7 h);omega
   refine ⟨c++q,?_,(M.1.trans (⟨q,rfl,Nat.le_refl _,λ_=>trivial⟩:Ad c (c++q) q.length True)).mono (by omega) λ_=>trivial,λe j hj=>?_⟩
   ·simp only [S8_23step,S8_23,decL i _ h,Af,aaa,Ag h,Ai,g1,Aa,Ag (show c.length+q.length<=aae by unfold aae;omega),aat i (by omega)]
   grind [List.append_eq_nil_iff]) (λc _=>by
   simp only [S8_23step,S8_23,decN,Ah]) (s.fld 2).asList.length 0 I (by omega) ⟨(Ad.refl I).mono (by omega) λ_=>trivial,λ_ j hj=>by omega⟩
  rw [List.take_length] at J;exact ⟨O,h1,J.mono (by omega) id,h3⟩
 refine abh q7 ?_;refine ⟨O,rfl,λe=>?_⟩;have g7:=f7 e;obtain ⟨e6,_⟩:=d7.nil e;have g6:=f6 e6;obtain ⟨e5,_⟩:=d6.nil e6;have g5:=f5 e5;obtain ⟨e4,_⟩:=d5.nil e5;obtain ⟨e3,p4⟩:=d4.nil e4;obtain ⟨aj,p3⟩:=d3.nil e3;obtain ⟨ai,p2⟩:=d2.nil aj;obtain ⟨_,p1⟩:=d1.nil ai;have al:b1=false:=by grind
 exact ⟨p1,p2,p3,g5,g6,λi h=>(g7 i h).1,λi h=>(g7 i h).2,by rw [ak,al]⟩
theorem a6x {s:PV} (H:SOk s) (o:aaq s<=1048576):Ret (F4 0 s) λb=>b=true->SchemaV s:=by unfold F4;refine abn (bbq H o) λq _ z=>⟨_,rfl,λh=>z ?_⟩;grind [List.length_eq_zero_iff]
end Go.Ab
