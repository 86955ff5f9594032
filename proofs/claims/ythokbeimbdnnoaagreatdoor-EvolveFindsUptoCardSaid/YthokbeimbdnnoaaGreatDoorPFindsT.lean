/- The law EvolveFinds: nothing is found exactly if the bare schemas are the same. -/
import Derived.Test.YthokbeimbdnnoaaGreatDoorPRefT
set_option linter.unusedVariables false
set_option linter.unusedSimpArgs false
set_option linter.unnecessarySimpa false
namespace Go.Ab
open Go
set_option maxRecDepth 100000
def ad6 (f:PV):PV:=PV.agg [(PV.int (f.fld 0).asInt),(PV.str (f.fld 1).asStr),(PV.int (f.fld 2).asInt),(PV.int (f.fld 3).asInt),f.fld 4,(PV.str (f.fld 5).asStr),(PV.bool (f.fld 6).asBool),f.fld 7,(PV.slice [])]
def ah4 (f:PV):PV:=PV.agg [(PV.str (f.fld 0).asStr),(PV.int (f.fld 1).asInt),(PV.slice [])]
def ahg (f:PV):PV:=PV.agg [(PV.str (f.fld 0).asStr),(PV.str (f.fld 1).asStr),(PV.str (f.fld 2).asStr),(PV.int (f.fld 3).asInt),(PV.slice [])]
def abl (m:PV):PV:=PV.agg [(PV.str (m.fld 0).asStr),(PV.slice ((m.fld 1).asList.map ad6)),(PV.slice []),(PV.slice []),(PV.slice [])]
def ab3 (m:PV):PV:=PV.agg [(PV.str (m.fld 0).asStr),(PV.bool (m.fld 1).asBool),(PV.slice ((m.fld 2).asList.map ah4)),(PV.slice []),(PV.slice [])]
def acn (m:PV):PV:=PV.agg [(PV.str (m.fld 0).asStr),(PV.slice ((m.fld 1).asList.map ahg)),(PV.slice [])]
def aqv (s:PV):PV:=PV.agg [(PV.slice ((s.fld 0).asList.map abl)),(PV.slice ((s.fld 1).asList.map ab3)),(PV.slice ((s.fld 2).asList.map acn))]
theorem acr {α β:Type} (g:α->β):∀ l:List α,(l.flatMap fun x=>[g x])=l.map g:=by
 intro l
 induction l with
 | nil=>rfl
 | cons x r ih=>rw [List.flatMap_cons,ih];rfl
theorem ami {l:List PV}{x:PV} (h:l.length<=100000000):decide (l.length+[x].length<=aam)=true:=decide_eq_true (by simp;unfold aam;omega)
theorem at7 {L fs o0 o1 o2 p0 p1 p2 q0 q1 q2 m1 m2 m3 m4 x2 x3 x4:List PV}{n1 j:Int}{nm xn:List UInt8} (h:fs.length<=1048576):
 aah 0 (S23_8step 0) ((),(),(),(),L,n1,j,fs,(fs.length:Int),(0:Int),o0,o1,o2,p0,p1,p2,q0,q1,q2,nm,m1,m2,m3,m4,xn,[],x2,x3,x4)=some ((),(),(),(),L,n1,j,o0,o1,o2,p0,p1,p2,q0,q1,q2,nm,m1,m2,m3,m4,xn,fs.map ad6,x2,x3,x4):=by
 have h1:=aa4 (step:=S23_8step 0) (fun i c=>((),(),(),(),L,n1,j,fs,(fs.length:Int),((i:Nat):Int),o0,o1,o2,p0,p1,p2,q0,q1,q2,nm,m1,m2,m3,m4,xn,c,x2,x3,x4)) fs (fun f=>[ad6 f]) (fun c=>((),(),(),(),L,n1,j,o0,o1,o2,p0,p1,p2,q0,q1,q2,nm,m1,m2,m3,m4,xn,c,x2,x3,x4)) 90000000 (fun i c hi hc=>by
  simp only [S23_8step,S23_8,decL i _ hi,cond_true,aab,decide_eq_true hi,Int.toNat_natCast,aac hi,aa7 i (by omega),ami (show c.length<=100000000 by omega)]
  rfl) (fun c=>by
  simp only [S23_8step,S23_8,decN,cond_false]) fs.length 0 [] (Nat.zero_add _) (by rw [List.drop_zero,acr,List.length_map,List.length_nil];omega)
 rw [List.drop_zero,acr] at h1
 exact h1
theorem at6 {L fs o0 o1 o2 p0 p1 p2 q0 q1 q2 m2 m3 m4 x3 x4:List PV}{n1 j:Int}{nm xn:List UInt8}{m1 x1:Bool} (h:fs.length<=1048576):
 aah 0 (S23_20step 0) ((),(),(),(),L,n1,j,fs,(fs.length:Int),(0:Int),o0,o1,o2,p0,p1,p2,q0,q1,q2,nm,m1,m2,m3,m4,xn,x1,[],x3,x4)=some ((),(),(),(),L,n1,j,o0,o1,o2,p0,p1,p2,q0,q1,q2,nm,m1,m2,m3,m4,xn,x1,fs.map ah4,x3,x4):=by
 have h1:=aa4 (step:=S23_20step 0) (fun i c=>((),(),(),(),L,n1,j,fs,(fs.length:Int),((i:Nat):Int),o0,o1,o2,p0,p1,p2,q0,q1,q2,nm,m1,m2,m3,m4,xn,x1,c,x3,x4)) fs (fun f=>[ah4 f]) (fun c=>((),(),(),(),L,n1,j,o0,o1,o2,p0,p1,p2,q0,q1,q2,nm,m1,m2,m3,m4,xn,x1,c,x3,x4)) 90000000 (fun i c hi hc=>by
  simp only [S23_20step,S23_20,decL i _ hi,cond_true,aab,decide_eq_true hi,Int.toNat_natCast,aac hi,aa7 i (by omega),ami (show c.length<=100000000 by omega)]
  rfl) (fun c=>by
  simp only [S23_20step,S23_20,decN,cond_false]) fs.length 0 [] (Nat.zero_add _) (by rw [List.drop_zero,acr,List.length_map,List.length_nil];omega)
 rw [List.drop_zero,acr] at h1
 exact h1
theorem at8 {L fs o0 o1 o2 p0 p1 p2 q0 q1 q2 m1 m2 x2:List PV}{n1 j:Int}{nm xn:List UInt8} (h:fs.length<=1048576):
 aah 0 (S23_32step 0) ((),(),(),L,n1,j,fs,(fs.length:Int),(0:Int),o0,o1,o2,p0,p1,p2,q0,q1,q2,nm,m1,m2,xn,[],x2)=some ((),(),(),L,n1,j,o0,o1,o2,p0,p1,p2,q0,q1,q2,nm,m1,m2,xn,fs.map ahg,x2):=by
 have h1:=aa4 (step:=S23_32step 0) (fun i c=>((),(),(),L,n1,j,fs,(fs.length:Int),((i:Nat):Int),o0,o1,o2,p0,p1,p2,q0,q1,q2,nm,m1,m2,xn,c,x2)) fs (fun f=>[ahg f]) (fun c=>((),(),(),L,n1,j,o0,o1,o2,p0,p1,p2,q0,q1,q2,nm,m1,m2,xn,c,x2)) 90000000 (fun i c hi hc=>by
  simp only [S23_32step,S23_32,decL i _ hi,cond_true,aab,decide_eq_true hi,Int.toNat_natCast,aac hi,aa7 i (by omega),ami (show c.length<=100000000 by omega)]
  rfl) (fun c=>by
  simp only [S23_32step,S23_32,decN,cond_false]) fs.length 0 [] (Nat.zero_add _) (by rw [List.drop_zero,acr,List.length_map,List.length_nil];omega)
 rw [List.drop_zero,acr] at h1
 exact h1
theorem awd {s:PV} (h:SOk s):F23 0 s=some (aqv s):=by
 have l0:=h.len.m;have l1:=h.len.e;have l2:=h.len.v
 generalize h0':(s.fld 0).asList=A0 at l0
 generalize h1':(s.fld 1).asList=A1 at l1
 generalize h2':(s.fld 2).asList=A2 at l2
 have e1:=aa4 (step:=S23_4step 0) (fun i c=>((),(),(),A0,(A0.length:Int),((i:Nat):Int),A0,A1,A2,[],[],[],c,[],[])) A0 (fun f=>[abl f]) (fun c=>((),(),(),A0,A1,A2,[],[],[],c,[],[])) 90000000 (fun i c hi hc=>by
  have fl:=(h.msg A0[i] (by rw [h0'];exact List.getElem_mem hi)).fields
  simp only [S23_4step,S23_4,decL i _ hi,cond_true,aab,decide_eq_true hi,Int.toNat_natCast,aac hi,at7 fl,Option.bind_some,aa7 i (by omega),ami (show c.length<=100000000 by omega)]
  rfl) (fun c=>by
  simp only [S23_4step,S23_4,decN,cond_false]) A0.length 0 [] (Nat.zero_add _) (by rw [List.drop_zero,acr,List.length_map,List.length_nil];omega)
 rw [List.drop_zero,acr,List.nil_append] at e1
 have e2:=aa4 (step:=S23_16step 0) (fun i c=>((),(),(),A1,(A1.length:Int),((i:Nat):Int),A0,A1,A2,[],[],[],A0.map abl,c,[])) A1 (fun f=>[ab3 f]) (fun c=>((),(),(),A0,A1,A2,[],[],[],A0.map abl,c,[])) 90000000 (fun i c hi hc=>by
  have fl:=(h.enum A1[i] (by rw [h1'];exact List.getElem_mem hi)).items
  simp only [S23_16step,S23_16,decL i _ hi,cond_true,aab,decide_eq_true hi,Int.toNat_natCast,aac hi,at6 fl,Option.bind_some,aa7 i (by omega),ami (show c.length<=100000000 by omega)]
  rfl) (fun c=>by
  simp only [S23_16step,S23_16,decN,cond_false]) A1.length 0 [] (Nat.zero_add _) (by rw [List.drop_zero,acr,List.length_map,List.length_nil];omega)
 rw [List.drop_zero,acr,List.nil_append] at e2
 have e3:=aa4 (step:=S23_28step 0) (fun i c=>((),(),A2,(A2.length:Int),((i:Nat):Int),A0,A1,A2,[],[],[],A0.map abl,A1.map ab3,c)) A2 (fun f=>[acn f]) (fun c=>((),(),A0,A1,A2,[],[],[],A0.map abl,A1.map ab3,c)) 90000000 (fun i c hi hc=>by
  have fl:=(h.svc A2[i] (by rw [h2'];exact List.getElem_mem hi)).meths
  simp only [S23_28step,S23_28,decL i _ hi,cond_true,aab,decide_eq_true hi,Int.toNat_natCast,aac hi,at8 fl,Option.bind_some,aa7 i (by omega),ami (show c.length<=100000000 by omega)]
  rfl) (fun c=>by
  simp only [S23_28step,S23_28,decN,cond_false]) A2.length 0 [] (Nat.zero_add _) (by rw [List.drop_zero,acr,List.length_map,List.length_nil];omega)
 rw [List.drop_zero,acr,List.nil_append] at e3
 have e1':aah 0 (S23_4step 0) ((),(),(),A0,(A0.length:Int),(0:Int),A0,A1,A2,[],[],[],[],[],[])=_:=e1
 have e2':aah 0 (S23_16step 0) ((),(),(),A1,(A1.length:Int),(0:Int),A0,A1,A2,[],[],[],A0.map abl,[],[])=_:=e2
 have e3':aah 0 (S23_28step 0) ((),(),A2,(A2.length:Int),(0:Int),A0,A1,A2,[],[],[],A0.map abl,A1.map ab3,[])=_:=e3
 unfold F23 aqv
 dsimp only
 rw [h0',h1',h2',e1',Option.bind_some]
 dsimp only
 rw [e2',Option.bind_some]
 dsimp only
 rw [e3',Option.bind_some]
theorem azg {p:Nat->Bool}:∀ (k i:Nat),allF p i k=true ↔ ∀ j,i<=j->j<i+k->p j=true:=by
 intro k
 induction k with
 | zero=>intro i;exact ⟨fun _ j h1 h2=>by omega,fun _=>rfl⟩
 | succ k ih=>
  intro i
  simp only [allF,Bool.and_eq_true]
  rw [ih (i+1)]
  constructor
  ·rintro ⟨h1,h2⟩ j h3 h4
   by_cases hj:j=i
   ·subst hj;exact h1
   ·exact h2 j (by omega) (by omega)
  ·intro h
   exact ⟨h i (by omega) (by omega),fun j h1 h2=>h j (by omega) (by omega)⟩
theorem aqd:F111 0 [] []=some true:=by
 have h:aah 0 (S111_5step 0) (([]:List PV),([]:List PV),(0:Int))=some (.inr ()):=aag rfl
 unfold F111
 rw [h]
 rfl
theorem ae6:F112 0 [] []=some true:=by
 have h:aah 0 (S112_5step 0) (([]:List PV),([]:List PV),(0:Int))=some (.inr ()):=aag rfl
 unfold F112
 rw [h]
 rfl
def anyF (x y:PV):Bool:=ne5 x y||ne6 x y||ne7 x y||ne8 x y||ne9 x y||ne10 x y
theorem amr (d:List UInt8) (x y:PV):aew d x y=[] ↔ anyF x y=false:=by
 unfold aew anyF dif
 cases ne5 x y<;>cases ne6 x y<;>cases ne7 x y<;>cases ne8 x y<;>cases ne9 x y<;>cases ne10 x y<;>simp
def sF (x y:PV):Bool:=(kNum x==kNum y)&&!anyF x y
theorem aye (x y:PV):F113 0 (ad6 x) (ad6 y)=some (sF x y):=by
 have e8:∀ z:PV,((ad6 z).fld 8).asList=[]:=fun z=>rfl
 unfold F113
 rw [e8,e8,ae6]
 have q0:∀ z:PV,(ad6 z).fld 0=.int (z.fld 0).asInt:=fun z=>rfl
 have q1:∀ z:PV,(ad6 z).fld 1=.str (z.fld 1).asStr:=fun z=>rfl
 have q2:∀ z:PV,(ad6 z).fld 2=.int (z.fld 2).asInt:=fun z=>rfl
 have q3:∀ z:PV,(ad6 z).fld 3=.int (z.fld 3).asInt:=fun z=>rfl
 have q4:∀ z:PV,(ad6 z).fld 4=z.fld 4:=fun z=>rfl
 have q5:∀ z:PV,(ad6 z).fld 5=.str (z.fld 5).asStr:=fun z=>rfl
 have q6:∀ z:PV,(ad6 z).fld 6=.bool (z.fld 6).asBool:=fun z=>rfl
 have q7:∀ z:PV,(ad6 z).fld 7=z.fld 7:=fun z=>rfl
 have i1:∀ n:Int,(PV.int n).asInt=n:=fun _=>rfl
 have i2:∀ n:List UInt8,(PV.str n).asStr=n:=fun _=>rfl
 have i3:∀ n:Bool,(PV.bool n).asBool=n:=fun _=>rfl
 simp only [q0,q1,q2,q3,q4,q5,q6,q7,i1,i2,i3]
 unfold sF anyF ne5 ne6 ne7 ne8 ne9 ne10 kNum bne
 generalize ((x.fld 0).asInt==(y.fld 0).asInt)=b0
 generalize ((x.fld 1).asStr==(y.fld 1).asStr)=b1
 generalize ((x.fld 2).asInt==(y.fld 2).asInt)=b2
 generalize ((x.fld 3).asInt==(y.fld 3).asInt)=b3
 generalize (((x.fld 4).fld 0).asInt==((y.fld 4).fld 0).asInt)=b4
 generalize (((x.fld 4).fld 1).asStr==((y.fld 4).fld 1).asStr)=b5
 generalize ((x.fld 5).asStr==(y.fld 5).asStr)=b6
 generalize ((x.fld 6).asBool==(y.fld 6).asBool)=b7
 generalize (((x.fld 7).fld 0).asInt==((y.fld 7).fld 0).asInt)=b8
 generalize (((x.fld 7).fld 1).asInt==((y.fld 7).fld 1).asInt)=b9
 generalize (((x.fld 7).fld 2).asStr==((y.fld 7).fld 2).asStr)=c0
 cases b0<;>cases b1<;>cases b2<;>cases b3<;>cases b4<;>cases b5<;>cases b6<;>cases b7<;>first | rfl | (cases b8<;>cases b9<;>cases c0<;>rfl)
theorem amt (a b:List PV):((a.length:Int) != (b.length:Int))=!decide (a.length=b.length):=by
 by_cases h:a.length=b.length
 ·rw [decide_eq_true h,h];simp
 ·rw [decide_eq_false h]
  have:((a.length:Int)==(b.length:Int))=false:=by simpa using fun e=>h (by omega)
  unfold bne;rw [this]
def sM (x y:PV):Bool:=(aaf x==aaf y)&&(decide ((x.fld 1).asList.length=(y.fld 1).asList.length)&&allF (fun k=>sF ((x.fld 1).asList.getD k .bad) ((y.fld 1).asList.getD k .bad)) 0 (x.fld 1).asList.length)
theorem ayf {A B:List PV} (hA:A.length<=1048576) (fA:∀ x,x∈A->(x.fld 1).asList.length<=1048576):F58 0 (A.map abl) (B.map abl)=some (decide (A.length=B.length)&&allF (fun i=>sM (A.getD i .bad) (B.getD i .bad)) 0 A.length):=by
 unfold F58
 rw [amt,List.length_map,List.length_map]
 by_cases hl:A.length=B.length
 ·rw [decide_eq_true hl,Bool.not_true,cond_false,Bool.true_and]
  have h1:=ac0 (step:=S58_5step 0) (fun i=>(A.map abl,B.map abl,((i:Nat):Int))) A.length (fun i=>sM (A.getD i .bad) (B.getD i .bad)) (.inl false) (.inr ()) (fun i hi=>by
   have hiB:i<B.length:=by omega
   have hia:i<(A.map abl).length:=by simpa using hi
   have hib:i<(B.map abl).length:=by simpa using hiB
   have ga:(A.map abl).getD i .bad=abl A[i]:=by rw [aac hia,List.getElem_map]
   have gb:(B.map abl).getD i .bad=abl B[i]:=by rw [aac hib,List.getElem_map]
   simp only [S58_5step,S58_5,decL i _ hia,cond_true,aab,decide_eq_true hia,decide_eq_true hib,Int.toNat_natCast,ga,gb,aac hi,aac hiB]
   have fl:=fA A[i] (List.getElem_mem hi)
   generalize A[i]=x at fl ⊢
   generalize B[i]=y
   have m0:∀ z:PV,((abl z).fld 0).asStr=aaf z:=fun z=>rfl
   have m1:∀ z:PV,((abl z).fld 1).asList=(z.fld 1).asList.map ad6:=fun z=>rfl
   have m2:∀ z:PV,((abl z).fld 2).asList=[]:=fun z=>rfl
   have m3:∀ z:PV,((abl z).fld 3).asList=[]:=fun z=>rfl
   have m4:∀ z:PV,((abl z).fld 4).asList=[]:=fun z=>rfl
   simp only [m0,m1,m2,m3,m4,aqd,ae6,amt,List.length_map]
   unfold sM
   cases hk:(aaf x==aaf y) with
   | false=>rfl
   | true=>
    by_cases hf:(x.fld 1).asList.length=(y.fld 1).asList.length
    ·rw [decide_eq_true hf]
     have h2:=ac0 (step:=S58_12step 0) (fun k=>(A.map abl,B.map abl,((i:Nat):Int),(),(),((k:Nat):Int),abl x,abl y)) (x.fld 1).asList.length (fun k=>sF ((x.fld 1).asList.getD k .bad) ((y.fld 1).asList.getD k .bad)) (.inl (false,abl x,abl y)) (.inr (A.map abl,B.map abl,((i:Nat):Int),(),(),abl x,abl y)) (fun k hk=>by
      have hkB:k<(y.fld 1).asList.length:=by omega
      have hka:k<((x.fld 1).asList.map ad6).length:=by simpa using hk
      have hkb:k<((y.fld 1).asList.map ad6).length:=by simpa using hkB
      have ga:((x.fld 1).asList.map ad6).getD k .bad=ad6 (x.fld 1).asList[k]:=by rw [aac hka,List.getElem_map]
      have gb:((y.fld 1).asList.map ad6).getD k .bad=ad6 (y.fld 1).asList[k]:=by rw [aac hkb,List.getElem_map]
      simp only [S58_12step,S58_12,m1,decL k _ hka,cond_true,aab,decide_eq_true hka,decide_eq_true hkb,Int.toNat_natCast,ga,gb,aac hk,aac hkB,aye,Option.bind_some,aa7 k (by omega)]
      cases sF (x.fld 1).asList[k] (y.fld 1).asList[k]<;>rfl) (by
      have e:decide ((((x.fld 1).asList.length:Nat):Int)<(((x.fld 1).asList.map ad6).length:Int))=false:=by rw [List.length_map];exact decN _
      simp only [S58_12step,S58_12,m1,e,cond_false]) (x.fld 1).asList.length 0 (Nat.zero_add _)
     have h2':aah 0 (S58_12step 0) (A.map abl,B.map abl,((i:Nat):Int),(),(),(0:Int),abl x,abl y)=_:=h2
     simp only [Bool.not_true,Bool.not_false,cond_false,cond_true,Option.bind_some,List.length_nil,decide_true,Bool.true_and,h2']
     cases allF (fun k=>sF ((x.fld 1).asList.getD k .bad) ((y.fld 1).asList.getD k .bad)) 0 (x.fld 1).asList.length with
     | false=>rfl
     | true=>
      have h3:aah 0 (S58_17step 0) (A.map abl,B.map abl,((i:Nat):Int),(),(),(0:Int),abl x,abl y)=some (.inr (A.map abl,B.map abl,((i:Nat):Int),abl x,abl y)):=aag rfl
      simp only [cond_true,ahf,h3,Option.bind_some,aa7 i (by omega)]
    ·rw [decide_eq_false hf];rfl) (by
   have e:decide (((A.length:Nat):Int)<((A.map abl).length:Int))=false:=by rw [List.length_map];exact decN _
   simp only [S58_5step,S58_5,e,cond_false]) A.length 0 (Nat.zero_add _)
  have h1':aah 0 (S58_5step 0) (A.map abl,B.map abl,(0:Int))=_:=h1
  rw [h1']
  cases allF (fun i=>sM (A.getD i .bad) (B.getD i .bad)) 0 A.length<;>rfl
 ·rw [decide_eq_false hl];rfl
def sI (x y:PV):Bool:=(acl x==acl y)&&((x.fld 0).asStr==(y.fld 0).asStr)
def sE (x y:PV):Bool:=(aaf x==aaf y)&&(((x.fld 1).asBool==(y.fld 1).asBool)&&(decide ((x.fld 2).asList.length=(y.fld 2).asList.length)&&allF (fun k=>sI ((x.fld 2).asList.getD k .bad) ((y.fld 2).asList.getD k .bad)) 0 (x.fld 2).asList.length))
theorem ayd {A B:List PV} (hA:A.length<=1048576) (fA:∀ x,x∈A->(x.fld 2).asList.length<=1048576):F59 0 (A.map ab3) (B.map ab3)=some (decide (A.length=B.length)&&allF (fun i=>sE (A.getD i .bad) (B.getD i .bad)) 0 A.length):=by
 unfold F59
 rw [amt,List.length_map,List.length_map]
 by_cases hl:A.length=B.length
 ·rw [decide_eq_true hl,Bool.not_true,cond_false,Bool.true_and]
  have h1:=ac0 (step:=S59_5step 0) (fun i=>(A.map ab3,B.map ab3,((i:Nat):Int))) A.length (fun i=>sE (A.getD i .bad) (B.getD i .bad)) (.inl false) (.inr ()) (fun i hi=>by
   have hiB:i<B.length:=by omega
   have hia:i<(A.map ab3).length:=by simpa using hi
   have hib:i<(B.map ab3).length:=by simpa using hiB
   have ga:(A.map ab3).getD i .bad=ab3 A[i]:=by rw [aac hia,List.getElem_map]
   have gb:(B.map ab3).getD i .bad=ab3 B[i]:=by rw [aac hib,List.getElem_map]
   simp only [S59_5step,S59_5,decL i _ hia,cond_true,aab,decide_eq_true hia,decide_eq_true hib,Int.toNat_natCast,ga,gb,aac hi,aac hiB]
   have fl:=fA A[i] (List.getElem_mem hi)
   generalize A[i]=x at fl ⊢
   generalize B[i]=y
   have m0:∀ z:PV,((ab3 z).fld 0).asStr=aaf z:=fun z=>rfl
   have m1:∀ z:PV,((ab3 z).fld 1).asBool=(z.fld 1).asBool:=fun z=>rfl
   have m2:∀ z:PV,((ab3 z).fld 2).asList=(z.fld 2).asList.map ah4:=fun z=>rfl
   have m3:∀ z:PV,((ab3 z).fld 3).asList=[]:=fun z=>rfl
   have m4:∀ z:PV,((ab3 z).fld 4).asList=[]:=fun z=>rfl
   simp only [m0,m1,m2,m3,m4,aqd,ae6,amt,List.length_map]
   unfold sE
   cases hk:(aaf x==aaf y) with
   | false=>rfl
   | true=>
    cases ho:((x.fld 1).asBool==(y.fld 1).asBool) with
    | false=>rfl
    | true=>
     by_cases hf:(x.fld 2).asList.length=(y.fld 2).asList.length
     ·rw [decide_eq_true hf]
      have h2:=ac0 (step:=S59_12step 0) (fun k=>(A.map ab3,B.map ab3,((i:Nat):Int),(),(),((k:Nat):Int),ab3 x,ab3 y)) (x.fld 2).asList.length (fun k=>sI ((x.fld 2).asList.getD k .bad) ((y.fld 2).asList.getD k .bad)) (.inl (false,ab3 x,ab3 y)) (.inr (A.map ab3,B.map ab3,((i:Nat):Int),ab3 x,ab3 y)) (fun k hk=>by
       have hkB:k<(y.fld 2).asList.length:=by omega
       have hka:k<((x.fld 2).asList.map ah4).length:=by simpa using hk
       have hkb:k<((y.fld 2).asList.map ah4).length:=by simpa using hkB
       have ga:((x.fld 2).asList.map ah4).getD k .bad=ah4 (x.fld 2).asList[k]:=by rw [aac hka,List.getElem_map]
       have gb:((y.fld 2).asList.map ah4).getD k .bad=ah4 (y.fld 2).asList[k]:=by rw [aac hkb,List.getElem_map]
       have j0:∀ z:PV,((ah4 z).fld 0).asStr=(z.fld 0).asStr:=fun z=>rfl
       have j1:∀ z:PV,((ah4 z).fld 1).asInt=acl z:=fun z=>rfl
       have j2:∀ z:PV,((ah4 z).fld 2).asList=[]:=fun z=>rfl
       simp only [S59_12step,S59_12,m2,decL k _ hka,cond_true,aab,decide_eq_true hka,decide_eq_true hkb,auv,Int.toNat_natCast,ga,gb,aac hk,aac hkB,j0,j1,j2,ae6,aa7 k (by omega)]
       unfold sI bne
       cases (acl (x.fld 2).asList[k]==acl (y.fld 2).asList[k])<;>cases ((((x.fld 2).asList[k]).fld 0).asStr==(((y.fld 2).asList[k]).fld 0).asStr)<;>rfl) (by
       have e:decide ((((x.fld 2).asList.length:Nat):Int)<(((x.fld 2).asList.map ah4).length:Int))=false:=by rw [List.length_map];exact decN _
       simp only [S59_12step,S59_12,m2,e,cond_false]) (x.fld 2).asList.length 0 (Nat.zero_add _)
      have h2':aah 0 (S59_12step 0) (A.map ab3,B.map ab3,((i:Nat):Int),(),(),(0:Int),ab3 x,ab3 y)=_:=h2
      simp only [Bool.not_true,Bool.not_false,cond_false,cond_true,Option.bind_some,Bool.true_and,h2']
      cases allF (fun k=>sI ((x.fld 2).asList.getD k .bad) ((y.fld 2).asList.getD k .bad)) 0 (x.fld 2).asList.length with
      | false=>rfl
      | true=>simp only [cond_true,ahf,aa7 i (by omega)]
     ·rw [decide_eq_false hf];rfl) (by
   have e:decide (((A.length:Nat):Int)<((A.map ab3).length:Int))=false:=by rw [List.length_map];exact decN _
   simp only [S59_5step,S59_5,e,cond_false]) A.length 0 (Nat.zero_add _)
  have h1':aah 0 (S59_5step 0) (A.map ab3,B.map ab3,(0:Int))=_:=h1
  rw [h1']
  cases allF (fun i=>sE (A.getD i .bad) (B.getD i .bad)) 0 A.length<;>rfl
 ·rw [decide_eq_false hl];rfl
def sT (x y:PV):Bool:=(aaf x==aaf y)&&(!ne21 x y&&!ne22 x y)
def sV (x y:PV):Bool:=(aaf x==aaf y)&&(decide ((x.fld 1).asList.length=(y.fld 1).asList.length)&&allF (fun k=>sT ((x.fld 1).asList.getD k .bad) ((y.fld 1).asList.getD k .bad)) 0 (x.fld 1).asList.length)
theorem ayg {A B:List PV} (hA:A.length<=1048576) (fA:∀ x,x∈A->(x.fld 1).asList.length<=1048576):F60 0 (A.map acn) (B.map acn)=some (decide (A.length=B.length)&&allF (fun i=>sV (A.getD i .bad) (B.getD i .bad)) 0 A.length):=by
 unfold F60
 rw [amt,List.length_map,List.length_map]
 by_cases hl:A.length=B.length
 ·rw [decide_eq_true hl,Bool.not_true,cond_false,Bool.true_and]
  have h1:=ac0 (step:=S60_5step 0) (fun i=>(A.map acn,B.map acn,((i:Nat):Int))) A.length (fun i=>sV (A.getD i .bad) (B.getD i .bad)) (.inl false) (.inr ()) (fun i hi=>by
   have hiB:i<B.length:=by omega
   have hia:i<(A.map acn).length:=by simpa using hi
   have hib:i<(B.map acn).length:=by simpa using hiB
   have ga:(A.map acn).getD i .bad=acn A[i]:=by rw [aac hia,List.getElem_map]
   have gb:(B.map acn).getD i .bad=acn B[i]:=by rw [aac hib,List.getElem_map]
   simp only [S60_5step,S60_5,decL i _ hia,cond_true,aab,decide_eq_true hia,decide_eq_true hib,Int.toNat_natCast,ga,gb,aac hi,aac hiB]
   have fl:=fA A[i] (List.getElem_mem hi)
   generalize A[i]=x at fl ⊢
   generalize B[i]=y
   have m0:∀ z:PV,((acn z).fld 0).asStr=aaf z:=fun z=>rfl
   have m1:∀ z:PV,((acn z).fld 1).asList=(z.fld 1).asList.map ahg:=fun z=>rfl
   have m2:∀ z:PV,((acn z).fld 2).asList=[]:=fun z=>rfl
   simp only [m0,m1,m2,ae6,amt,List.length_map]
   unfold sV
   cases hk:(aaf x==aaf y) with
   | false=>rfl
   | true=>
    by_cases hf:(x.fld 1).asList.length=(y.fld 1).asList.length
    ·rw [decide_eq_true hf]
     have h2:=ac0 (step:=S60_12step 0) (fun k=>(A.map acn,B.map acn,((i:Nat):Int),(),(),((k:Nat):Int),acn x,acn y)) (x.fld 1).asList.length (fun k=>sT ((x.fld 1).asList.getD k .bad) ((y.fld 1).asList.getD k .bad)) (.inl (false,acn x,acn y)) (.inr (A.map acn,B.map acn,((i:Nat):Int),acn x,acn y)) (fun k hk=>by
      have hkB:k<(y.fld 1).asList.length:=by omega
      have hka:k<((x.fld 1).asList.map ahg).length:=by simpa using hk
      have hkb:k<((y.fld 1).asList.map ahg).length:=by simpa using hkB
      have ga:((x.fld 1).asList.map ahg).getD k .bad=ahg (x.fld 1).asList[k]:=by rw [aac hka,List.getElem_map]
      have gb:((y.fld 1).asList.map ahg).getD k .bad=ahg (y.fld 1).asList[k]:=by rw [aac hkb,List.getElem_map]
      have j0:∀ z:PV,((ahg z).fld 0).asStr=aaf z:=fun z=>rfl
      have j1:∀ z:PV,((ahg z).fld 1).asStr=(z.fld 1).asStr:=fun z=>rfl
      have j2:∀ z:PV,((ahg z).fld 2).asStr=(z.fld 2).asStr:=fun z=>rfl
      have j3:∀ z:PV,((ahg z).fld 3).asInt=(z.fld 3).asInt:=fun z=>rfl
      have j4:∀ z:PV,((ahg z).fld 4).asList=[]:=fun z=>rfl
      simp only [S60_12step,S60_12,m1,decL k _ hka,cond_true,aab,decide_eq_true hka,decide_eq_true hkb,Int.toNat_natCast,ga,gb,aac hk,aac hkB,j0,j1,j2,j3,j4,ae6,aa7 k (by omega)]
      unfold sT ne21 ne22 bne
      cases (aaf (x.fld 1).asList[k]==aaf (y.fld 1).asList[k])<;>cases ((((x.fld 1).asList[k]).fld 1).asStr==(((y.fld 1).asList[k]).fld 1).asStr)<;>cases ((((x.fld 1).asList[k]).fld 2).asStr==(((y.fld 1).asList[k]).fld 2).asStr)<;>cases ((((x.fld 1).asList[k]).fld 3).asInt==(((y.fld 1).asList[k]).fld 3).asInt)<;>rfl) (by
      have e:decide ((((x.fld 1).asList.length:Nat):Int)<(((x.fld 1).asList.map ahg).length:Int))=false:=by rw [List.length_map];exact decN _
      simp only [S60_12step,S60_12,m1,e,cond_false]) (x.fld 1).asList.length 0 (Nat.zero_add _)
     have h2':aah 0 (S60_12step 0) (A.map acn,B.map acn,((i:Nat):Int),(),(),(0:Int),acn x,acn y)=_:=h2
     simp only [Bool.not_true,Bool.not_false,cond_false,cond_true,Option.bind_some,Bool.true_and,h2']
     cases allF (fun k=>sT ((x.fld 1).asList.getD k .bad) ((y.fld 1).asList.getD k .bad)) 0 (x.fld 1).asList.length with
     | false=>rfl
     | true=>simp only [cond_true,ahf,aa7 i (by omega)]
    ·rw [decide_eq_false hf];rfl) (by
   have e:decide (((A.length:Nat):Int)<((A.map acn).length:Int))=false:=by rw [List.length_map];exact decN _
   simp only [S60_5step,S60_5,e,cond_false]) A.length 0 (Nat.zero_add _)
  have h1':aah 0 (S60_5step 0) (A.map acn,B.map acn,(0:Int))=_:=h1
  rw [h1']
  cases allF (fun i=>sV (A.getD i .bad) (B.getD i .bad)) 0 A.length<;>rfl
 ·rw [decide_eq_false hl];rfl
theorem axk {κ:Type}{c:κ->κ->Int} (hc:Key c) {K L:List κ} (pK:K.Pairwise fun x y=>c x y<0) (pL:L.Pairwise fun x y=>c x y<0) (h:∀ k,k∈K ↔ k∈L):K=L:=by
 have p:K.Perm L:=(List.perm_ext_iff_of_nodup (afr hc.lin pK) (afr hc.lin pL)).2 h
 exact List.Perm.eq_of_pairwise (le:=fun x y=>c x y<0) (fun a b _ _ h1 h2=>by have:=hc.lin.anti a b;omega) pK pL p
section
variable {κ:Type} [BEq κ] [LawfulBEq κ] {key:PV->κ}{c:κ->κ->Int}
theorem adk {both:PV->PV->List PV}{gone new:PV->PV}{A B:List PV} (hc:Key c) (pA:(A.map key).Pairwise fun x y=>c x y<0) (pB:(B.map key).Pairwise fun x y=>c x y<0):
 A.flatMap (cmn key both gone B)++B.flatMap (nws key new A)=[] ↔ A.length=B.length/\∀ i,i<A.length->key (A.getD i .bad)=key (B.getD i .bad)/\both (A.getD i .bad) (B.getD i .bad)=[]:=by
 have uB:=afr hc.lin pB
 constructor
 ·intro h
  obtain ⟨h1,h2⟩:=List.append_eq_nil_iff.1 h
  have f1:∀ x,x∈A->∃ y,fst key (key x) B=some y/\both x y=[]:=fun x hx=>by
   have:=List.flatMap_eq_nil_iff.1 h1 x hx
   unfold cmn at this
   cases hf:fst key (key x) B with
   | some y=>rw [hf] at this;exact ⟨y,rfl,this⟩
   | none=>rw [hf] at this;cases this
  have f2:∀ y,y∈B->∃ x,fst key (key y) A=some x:=fun y hy=>by
   have:=List.flatMap_eq_nil_iff.1 h2 y hy
   unfold nws at this
   cases hf:fst key (key y) A with
   | some x=>exact ⟨x,rfl⟩
   | none=>rw [hf] at this;cases this
  have hk:A.map key=B.map key:=axk hc pA pB fun k=>by
   constructor
   ·intro hm
    obtain ⟨x,hx,rfl⟩:=List.mem_map.1 hm
    obtain ⟨y,hy,_⟩:=f1 x hx
    rw [<-ard hy]
    exact List.mem_map_of_mem (afm hy)
   ·intro hm
    obtain ⟨y,hy,rfl⟩:=List.mem_map.1 hm
    obtain ⟨x,hx⟩:=f2 y hy
    rw [<-ard hx]
    exact List.mem_map_of_mem (afm hx)
  have hl:A.length=B.length:=by have:=congrArg List.length hk;simpa using this
  refine ⟨hl,fun i hi=>?_⟩
  have hiB:i<B.length:=by omega
  have hki:key A[i]=key B[i]:=by
   have e1:(A.map key)[i]?=(B.map key)[i]?:=by rw [hk]
   rw [List.getElem?_map,List.getElem?_map,List.getElem?_eq_getElem hi,List.getElem?_eq_getElem hiB] at e1
   exact Option.some.inj e1
  rw [aac hi,aac hiB]
  refine ⟨hki,?_⟩
  obtain ⟨y,hy,hb⟩:=f1 A[i] (List.getElem_mem hi)
  rw [hki,anr uB (List.getElem_mem hiB)] at hy
  cases hy
  exact hb
 ·rintro ⟨hl,h⟩
  rw [List.append_eq_nil_iff,List.flatMap_eq_nil_iff,List.flatMap_eq_nil_iff]
  have uA:=afr hc.lin pA
  refine ⟨fun x hx=>?_,fun y hy=>?_⟩
  ·obtain ⟨i,hi,rfl⟩:=List.mem_iff_getElem.1 hx
   have hiB:i<B.length:=by omega
   have q:=h i hi
   rw [aac hi,aac hiB] at q
   unfold cmn
   rw [q.1,anr uB (List.getElem_mem hiB)]
   exact q.2
  ·obtain ⟨i,hiB,rfl⟩:=List.mem_iff_getElem.1 hy
   have hi:i<A.length:=by omega
   have q:=h i hi
   rw [aac hi,aac hiB] at q
   unfold nws
   rw [<-q.1,anr uA (List.getElem_mem hi)]
end
structure SAsc (s:PV):Prop where
 m:((s.fld 0).asList.map aaf).Pairwise fun x y=>cB x y<0
 e:((s.fld 1).asList.map aaf).Pairwise fun x y=>cB x y<0
 v:((s.fld 2).asList.map aaf).Pairwise fun x y=>cB x y<0
 ms:∀ x,x∈(s.fld 0).asList->((x.fld 1).asList.map kNum).Pairwise fun x y=>cI x y<0
 es:∀ x,x∈(s.fld 1).asList->((x.fld 2).asList.map acl).Pairwise fun x y=>cI x y<0
 vs:∀ x,x∈(s.fld 2).asList->((x.fld 1).asList.map aaf).Pairwise fun x y=>cB x y<0
theorem SchemaV.asc {s:PV} (h:SchemaV s):SAsc s:=by
 have at':∀ {l:List PV}{x:PV},x∈l->∃ i,i<l.length/\l.getD i .bad=x:=fun {l x} hx=>by
  obtain ⟨i,hi,rfl⟩:=List.mem_iff_getElem.1 hx
  exact ⟨i,hi,aac hi⟩
 refine ⟨akk h.ascM,akk h.ascE,akk h.ascS,fun x hx=>?_,fun x hx=>?_,fun x hx=>?_⟩
 ·obtain ⟨i,hi,rfl⟩:=at' hx;exact ary fun j hj h0=>(h.msg i hi j hj).up h0
 ·obtain ⟨i,hi,rfl⟩:=at' hx;exact ary fun j hj h0=>(h.enum i hi j hj).up h0
 ·obtain ⟨i,hi,rfl⟩:=at' hx;exact (h.svc i hi).pw
theorem aep {p:Nat->Bool}{n:Nat}:allF p 0 n=true ↔ ∀ i,i<n->p i=true:=by
 rw [azg]
 exact ⟨fun h i hi=>h i (by omega) (by omega),fun h j _ hj=>h j (by omega)⟩
theorem a5r (d:List UInt8) (x y:PV):sF x y=true ↔ kNum x=kNum y/\aew d x y=[]:=by
 rw [amr]
 unfold sF
 rw [Bool.and_eq_true,beq_iff_eq,Bool.not_eq_true']
theorem a5s {x y:PV} (px:((x.fld 1).asList.map kNum).Pairwise fun x y=>cI x y<0) (py:((y.fld 1).asList.map kNum).Pairwise fun x y=>cI x y<0):sM x y=true ↔ aaf x=aaf y/\adf x y=[]:=by
 unfold adf sM
 rw [adk Key.cI px py,Bool.and_eq_true,Bool.and_eq_true,beq_iff_eq,decide_eq_true_iff,aep]
 simp only [a5r (aaf x)]
theorem agi {b:Bool}{x:PV}:dif b x=[] ↔ b=false:=by cases b<;>simp [dif]
theorem a5q {x y:PV} (px:((x.fld 2).asList.map acl).Pairwise fun x y=>cI x y<0) (py:((y.fld 2).asList.map acl).Pairwise fun x y=>cI x y<0):sE x y=true ↔ aaf x=aaf y/\ai6 x y=[]:=by
 unfold ai6 apk an9 sE
 rw [List.append_eq_nil_iff,adk Key.cI px py,Bool.and_eq_true,Bool.and_eq_true,Bool.and_eq_true,beq_iff_eq,decide_eq_true_iff,aep,agi,Bool.not_eq_false']
 have:∀ a b:PV,sI a b=true ↔ acl a=acl b/\apj (aaf x) a b=[]:=fun a b=>by
  unfold sI apj
  rw [Bool.and_eq_true,beq_iff_eq,agi,Bool.not_eq_false']
 simp only [this]
theorem a5t {x y:PV} (px:((x.fld 1).asList.map aaf).Pairwise fun x y=>cB x y<0) (py:((y.fld 1).asList.map aaf).Pairwise fun x y=>cB x y<0):sV x y=true ↔ aaf x=aaf y/\svcC x y=[]:=by
 unfold svcC sV
 rw [adk Key.cB px py,Bool.and_eq_true,Bool.and_eq_true,beq_iff_eq,decide_eq_true_iff,aep]
 have:∀ a b:PV,sT a b=true ↔ aaf a=aaf b/\an7 (aaf x) a b=[]:=fun a b=>by
  unfold sT an7
  rw [Bool.and_eq_true,Bool.and_eq_true,beq_iff_eq,List.append_eq_nil_iff,agi,agi,Bool.not_eq_true',Bool.not_eq_true']
 simp only [this]
theorem ayh {a b:PV} (ha:SOk a) (hb:SOk b) (pa:SAsc a) (pb:SAsc b):∃ r,F22 0 (aqv a) (aqv b)=some r/\(r=true ↔ raw a b=[]):=by
 have m0:∀ z:PV,((aqv z).fld 0).asList=(z.fld 0).asList.map abl:=fun z=>rfl
 have m1:∀ z:PV,((aqv z).fld 1).asList=(z.fld 1).asList.map ab3:=fun z=>rfl
 have m2:∀ z:PV,((aqv z).fld 2).asList=(z.fld 2).asList.map acn:=fun z=>rfl
 have e0:=ayf (A:=(a.fld 0).asList) (B:=(b.fld 0).asList) ha.len.m (fun x hx=>(ha.msg x hx).fields)
 have e1:=ayd (A:=(a.fld 1).asList) (B:=(b.fld 1).asList) ha.len.e (fun x hx=>(ha.enum x hx).items)
 have e2:=ayg (A:=(a.fld 2).asList) (B:=(b.fld 2).asList) ha.len.v (fun x hx=>(ha.svc x hx).meths)
 have mem:∀ {l:List PV}{i:Nat},i<l.length->l.getD i .bad∈l:=fun h=>af2 h
 have i0:(decide ((a.fld 0).asList.length=(b.fld 0).asList.length)&&allF (fun i=>sM ((a.fld 0).asList.getD i .bad) ((b.fld 0).asList.getD i .bad)) 0 (a.fld 0).asList.length)=true ↔ gM a b++nM a b=[]:=by
  unfold gM nM
  rw [adk Key.cB pa.m pb.m,Bool.and_eq_true,decide_eq_true_iff,aep]
  refine and_congr_right fun hl=>forall_congr' fun i=>forall_congr' fun hi=>?_
  exact a5s (pa.ms _ (mem hi)) (pb.ms _ (mem (by omega)))
 have i1:(decide ((a.fld 1).asList.length=(b.fld 1).asList.length)&&allF (fun i=>sE ((a.fld 1).asList.getD i .bad) ((b.fld 1).asList.getD i .bad)) 0 (a.fld 1).asList.length)=true ↔ gE a b++nE a b=[]:=by
  unfold gE nE
  rw [adk Key.cB pa.e pb.e,Bool.and_eq_true,decide_eq_true_iff,aep]
  refine and_congr_right fun hl=>forall_congr' fun i=>forall_congr' fun hi=>?_
  exact a5q (pa.es _ (mem hi)) (pb.es _ (mem (by omega)))
 have i2:(decide ((a.fld 2).asList.length=(b.fld 2).asList.length)&&allF (fun i=>sV ((a.fld 2).asList.getD i .bad) ((b.fld 2).asList.getD i .bad)) 0 (a.fld 2).asList.length)=true ↔ gS a b++nS a b=[]:=by
  unfold gS nS
  rw [adk Key.cB pa.v pb.v,Bool.and_eq_true,decide_eq_true_iff,aep]
  refine and_congr_right fun hl=>forall_congr' fun i=>forall_congr' fun hi=>?_
  exact a5t (pa.vs _ (mem hi)) (pb.vs _ (mem (by omega)))
 have hr:raw a b=[] ↔ (gM a b++nM a b=[]/\gE a b++nE a b=[]/\gS a b++nS a b=[]):=by
  unfold raw ahh
  simp only [List.append_eq_nil_iff]
  constructor
  ·rintro ⟨⟨a1,a2,a3⟩,b1,b2,b3⟩;exact ⟨⟨a1,b1⟩,⟨a2,b2⟩,a3,b3⟩
  ·rintro ⟨⟨a1,b1⟩,⟨a2,b2⟩,a3,b3⟩;exact ⟨⟨a1,a2,a3⟩,b1,b2,b3⟩
 unfold F22
 rw [m0,m0,e0,Option.bind_some,hr,<-i0,<-i1,<-i2]
 generalize (decide ((a.fld 0).asList.length=(b.fld 0).asList.length)&&allF (fun i=>sM ((a.fld 0).asList.getD i .bad) ((b.fld 0).asList.getD i .bad)) 0 (a.fld 0).asList.length)=x0
 rw [m1,m1,e1,m2,m2,e2]
 generalize (decide ((a.fld 1).asList.length=(b.fld 1).asList.length)&&allF (fun i=>sE ((a.fld 1).asList.getD i .bad) ((b.fld 1).asList.getD i .bad)) 0 (a.fld 1).asList.length)=x1
 generalize (decide ((a.fld 2).asList.length=(b.fld 2).asList.length)&&allF (fun i=>sV ((a.fld 2).asList.getD i .bad) ((b.fld 2).asList.getD i .bad)) 0 (a.fld 2).asList.length)=x2
 cases x0<;>cases x1<;>cases x2<;>exact ⟨_,rfl,by decide⟩
theorem a0s {a:PV} (pa:SAsc a):raw a a=[]:=by
 have k:∀ x y:PV,ne5 x x=false/\ne6 x x=false/\ne7 x x=false/\ne8 x x=false/\ne9 x x=false/\ne10 x x=false:=fun x y=>by simp [ne5,ne6,ne7,ne8,ne9,ne10]
 have mem:∀ {l:List PV}{i:Nat},i<l.length->l.getD i .bad∈l:=fun h=>af2 h
 have h0:gM a a++nM a a=[]:=(adk Key.cB pa.m pa.m).2 ⟨rfl,fun i hi=>⟨rfl,(adk Key.cI (pa.ms _ (mem hi)) (pa.ms _ (mem hi))).2 ⟨rfl,fun j hj=>⟨rfl,by
  rw [amr]
  obtain ⟨q1,q2,q3,q4,q5,q6⟩:=k ((((a.fld 0).asList.getD i .bad).fld 1).asList.getD j .bad) .bad
  unfold anyF
  rw [q1,q2,q3,q4,q5,q6]
  rfl⟩⟩⟩⟩
 have h1:gE a a++nE a a=[]:=(adk Key.cB pa.e pa.e).2 ⟨rfl,fun i hi=>⟨rfl,by
  unfold ai6 apk an9
  rw [List.append_eq_nil_iff,adk Key.cI (pa.es _ (mem hi)) (pa.es _ (mem hi)),agi]
  exact ⟨by simp,rfl,fun j hj=>⟨rfl,by unfold apj;rw [agi];simp⟩⟩⟩⟩
 have h2:gS a a++nS a a=[]:=(adk Key.cB pa.v pa.v).2 ⟨rfl,fun i hi=>⟨rfl,(adk Key.cB (pa.vs _ (mem hi)) (pa.vs _ (mem hi))).2 ⟨rfl,fun j hj=>⟨rfl,by
  unfold an7
  rw [List.append_eq_nil_iff,agi,agi]
  exact ⟨by simp [ne21],by simp [ne22]⟩⟩⟩⟩⟩
 have hr:=(List.append_eq_nil_iff.1 h0);have hs:=(List.append_eq_nil_iff.1 h1);have ht:=(List.append_eq_nil_iff.1 h2)
 unfold raw ahh
 rw [hr.1,hr.2,hs.1,hs.2,ht.1,ht.2]
 rfl
theorem aqp {s:PV} (hs:SOk s) (bs:aat s<=1048576):∃ v,F11 0 s=some v/\(v=true->SUp s/\SAsc s):=by
 obtain ⟨v,h1,h2⟩:=ay4 hs bs
 exact ⟨v,h1,fun h=>⟨(h2 h).up,(h2 h).asc⟩⟩
theorem arx {a b:PV} (ha:SOk a) (hb:SOk b) (ba:aat a<=1048576) (bb:aat b<=1048576):F5 0 a b=some true:=by
 have hw:akb 0=some true:=rfl
 obtain ⟨va,v1,v2⟩:=aqp ha ba
 obtain ⟨vb,w1,w2⟩:=aqp hb bb
 unfold F5
 rw [v1]
 cases va with
 | false=>simp only [Option.bind_some,Bool.not_false,Bool.not_true,cond_true,cond_false,hw]
 | true=>
  simp only [Option.bind_some,Bool.not_true,Bool.not_false,cond_true,cond_false,w1]
  cases vb with
  | false=>simp only [Bool.not_false,cond_true,Option.bind_some,hw]
  | true=>
   obtain ⟨ua,pa⟩:=v2 rfl
   obtain ⟨ub,pb⟩:=w2 rfl
   obtain ⟨r,r1,r2⟩:=ayh ha hb pa pb
   obtain ⟨ys,c1,c2,_⟩:=as7 ha hb ua.uq ub.uq ba bb
   obtain ⟨zs,d1,d2,_⟩:=as7 ha ha ua.uq ua.uq ba ba
   have hz:zs=[]:=by rw [a0s pa] at d2;exact d2.eq_nil
   subst hz
   have hy:((ys.length:Int)==(0:Int))=r:=by
    have hl:=c2.length_eq
    cases r with
    | true=>
     have:=r2.1 rfl
     rw [this] at hl
     simp [hl]
    | false=>
     have:raw a b≠[]:=fun e=>by have:=r2.2 e;cases this
     have h0:(raw a b).length≠0:=fun e=>this (List.eq_nil_of_length_eq_zero e)
     have:(ys.length:Int)≠0:=by omega
     simpa using this
   simp only [Bool.not_true,cond_false,Option.bind_some,c1,awd ha,awd hb,r1,hy,beq_self_eq_true,cond_true,d1,List.length_nil]
   exact hw
end Go.Ab
