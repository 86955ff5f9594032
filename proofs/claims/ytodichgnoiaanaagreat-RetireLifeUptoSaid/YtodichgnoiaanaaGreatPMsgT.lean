/- The text of a file, definition by definition: the same in the program and the specification. -/
import Derived.Test.YtodichgnoiaanaaGreatPNTextT
set_option linter.unusedVariables false
set_option linter.unusedSimpArgs false
set_option linter.unnecessarySimpa false
namespace Go.Ab
open Go
set_option maxRecDepth 100000
def ar9 (g:PV->List UInt8):List PV->List UInt8
 | []=>[]
 | x::r=>[44,32]++(g x++ar9 g r)
def ato (g:PV->List UInt8):List PV->List UInt8
 | []=>[]
 | x::r=>g x++ar9 g r
theorem a02 (g:PV->List UInt8) (B:Nat):∀ l:List PV,(∀ x,x∈l->(g x).length<=B)->(ar9 g l).length<=(B+2)*l.length:=by
 intro l
 induction l with
 | nil=>grind [ar9]
 | cons x r ih=>
  grind [ar9,List.length_append,List.length_cons,List.length_nil,Nat.mul_add]
theorem al7 (g:PV->List UInt8) (B:Nat) (l:List PV) (h:∀ x,x∈l->(g x).length<=B):(ato g l).length<=(B+2)*l.length:=by
 cases l with
 | nil=>simp [ato]
 | cons x r=>
  have h1:=h x (by simp)
  have h2:=a02 g B r fun y hy=>h y (by simp [hy])
  grind [ato,List.length_append,List.length_cons,Nat.mul_add]
def sepG (g:PV->List UInt8) (b:List UInt8) (x:PV):List UInt8:=(bif b==[] then b else b++[44,32])++g x
theorem a07 (g:PV->List UInt8) (hg:∀ x,g x≠[]):∀ (l:List PV) (b:List UInt8),b≠[]->l.foldl (sepG g) b=b++ar9 g l:=by
 intro l
 induction l with
 | nil=>intro b _;simp [ar9]
 | cons x r ih=>
  intro b hb
  have hbb:(b==([]:List UInt8))=false:=by simpa using hb
  rw [List.foldl_cons,ih _ (by unfold sepG;simp [hg x])]
  simp only [sepG,hbb,cond_false,ar9,List.append_assoc]
theorem asg (g:PV->List UInt8) (hg:∀ x,g x≠[]) (l:List PV):l.foldl (sepG g) []=ato g l:=by
 cases l with
 | nil=>rfl
 | cons x r=>
  rw [List.foldl_cons,a07 g hg r _ (by simp [sepG,hg x])]
  rfl
def resT (g:PV->List UInt8) (l:List PV):List UInt8:=bif (l.length:Int)==0 then [] else [32,32,114,101,115,101,114,118,101,100,32]++(ato g l++[59,10])
theorem ap7 (g:PV->List UInt8) (B:Nat) (l:List PV) (h:∀ x,x∈l->(g x).length<=B):(resT g l).length<=(B+2)*l.length+20:=by
 have:=al7 g B l h
 unfold resT
 cases ((l.length:Int)==0) with
 | true=>simp
 | false=>simp only [cond_false,List.length_append,List.length_cons,List.length_nil];omega
theorem avs (g:PV->List UInt8) (hg:∀ x,g x≠[]) (l:List PV):(ato g l==[])=((l.length:Int)==0):=by
 cases l with
 | nil=>rfl
 | cons x r=>
  have e:(((x::r).length:Int)==(0:Int))=false:=by rw [beq_eq_false_iff_ne];simp only [List.length_cons];omega
  rw [e,beq_eq_false_iff_ne]
  simp [ato,hg x]
def spT (x:PV):List UInt8:=numT (x.fld 0).asInt++(bif (x.fld 0).asInt==(x.fld 1).asInt then [] else [32,45,32]++numT (x.fld 1).asInt)
theorem a4z:∀ f u,decF (f+1) u≠[]:=by
 intro f u
 unfold decF
 cases Nat.ble u 9<;>simp
theorem a59 (n:Int):numT n≠[]:=a4z 19 _
theorem a1e (x:PV):spT x≠[]:=by simp [spT,a59]
theorem aqb (x:PV):(spT x).length<=43:=by
 have h1:=aet (x.fld 0).asInt
 have h2:=aet (x.fld 1).asInt
 unfold spT
 grind
theorem amx (l:List PV) (hl:l.length<=16) (hs:∀ x,x∈l->ak2 2147483647 x=true):F158 0 l=some (resT spT l):=by
 have q:=aa2 (step:=S158_4step 0) (fun k (b:List UInt8)=>(l,b,(k:Int))) (fun b=>b) l .bad (sepG spT) (fun k b=>b.length<=50*k/\(b=[] ↔ k=0)) (fun k b hk hI=>by
  obtain ⟨hI,hz⟩:=hI
  have hx:=hs _ (aax hk .bad)
  unfold ak2 at hx
  simp only [decide_eq_true_eq] at hx
  obtain ⟨h1,h2,h3,h4⟩:=hx
  have h5:=aet ((l.getD k .bad).fld 0).asInt
  have h6:=aet ((l.getD k .bad).fld 1).asInt
  have h7:=aqb (l.getD k .bad)
  have hbb:(b==([]:List UInt8))=!decide (0<k):=by
   by_cases h:0<k
   ·rw [decide_eq_true h,Bool.not_true,beq_eq_false_iff_ne];exact fun e=>by have:=hz.1 e;omega
   ·rw [decide_eq_false h,hz.2 (by omega)];rfl
  have hgt:decide ((k:Int)>(0:Int))=decide (0<k):=by rw [decide_eq_decide];omega
  refine ⟨?_,?_,?_⟩
  ·simp only [S158_4step,S158_4,aat,aab,hk,decide_true,cond_true,Int.toNat_natCast,afs h1 h2,afs h3 h4,Option.bind_some,abr (i:=k) (by omega),bne,hgt]
   unfold sepG spT
   rw [hbb,beqC ((l.getD k .bad).fld 0).asInt _]
   cases decide (0<k)<;>cases (((l.getD k .bad).fld 1).asInt==((l.getD k .bad).fld 0).asInt)<;>simp (disch:=(first | omega | (simp only [List.length_append,List.length_cons,List.length_nil];omega))) only [cond_true,cond_false,Bool.not_true,Bool.not_false,ag2,List.append_nil,List.append_assoc]
  ·unfold sepG
   cases (b==([]:List UInt8))<;>simp only [cond_true,cond_false,List.length_append,List.length_cons,List.length_nil]<;>omega
  ·simp [sepG,a1e]) (fun b _=>by
  simp only [S158_4step,S158_4,aat,Nat.lt_irrefl,decide_false,cond_false]) l.length 0 [] (by omega) ⟨by simp,by simp⟩
 rw [List.drop_zero,asg spT a1e] at q
 have hlen:=al7 spT 43 l fun x _=>aqb x
 have h2:(43+2)*l.length<=45*16:=Nat.mul_le_mul (by omega) hl
 unfold F158 resT
 rw [aa9,show (0:Int)=((0:Nat):Int) from rfl,q.1,Option.bind_some,avs spT a1e]
 simp (disch:=(first | omega | (simp only [List.length_append,List.length_cons,List.length_nil];omega))) only [ag2]
 rw [show ((0:Nat):Int)=(0:Int) from rfl]
 cases ((l.length:Int)==(0:Int))<;>simp only [cond_true,cond_false,List.append_assoc]
def goT (x:PV):List UInt8:=ak1 x.asStr
theorem azh (x:PV):goT x≠[]:=by simp [goT,ak1]
theorem atg (x:PV) (h:x.asStr.length<=1048576):(goT x).length<=4194306:=by
 grind [adl,goT]
theorem a5g (l:List PV) (hl:l.length<=16) (hs:∀ x,x∈l->x.asStr.length<=1048576):F159 0 l=some (resT goT l):=by
 have q:=aa2 (step:=S159_4step 0) (fun k (b:List UInt8)=>(l,b,(k:Int))) (fun b=>b) l .bad (sepG goT) (fun k b=>b.length<=4200000*k/\(b=[] ↔ k=0)) (fun k b hk hI=>by
  obtain ⟨hI,hz⟩:=hI
  have hx:=hs _ (aax hk .bad)
  have h7:=atg (l.getD k .bad) hx
  have h8:F123 0 (l.getD k .bad).asStr=some (goT (l.getD k .bad)):=aeg _ hx
  have hbb:(b==([]:List UInt8))=!decide (0<k):=by
   by_cases h:0<k
   ·rw [decide_eq_true h,Bool.not_true,beq_eq_false_iff_ne];exact fun e=>by have:=hz.1 e;omega
   ·rw [decide_eq_false h,hz.2 (by omega)];rfl
  have hgt:decide ((k:Int)>(0:Int))=decide (0<k):=by rw [decide_eq_decide];omega
  refine ⟨?_,?_,?_⟩
  ·simp only [S159_4step,S159_4,aat,aab,hk,decide_true,cond_true,Int.toNat_natCast,h8,Option.bind_some,abr (i:=k) (by omega),hgt]
   unfold sepG
   rw [hbb]
   cases decide (0<k)<;>simp (disch:=(first | omega | (simp only [List.length_append,List.length_cons,List.length_nil];omega))) only [cond_true,cond_false,Bool.not_true,Bool.not_false,ag2,List.append_assoc]
  ·unfold sepG
   cases (b==([]:List UInt8))<;>simp only [cond_true,cond_false,List.length_append,List.length_cons,List.length_nil]<;>omega
  ·simp [sepG,azh]) (fun b _=>by
  simp only [S159_4step,S159_4,aat,Nat.lt_irrefl,decide_false,cond_false]) l.length 0 [] (by omega) ⟨by simp,by simp⟩
 rw [List.drop_zero,asg goT azh] at q
 have hlen:=al7 goT 4194306 l fun x hx=>atg x (hs x hx)
 have h2:(4194306+2)*l.length<=4194308*16:=Nat.mul_le_mul (by omega) hl
 unfold F159 resT
 rw [aa9,show (0:Int)=((0:Nat):Int) from rfl,q.1,Option.bind_some,avs goT azh]
 simp (disch:=(first | omega | (simp only [List.length_append,List.length_cons,List.length_nil];omega))) only [ag2]
 rw [show ((0:Nat):Int)=(0:Int) from rfl]
 cases ((l.length:Int)==(0:Int))<;>simp only [cond_true,cond_false,List.append_assoc]
structure MsgOk (m:PV):Prop where
 ok:OkMsg m
 rows:∀ x,x∈(m.fld 1).asList->RowOk x
 fields:(m.fld 1).asList.length<=64
 spans:(m.fld 2).asList.length<=16
 span:∀ x,x∈(m.fld 2).asList->ak2 2147483647 x=true
 gone:(m.fld 3).asList.length<=16
 few:(m.fld 4).asList.length<=40
def uT (x:PV):List UInt8:=(x.fld 5).asStr
def a6a (u v:List UInt8):List UInt8:=
 (bif !(u==[])&&!(v==u) then [32,32,125,10] else [])++((bif !(v==[])&&!(v==u) then [32,32,117,110,105,111,110,32]++(v++[32,123,10]) else [])++(bif v==[] then [32,32] else [32,32,32,32]))
noncomputable def axz (u:List UInt8) (x:PV):List UInt8:=a6a u (uT x)++(rowT x++[10])
theorem asj (u:List UInt8) (x:PV) (h:RowOk x):(axz u x).length<=302000000:=by
 have h1:=av7 x h
 have h2:(uT x).length<=1048576:=h.ok.union
 unfold axz a6a
 cases !(u==[])&&!(uT x==u)<;>cases !(uT x==[])&&!(uT x==u)<;>cases uT x==[]<;>simp only [cond_true,cond_false,List.length_append,List.length_cons,List.length_nil]<;>omega
noncomputable def aew:List UInt8->List PV->List UInt8
 | _,[]=>[]
 | u,x::r=>axz u x++aew (uT x) r
def arh:List UInt8->List PV->List UInt8
 | u,[]=>u
 | _,x::r=>arh (uT x) r
theorem aq6:∀ (l:List PV) (b u:List UInt8),l.foldl (fun (p:List UInt8×List UInt8) x=>(p.1++axz p.2 x,uT x)) (b,u)=(b++aew u l,arh u l):=by
 intro l
 induction l with
 | nil=>grind [aew,arh]
 | cons x r ih=>grind [aew,arh]
theorem atc:∀ (l:List PV) (u:List UInt8),(∀ x,x∈l->RowOk x)->(aew u l).length<=302000000*l.length:=by
 intro l
 induction l with
 | nil=>grind [aew]
 | cons x r ih=>
  grind [asj,uT,aew,List.length_append,List.length_cons,Nat.mul_add]
theorem ant (m:PV) (h:MsgOk m) (b:List UInt8) (hb:b.length<=20000000000000):
 aay (S125_5step 0) ((),b,([]:List UInt8),(0:Int),m)=some ((),b++aew [] (m.fld 1).asList,arh [] (m.fld 1).asList,m):=by
 have hl:=h.fields
 have q:=aa2 (step:=S125_5step 0) (fun k (p:List UInt8×List UInt8)=>((),p.1,p.2,(k:Int),m)) (fun p=>((),p.1,p.2,m)) (m.fld 1).asList .bad (fun (p:List UInt8×List UInt8) x=>(p.1++axz p.2 x,uT x)) (fun k p=>p.1.length<=20000000000000+302000000*k) (fun k p hk hI=>by
  have hx:=h.rows _ (aax hk .bad)
  have h1:=av7 _ hx
  have h2:(uT ((m.fld 1).asList.getD k .bad)).length<=1048576:=hx.ok.union
  have h3:=asj p.2 _ hx
  have h4:(((m.fld 1).asList.getD k .bad).fld 5).asStr=uT ((m.fld 1).asList.getD k .bad):=rfl
  have h5:=a0x _ hx
  have h6:302000000*k<=302000000*64:=Nat.mul_le_mul (by omega) (by omega)
  refine ⟨?_,by simp only [List.length_append,Nat.mul_add];omega⟩
  simp only [S125_5step,S125_5,aat,aab,hk,decide_true,cond_true,Int.toNat_natCast,h4,h5,Option.bind_some,abr (i:=k) (by omega),beqC p.2 (uT ((m.fld 1).asList.getD k .bad))]
  unfold axz a6a
  generalize rowT ((m.fld 1).asList.getD k .bad)=t at*
  generalize uT ((m.fld 1).asList.getD k .bad)=v at*
  generalize p.2=u at*
  generalize p.1=c at*
  cases (u==([]:List UInt8))<;>cases (v==u)<;>cases (v==([]:List UInt8))<;>simp (disch:=(first | omega | (simp only [List.length_append,List.length_cons,List.length_nil];omega))) only [Bool.not_true,Bool.not_false,Bool.and_true,Bool.and_false,Bool.true_and,Bool.false_and,cond_true,cond_false,ag2,Option.bind_some,List.append_assoc,List.nil_append,List.cons_append]) (fun p _=>by
  simp only [S125_5step,S125_5,aat,Nat.lt_irrefl,decide_false,cond_false]) (m.fld 1).asList.length 0 (b,[]) (by omega) (by simp;omega)
 rw [List.drop_zero,aq6] at q
 exact q.1
noncomputable def msgT (m:PV):List UInt8:=
 [109,101,115,115,97,103,101,32]++((m.fld 0).asStr++(aer (m.fld 4).asList++([32,123,10]++(aew [] (m.fld 1).asList++((bif arh [] (m.fld 1).asList==[] then [] else [32,32,125,10])++(resT spT (m.fld 2).asList++(resT goT (m.fld 3).asList++[125,10])))))))
theorem aod (m:PV) (h:MsgOk m):(aer (m.fld 4).asList).length<=200000201/\(aew [] (m.fld 1).asList).length<=19328000000/\(resT spT (m.fld 2).asList).length<=1000/\(resT goT (m.fld 3).asList).length<=70000000:=by
 have h1:=acn _ h.few h.ok.note
 have h2:=atc _ [] h.rows
 have h3:=ap7 spT 43 (m.fld 2).asList fun x _=>aqb x
 have h4:=ap7 goT 4194306 (m.fld 3).asList fun x hx=>atg x (h.ok.goneS x hx)
 have h5:302000000*(m.fld 1).asList.length<=302000000*64:=Nat.mul_le_mul (by omega) h.fields
 have h6:(43+2)*(m.fld 2).asList.length<=45*16:=Nat.mul_le_mul (by omega) h.spans
 have h7:(4194306+2)*(m.fld 3).asList.length<=4194308*16:=Nat.mul_le_mul (by omega) h.gone
 grind
theorem avy (m:PV) (h:MsgOk m):(msgT m).length<=20000000000:=by
 obtain ⟨h1,h2,h3,h4⟩:=aod m h
 have h5:=h.ok.name
 unfold msgT
 cases arh [] (m.fld 1).asList==[]<;>simp only [cond_true,cond_false,List.length_append,List.length_cons,List.length_nil]<;>omega
theorem a0w (m:PV) (h:MsgOk m):F125 0 m=some (msgT m):=by
 obtain ⟨h1,h2,h3,h4⟩:=aod m h
 have h5:=h.ok.name
 have b1:=ahh _ h.few h.ok.note
 have b2:∀ c:List UInt8,c.length<=20000000000000->_:=fun c hc=>ant m h c hc
 have b3:=amx _ h.spans h.span
 have b4:=a5g _ h.gone h.ok.goneS
 unfold F125 msgT
 simp (disch:=(first | omega | (simp only [List.length_append,List.length_cons,List.length_nil];omega))) only [b1,ag2,Option.bind_some,aa9,b2,b3,b4]
 cases arh [] (m.fld 1).asList==([]:List UInt8)<;>simp (disch:=(first | omega | (simp only [List.length_append,List.length_cons,List.length_nil];omega))) only [Bool.not_true,Bool.not_false,cond_false,cond_true,ag2,List.append_assoc,List.nil_append,List.cons_append]
end Go.Ab
