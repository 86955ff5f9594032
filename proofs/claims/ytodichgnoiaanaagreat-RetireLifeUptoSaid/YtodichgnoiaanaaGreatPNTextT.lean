/- The text of annotations: the program's and the specification's are the same. -/
import Derived.Test.YtodichgnoiaanaaGreatPQuoteT
import Derived.Test.YtodichgnoiaanaaGreatPName0T
import Derived.Test.YtodichgnoiaanaaGreatPArgsT
set_option linter.unusedVariables false
set_option linter.unusedSimpArgs false
set_option linter.unnecessarySimpa false
namespace Go.Ab
open Go
set_option maxRecDepth 100000
theorem azx {name:List UInt8} (h:aco name≠0):name.length<=10/\aco name≠6/\aco name≠8:=by
 by_cases hk:name∈afc
 ·simp only [afc,List.mem_cons,List.not_mem_nil,or_false] at hk
  have e:∀ k:Int,k≠6/\k≠8->name.length<=10->some (aco name)=some k->name.length<=10/\aco name≠6/\aco name≠8:=fun k hk hl he=>by cases he;exact ⟨hl,hk⟩
  rcases hk with rfl | rfl | rfl | rfl | rfl | rfl | rfl | rfl | rfl | rfl | rfl | rfl | rfl
  ·exact e 1 (by decide) (by decide) (by kernel_rfl)
  ·exact e 1 (by decide) (by decide) (by kernel_rfl)
  ·exact e 1 (by decide) (by decide) (by kernel_rfl)
  ·exact e 7 (by decide) (by decide) (by kernel_rfl)
  ·exact e 7 (by decide) (by decide) (by kernel_rfl)
  ·exact e 7 (by decide) (by decide) (by kernel_rfl)
  ·exact e 7 (by decide) (by decide) (by kernel_rfl)
  ·exact e 4 (by decide) (by decide) (by kernel_rfl)
  ·exact e 4 (by decide) (by decide) (by kernel_rfl)
  ·exact e 4 (by decide) (by decide) (by kernel_rfl)
  ·exact e 4 (by decide) (by decide) (by kernel_rfl)
  ·exact e 3 (by decide) (by decide) (by kernel_rfl)
  ·exact e 3 (by decide) (by decide) (by kernel_rfl)
 ·exact absurd (ank hk) h
theorem amz {n:PV} (h:aeh n=true):(act n).length<=10/\aaz (nVal n)≠6/\aaz (nVal n)≠8:=by
 unfold aeh at h
 simp only [Bool.and_eq_true] at h
 obtain ⟨h1,h2⟩:=h
 have hk:aco (act n)≠0:=by simpa using h1
 have hv:aaz (nVal n)=aco (act n):=by
  cases hb:(aaz (nVal n)==aco (act n)) with
  | true=>simpa using hb
  | false=>rw [aob hb] at h2;cases h2
 rw [hv]
 exact azx hk
def anz (n:PV):List UInt8:=(act n++[32,61,32])++am6 (nVal n)
theorem aju {n:PV} (hs:acv n) (h:aeh n=true):(anz n).length<=5000000:=by
 have h1:=(amz h).1
 have h2:=am7 (nVal n) hs.1.2.1
 simp [anz];omega
def amy:List PV->List UInt8
 | []=>[]
 | n::r=>[44,32]++anz n++amy r
theorem asa (l:List PV) (hs:∀ n,n∈l->acv n) (hr:l.all aeh=true):(amy l).length<=5000002*l.length:=by
 induction l with
 | nil=>simp [amy]
 | cons n r ih=>
  simp only [List.all_cons,Bool.and_eq_true] at hr
  have h1:=aju (hs n (by simp)) hr.1
  have h2:=ih (fun x hx=>hs x (by simp [hx])) hr.2
  simp [amy];omega
noncomputable def ax1:List PV->List UInt8
 | []=>[]
 | n::r=>bif (n::r).all aeh then [91]++(anz n++amy r)++[93] else []
def at6 (i:Nat) (n:PV):List UInt8:=(if 0<i then [44,32] else [])++anz n
def refT:List PV->Nat->List UInt8
 | [],_=>[]
 | n::r,i=>at6 i n++refT r (i+1)
theorem a0z (r:List PV) (i:Nat):refT r (i+1)=amy r:=by
 induction r generalizing i with
 | nil=>rfl
 | cons n r ih=>rw [refT,amy,ih,at6,if_pos (by omega)]
theorem ar7 (l:List PV) (hl:l.length<=40) (hs:∀ n,n∈l->acv n):∀ (m i:Nat) (acc:List UInt8),l.length-i<=m->i<=l.length->acc.length+6000000*(l.length-i)<=1000000000000->
 aay (S174_6step 0) (l,acc,(i:Int))=some (bif (l.drop i).all aeh then .inr (acc++refT (l.drop i) i) else .inl []):=by
 intro m
 induction m with
 | zero=>
  intro i acc hm hi hb
  have hlt:¬i<l.length:=by omega
  rw [List.drop_eq_nil_of_le (by omega)]
  exact aah (by simp only [S174_6step,S174_6,aat,hlt,decide_false,cond_false,List.all_nil,cond_true,refT,List.append_nil])
 | succ m ih=>
  intro i acc hm hi hb
  by_cases hlt:i<l.length
  ·have hmem:l.getD i .bad∈l:=by rw [aav hlt];exact List.getElem_mem _
   have hsm:=hs _ hmem
   rw [aea hlt .bad,List.all_cons,refT]
   have hr:=amq (l.getD i .bad) hsm
   cases hp:aeh (l.getD i .bad) with
   | false=>
    rw [hp] at hr
    refine aah ?_
    simp only [S174_6step,S174_6,aat,aab,hlt,decide_true,cond_true,Int.toNat_natCast,hr,Option.bind_some,Bool.not_false,Bool.false_and,cond_false]
   | true=>
    rw [hp] at hr
    obtain ⟨hn,h6,h8⟩:=amz hp
    have ht:=aom _ hsm.1 h6 h8
    have htl:=am7 (nVal (l.getD i .bad)) hsm.1.2.1
    have e0:((l.getD i .bad).fld 0).asStr=act (l.getD i .bad):=rfl
    have e1:(l.getD i .bad).fld 1=nVal (l.getD i .bad):=rfl
    have l1:decide ((act (l.getD i .bad)).length+([32,61,32]:List UInt8).length<=aad)=true:=aho (by simp only [List.length_append,List.length_cons,List.length_nil];omega)
    have l2:decide ((act (l.getD i .bad)++([32,61,32]:List UInt8)).length+(am6 (nVal (l.getD i .bad))).length<=aad)=true:=aho (by simp only [List.length_append,List.length_cons,List.length_nil];omega)
    have l3:decide (acc.length+([44,32]:List UInt8).length<=aad)=true:=aho (by simp only [List.length_append,List.length_cons,List.length_nil];omega)
    have l4:decide ((acc++([44,32]:List UInt8)).length+(act (l.getD i .bad)++([32,61,32]:List UInt8)++am6 (nVal (l.getD i .bad))).length<=aad)=true:=aho (by simp only [List.length_append,List.length_cons,List.length_nil];omega)
    have l5:decide (acc.length+(act (l.getD i .bad)++([32,61,32]:List UInt8)++am6 (nVal (l.getD i .bad))).length<=aad)=true:=aho (by simp only [List.length_append,List.length_cons,List.length_nil];omega)
    have hg:decide ((i:Int)>(0:Int))=decide (0<i):=by rw [decide_eq_decide];omega
    have htn:=aju hsm hp
    have hpl:(at6 i (l.getD i .bad)).length<=5000002:=by
     unfold at6
     by_cases h0:0<i
     ·rw [if_pos h0,List.length_append];simp only [List.length_cons,List.length_nil];omega
     ·rw [if_neg h0,List.length_append];simp only [List.length_nil];omega
    rw [Bool.true_and,aa0 (x1:=(l,acc++at6 i (l.getD i .bad),((i+1:Nat):Int))),ih (i+1) _ (by omega) (by omega) (by rw [List.length_append];omega),List.append_assoc]
    simp only [S174_6step,S174_6,aat,aab,hlt,decide_true,cond_true,Int.toNat_natCast,hr,Option.bind_some,Bool.not_true,cond_false,e0,e1,ht,hg,l1,l2,l3,l4,l5,asv (i:=i) (by omega)]
    unfold at6 anz
    by_cases h0:0<i
    ·simp only [h0,decide_true,cond_true,if_true,List.append_assoc]
    ·simp only [h0,decide_false,cond_false,if_false,List.nil_append]
  ·rw [List.drop_eq_nil_of_le (by omega)]
   exact aah (by simp only [S174_6step,S174_6,aat,hlt,decide_false,cond_false,List.all_nil,cond_true,refT,List.append_nil])
theorem anu (l:List PV) (hl:l.length<=40) (hs:∀ n,n∈l->acv n):F174 0 l=some (ax1 l):=by
 have h:=ar7 l hl hs l.length 0 [91] (by omega) (by omega) (by simp;omega)
 unfold F174
 cases l with
 | nil=>rfl
 | cons n r=>
  have hz:(((n::r).length:Int)==(0:Int))=false:=by simp;omega
  rw [show ((0:Nat):Int)=(0:Int) from rfl] at h
  rw [hz,cond_false,aa9,h,List.drop_zero]
  rw [show ax1 (n::r)=bif (n::r).all aeh then [91]++(anz n++amy r)++[93] else [] from rfl]
  cases hall:(n::r).all aeh with
  | false=>rfl
  | true=>
   have hall':=hall
   simp only [List.all_cons,Bool.and_eq_true] at hall'
   have h1:=aju (hs n (by simp)) hall'.1
   have h2:=asa r (fun x hx=>hs x (by simp [hx])) hall'.2
   have hr40:r.length<=39:=by simp at hl;omega
   have e:refT (n::r) 0=anz n++amy r:=by rw [refT,a0z];simp [at6]
   have c2:decide ((([91]:List UInt8)++(anz n++amy r)).length+([93]:List UInt8).length<=aad)=true:=aho (by simp only [List.length_append,List.length_cons,List.length_nil];omega)
   simp only [cond_true,Option.bind_some,ab0,e,c2]
end Go.Ab
namespace Go.Ab
open Go
set_option maxRecDepth 100000
theorem ast (s:List UInt8) (hs:s.length<=1048576):F104 0 s=some (ajo s):=by
 unfold F104 ajo
 rw [afk s (by omega)]
 cases aga s with
 | true=>simp only [Option.bind_some,cond_true,ahk,Bool.true_and]
 | false=>simp only [Option.bind_some,cond_false,Bool.false_and]
theorem a2q {s:List UInt8} (h:aiv s=true):s.length<=120:=by
 unfold aiv at h
 grind
theorem ass:∀ (m i:Nat) (s:List UInt8),s.length<=m->s.length+i<=120->(s=[]∨∀ p,p∈abc 46 s->p≠[])->
 aay (S103_5step 0) (s,(i:Int))=some (bif s==[]||(abc 46 s).all fun x=>!ahp x then .inr () else .inl false):=by
 intro m
 induction m with
 | zero=>
  intro i s hm _ _
  have:s=[]:=List.eq_nil_of_length_eq_zero (by omega)
  subst this
  exact aah (by simp only [S103_5step,S103_5];cases decide ((i:Int)<120)<;>rfl)
 | succ m ih=>
  intro i s hm hs hp
  cases s with
  | nil=>exact aah (by simp only [S103_5step,S103_5];cases decide ((i:Int)<120)<;>rfl)
  | cons c r=>
   have hne:((c::r)==([]:List UInt8))=false:=rfl
   have hi:decide ((i:Int)<120)=true:=decide_eq_true (by simp only [List.length_cons] at hs;omega)
   obtain ⟨up,last,h1,h2⟩:=ams (c::r) (by omega)
   have hp':∀ p,p∈abc 46 (c::r)->p≠[]:=by
    rcases hp with h | h
    ·cases h
    ·exact h
   have hstep:S103_5step 0 (c::r,(i:Int))=some (bif ahp last then .inr (.inl false) else .inl (up,((i+1:Nat):Int))):=by
    simp only [S103_5step,S103_5,hne,hi,Bool.not_false,cond_true,h1,Option.bind_some,ahk,abr (show i<=9223372036854775000 by omega)]
    cases ahp last<;>rfl
   rcases h2 with ⟨h2,h3⟩ | ⟨rfl,rfl,h3⟩
   ·have hlen:up.length<(c::r).length:=by rw [h2];simp
    have hsp:abc 46 (c::r)=abc 46 up++[last]:=by rw [h2,aop,ajr _ _ h3]
    have hup:up≠[]:=by
     intro e
     exact hp' [] (by rw [hsp,e];simp [abc]) rfl
    have hupb:(up==([]:List UInt8))=false:=by simpa using hup
    have hpu:∀ p,p∈abc 46 up->p≠[]:=fun p h=>hp' p (by rw [hsp];simp [h])
    have hi:=ih (i+1) up (by omega) (by omega) (Or.inr hpu)
    rw [hsp,List.all_append,hne]
    rw [hupb] at hi
    cases hw:ahp last with
    | true=>
     rw [hw] at hstep
     rw [aah hstep]
     simp [hw]
    | false=>
     rw [hw] at hstep
     rw [aa0 hstep,hi]
     simp [hw]
   ·rw [ajr _ _ h3,hne]
    cases hw:ahp (c::r) with
    | true=>
     rw [hw] at hstep
     rw [aah hstep]
     simp [hw]
    | false=>
     rw [hw] at hstep
     rw [aa0 hstep,aah (y:=.inr ()) (by simp only [S103_5step,S103_5];cases decide (((i+1:Nat):Int)<120)<;>rfl)]
     simp [hw]
theorem ax4 (s:List UInt8) (hs:s.length<=1048576):F103 0 s=some (defP s):=by
 unfold F103 defP
 rw [adi s hs,Option.bind_some]
 cases hf:aiv s with
 | false=>rfl
 | true=>
  have hparts:(abc 46 s).all aga=true:=by
   unfold aiv at hf
   simp only [Bool.and_eq_true] at hf
   exact hf.2
  have hn:s≠[]:=by
   intro e;subst e
   simp [abc,aga] at hparts
  have hnb:(s==([]:List UInt8))=false:=by simpa using hn
  have h:=ass s.length 0 s (by omega) (a2q hf) (Or.inr fun p hp=>av4 (List.all_eq_true.1 hparts p hp))
  simp only [Bool.not_true,cond_false,aa9]
  rw [show (0:Int)=((0:Nat):Int) from rfl,h,hnb]
  cases (abc 46 s).all fun x=>!ahp x<;>rfl
end Go.Ab
namespace Go.Ab
open Go
set_option maxRecDepth 100000
theorem ag2 {α:Type}{a b:List UInt8}{X:Option α} (h:a.length+b.length<=1000000000000000):(bif decide (a.length+b.length<=aad) then X else none)=X:=by
 grind [decide_eq_true,aad]
def numT (n:Int):List UInt8:=decB n.toNat
theorem aet (n:Int):(numT n).length<=20:=air _
theorem afs {n:Int} (h0:0<=n) (h1:n<=2147483647):F160 0 n=some (numT n):=by
 obtain ⟨u,rfl⟩:∃ u:Nat,n=(u:Int):=⟨n.toNat,(Int.toNat_of_nonneg h0).symm⟩
 have hw:IntKind.wrap .u64 (u:Int)=(u:Int):=by rw [IntKind.wrap_u64];omega
 have hs:adu (PV.agg [(PV.int (5:Int)),(PV.int (u:Int)),(PV.str ([]:List UInt8)),(PV.slice []),(PV.slice []),(PV.slice []),(PV.slice [])]):=⟨show (0:Nat)<=1048576 by omega,show (0:Nat)<=1048576 by omega,h0,by show (u:Int)<18446744073709551616;omega⟩
 unfold F160
 rw [hw,amt _ hs]
 rfl
noncomputable def asq (t:PV):List UInt8:=
 bif aok (t.fld 0).asInt&&((t.fld 1).asStr==[]) then kw (t.fld 0).asInt else
 bif (((t.fld 0).asInt==0)||((t.fld 0).asInt==9)||((t.fld 0).asInt==10))&&aqf (t.fld 1).asStr then (t.fld 1).asStr else []
theorem axs (t:PV) (hs:(t.fld 1).asStr.length<=1048576):F175 0 t=some (asq t):=by
 unfold F175 asq
 simp only [alb,a4d,ajv _ hs,Option.bind_some]
 cases aok (t.fld 0).asInt<;>cases ((t.fld 1).asStr==([]:List UInt8))<;>cases ((t.fld 0).asInt==(0:Int))<;>cases ((t.fld 0).asInt==(9:Int))<;>cases ((t.fld 0).asInt==(10:Int))<;>cases aqf (t.fld 1).asStr<;>rfl
theorem asr (t:PV) (hs:(t.fld 1).asStr.length<=1048576):(asq t).length<=1048576:=by
 have:=azz (t.fld 0).asInt
 unfold asq
 grind
noncomputable def litT (v:PV):List UInt8:=
 bif aw6 v then acp v else bif !ado (aaz v) v then [] else bif (aaz v==6)||(aaz v==8) then ak1 (ak3 v) else ak3 v
theorem a1h {v:PV} (hs:adu v) (h:ado (aaz v) v=true) (h2:((aaz v==6)||(aaz v==8))=true):(ak3 v).length<=100000:=by
 unfold ak3
 rw [h]
 simp only [cond_true]
 cases h6:aaz v==6 with
 | true=>
  simp only [cond_true]
  grind [alt,apf,aca,af2,decide]
 | false=>
  rw [h6,Bool.false_or] at h2
  have h4:=aj8 h (by simpa using h2)
  have hq:=adl ((acp v).flatMap fun b=>hex2 b.toNat)
  rw [ak5] at hq
  grind
theorem a0v (v:PV) (hs:adu v):F176 0 v=some (litT v):=by
 have e0:(v.fld 0).asInt=aaz v:=rfl
 have e2:(v.fld 2).asStr=acp v:=rfl
 unfold F176 litT
 simp only [e0,e2,avo _ hs,ac2 _ _ hs,amt _ hs,Option.bind_some]
 cases aw6 v with
 | true=>rfl
 | false=>
  cases hf:ado (aaz v) v with
  | false=>rfl
  | true=>
   rw [ava]
   cases h2:((aaz v==6)||(aaz v==8)) with
   | false=>rfl
   | true=>
    have:=a1h hs hf h2
    simp only [cond_true,cond_false,Bool.not_true,aeg _ (show (ak3 v).length<=1048576 by omega),Option.bind_some]
theorem avt (v:PV) (hs:adu v):(litT v).length<=5000000:=by
 have h1:=a1i v hs.2.1
 have h2:=hs.2.1
 unfold litT
 cases aw6 v with
 | true=>grind
 | false=>
  simp only [cond_false]
  cases hf:ado (aaz v) v with
  | false=>simp
  | true=>
   simp only [Bool.not_true,cond_false]
   cases h2:((aaz v==6)||(aaz v==8)) with
   | false=>grind
   | true=>
    have h3:=a1h hs hf h2
    have h4:=adl (ak3 v)
    grind
noncomputable def aer (l:List PV):List UInt8:=bif (l.length:Int)==0 then [] else [32]++ax1 l
theorem asm (l:List PV) (hl:l.length<=40) (hs:∀ n,n∈l->acv n):(ax1 l).length<=200000200:=by
 cases l with
 | nil=>simp [ax1]
 | cons n r=>
  rw [show ax1 (n::r)=bif (n::r).all aeh then [91]++(anz n++amy r)++[93] else [] from rfl]
  cases hall:(n::r).all aeh with
  | false=>simp
  | true=>
   have hall':=hall
   simp only [List.all_cons,Bool.and_eq_true] at hall'
   have h1:=aju (hs n (by simp)) hall'.1
   have h2:=asa r (fun x hx=>hs x (by simp [hx])) hall'.2
   grind
theorem acn (l:List PV) (hl:l.length<=40) (hs:∀ n,n∈l->acv n):(aer l).length<=200000201:=by
 have:=asm l hl hs
 unfold aer
 grind
theorem ahh (l:List PV) (hl:l.length<=40) (hs:∀ n,n∈l->acv n):F156 0 l=some (aer l):=by
 have:=asm l hl hs
 unfold F156 aer
 simp (disch:=(first | omega | (simp only [List.length_append,List.length_cons,List.length_nil];omega))) only [anu l hl hs,Option.bind_some,ag2]
 cases ((l.length:Int)==(0:Int))<;>rfl
structure RowOk (x:PV):Prop where
 ok:OkFld x
 num0:0<=(x.fld 0).asInt
 num1:(x.fld 0).asInt<=65535
 card1:1<=(x.fld 2).asInt
 card5:(x.fld 2).asInt<=5
 few:(x.fld 8).asList.length<=40
def ayt (c:Int):List UInt8:=bif c==1 then [114,101,113,117,105,114,101,100,32] else bif c==2 then [111,112,116,105,111,110,97,108,32] else bif c==3 then [112,108,97,105,110,32] else [108,105,115,116,32]
theorem aqs (c:Int):(ayt c).length<=9:=by
 unfold ayt
 cases c==1<;>cases c==2<;>cases c==3<;>simp
noncomputable def a5h (x:PV):List UInt8:=
 bif (x.fld 2).asInt==5 then [109,97,112,60]++(kw (x.fld 3).asInt++([44,32]++(asq (x.fld 4)++[62]))) else bif (x.fld 5).asStr==[] then ayt (x.fld 2).asInt++asq (x.fld 4) else asq (x.fld 4)
noncomputable def rowT (x:PV):List UInt8:=
 a5h x++([32]++((x.fld 1).asStr++([32,61,32]++(numT (x.fld 0).asInt++((bif (x.fld 6).asBool then [32,100,101,102,97,117,108,116,32]++litT (x.fld 7) else [])++(aer (x.fld 8).asList++[59]))))))
theorem av7 (x:PV) (h:RowOk x):(rowT x).length<=300000000:=by
 have h1:=asr _ h.ok.type
 have h2:=acn _ h.few h.ok.note
 have h3:=avt _ h.ok.dflt
 have h4:=azz (x.fld 3).asInt
 have h5:=aqs (x.fld 2).asInt
 have h6:=aet (x.fld 0).asInt
 have h7:=h.ok.name
 unfold rowT a5h
 cases ((x.fld 2).asInt==5)<;>cases ((x.fld 5).asStr==([]:List UInt8))<;>cases (x.fld 6).asBool<;>simp only [cond_true,cond_false,List.length_append,List.length_cons,List.length_nil]<;>omega
theorem a0x (x:PV) (h:RowOk x):F157 0 x=some (rowT x):=by
 have h1:=asr _ h.ok.type
 have h2:=acn _ h.few h.ok.note
 have h3:=avt _ h.ok.dflt
 have h4:=azz (x.fld 3).asInt
 have h5:=aqs (x.fld 2).asInt
 have h6:=aet (x.fld 0).asInt
 have h7:=h.ok.name
 have hr:aaa (IntKind.wrap .i64 ((x.fld 2).asInt-(1:Int))) ([(PV.str ([114,101,113,117,105,114,101,100,32]:List UInt8)),(PV.str ([111,112,116,105,111,110,97,108,32]:List UInt8)),(PV.str ([112,108,97,105,110,32]:List UInt8)),(PV.str ([108,105,115,116,32]:List UInt8))].length)=(bif (x.fld 2).asInt==5 then false else true):=by
  have a:=h.card1;have b:=h.card5
  have:(x.fld 2).asInt=1∨(x.fld 2).asInt=2∨(x.fld 2).asInt=3∨(x.fld 2).asInt=4∨(x.fld 2).asInt=5:=by omega
  rcases this with e | e | e | e | e<;>rw [e]<;>rfl
 have hc:(bif (x.fld 2).asInt==5 then ([]:List UInt8) else ([(PV.str ([114,101,113,117,105,114,101,100,32]:List UInt8)),(PV.str ([111,112,116,105,111,110,97,108,32]:List UInt8)),(PV.str ([112,108,97,105,110,32]:List UInt8)),(PV.str ([108,105,115,116,32]:List UInt8))].getD (IntKind.wrap .i64 ((x.fld 2).asInt-(1:Int))).toNat .bad).asStr)=(bif (x.fld 2).asInt==5 then [] else ayt (x.fld 2).asInt):=by
  have a:=h.card1;have b:=h.card5
  have:(x.fld 2).asInt=1∨(x.fld 2).asInt=2∨(x.fld 2).asInt=3∨(x.fld 2).asInt=4∨(x.fld 2).asInt=5:=by omega
  rcases this with e | e | e | e | e<;>rw [e]<;>rfl
 have b1:=axs _ h.ok.type
 have b2:=ahh _ h.few h.ok.note
 have b3:=a0v _ h.ok.dflt
 have b4:=afs h.num0 (by have:=h.num1;omega)
 unfold F157 rowT a5h
 simp only [b1,b2,b3,b4,alb,Option.bind_some,hr]
 generalize asq (x.fld 4)=t1 at*
 generalize aer (x.fld 8).asList=t2 at*
 generalize litT (x.fld 7)=t3 at*
 generalize kw (x.fld 3).asInt=t4 at*
 generalize ayt (x.fld 2).asInt=t5 at*
 generalize numT (x.fld 0).asInt=t6 at*
 generalize (x.fld 1).asStr=t7 at*
 cases hq:((x.fld 2).asInt==5) with
 | true=>
  cases (x.fld 6).asBool<;>simp (disch:=(first | omega | (simp only [List.length_append,List.length_cons,List.length_nil];omega))) only [cond_true,cond_false,ag2,List.append_assoc,List.nil_append]
 | false=>
  rw [hq] at hc
  simp only [cond_false] at hc
  simp only [hc]
  cases ((x.fld 5).asStr==([]:List UInt8))<;>cases (x.fld 6).asBool<;>simp (disch:=(first | omega | (simp only [List.length_append,List.length_cons,List.length_nil];omega))) only [cond_true,cond_false,ag2,List.append_assoc,List.nil_append]
end Go.Ab
