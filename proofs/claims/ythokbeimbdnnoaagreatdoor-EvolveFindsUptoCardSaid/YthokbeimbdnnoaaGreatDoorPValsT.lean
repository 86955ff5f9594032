/- Doubles and bytes: their texts, the same in the program and the specification. -/
import Derived.Test.YthokbeimbdnnoaaGreatDoorPQuoteT
import Derived.Test.YthokbeimbdnnoaaGreatDoorPName0T
import Derived.Test.YthokbeimbdnnoaaGreatDoorAbUtf
set_option linter.unusedVariables false
set_option linter.unusedSimpArgs false
set_option linter.unnecessarySimpa false
namespace Go.Ab
open Go
set_option maxRecDepth 100000
theorem auu:((List.range 16).all fun d=>(([48,49,50,51,52,53,54,55,56,57,97,98,99,100,101,102,103,104,105,106,107,108,109,110,111,112,113,114,115,116,117,118,119,120,121,122]:List UInt8).getD d 0)==hexd d)=true:=by kernel_rfl
theorem a1u {d:Nat} (h:d<16):(([48,49,50,51,52,53,54,55,56,57,97,98,99,100,101,102,103,104,105,106,107,108,109,110,111,112,113,114,115,116,117,118,119,120,121,122]:List UInt8).getD d 0)=hexd d:=by
 have:=List.all_eq_true.1 auu d (List.mem_range.2 h)
 simpa using this
theorem akw (b:UInt8):aa9 (PV.int (b.toNat:Int))=b:=by
 show UInt8.ofNat ((b.toNat:Int)).toNat=b
 rw [Int.toNat_natCast,UInt8.ofNat_toNat]
theorem atu {α:Type} (l:List α) (i:Nat) (x:α) (h:i<l.length):(l.set i x).drop i=x::l.drop (i+1):=by
 rw [List.drop_set,if_neg (Nat.lt_irrefl i),Nat.sub_self,List.drop_eq_getElem_cons h]
 rfl
theorem awh:∀ (k u i:Nat) (ps:List PV),u<16^(k+1)->u<18446744073709551616->k+1<=i->i<=65->ps.length=65->
 ∃ (u' i':Nat) (ps':List PV),aba (S226_12step 0) ([],(u:Int),false,false,[],([]:List UInt8),(),(i:Int),(4:Int),(16:Int),(15:Int),PV.agg ps)=some ([],(u':Int),false,false,[],([]:List UInt8),(),(i':Int),PV.agg ps')/\
  u'<16/\1<=i'/\i'<=65/\ps'.length=65/\hexd u'::(ps'.drop i').map aa9=hexF (k+1) u++(ps.drop i).map aa9:=by
 intro k
 induction k with
 | zero=>
  intro u i ps hu h64 hi hi2 hl
  have h16:u<16:=by simpa using hu
  have hd:decide ((u:Int)≥(16:Int))=false:=decide_eq_false (by omega)
  refine ⟨u,i,ps,aag ?_,h16,hi,hi2,hl,?_⟩
  ·simp only [S226_12step,S226_12,hd,cond_false]
  ·rw [hexF,if_pos h16];rfl
 | succ k ih=>
  intro u i ps hu h64 hi hi2 hl
  by_cases h16:u<16
  ·have hd:decide ((u:Int)≥(16:Int))=false:=decide_eq_false (by omega)
   refine ⟨u,i,ps,aag ?_,h16,by omega,hi2,hl,?_⟩
   ·simp only [S226_12step,S226_12,hd,cond_false]
   ·rw [hexF,if_pos h16];rfl
  ·have hd:decide ((u:Int)≥(16:Int))=true:=decide_eq_true (by omega)
   have hm:u%16<16:=Nat.mod_lt _ (by decide)
   obtain ⟨u',i',ps',h1,h2,h3,h4,h5,h6⟩:=ih (u / 16) (i-1) (ps.set (i-1) (PV.int ((hexd (u%16)).toNat:Int))) (by rw [Nat.pow_succ] at hu;omega) (by omega) (by omega) (by omega) (by simp [hl])
   refine ⟨u',i',ps',?_,h2,h3,h4,h5,?_⟩
   ·rw [<-h1]
    refine aas ?_
    have hw:IntKind.wrap .i64 ((i:Int)-(1:Int))=((i-1:Nat):Int):=by
     rw [show (i:Int)-1=((i-1:Nat):Int) by omega];exact aa5 (by omega)
    have hb:af6 .and .u64 (u:Int) (15:Int)=((u%16:Nat):Int):=by
     have:=ah5 u 15 h64 (by decide)
     rw [show u &&& 15=u%16 from Nat.and_two_pow_sub_one_eq_mod u 4] at this
     exact this
    have hr1:aaa ((u%16:Nat):Int) (([48,49,50,51,52,53,54,55,56,57,97,98,99,100,101,102,103,104,105,106,107,108,109,110,111,112,113,114,115,116,117,118,119,120,121,122]:List UInt8).length)=true:=by
     rw [aab];exact decide_eq_true (Nat.lt_of_lt_of_le hm (by decide))
    have hr2:aaa ((i-1:Nat):Int) 65=true:=by rw [aab];exact decide_eq_true (by omega)
    have h04:decide ((0:Int)<=(4:Int))=true:=rfl
    have hdiv:(u:Int).fdiv (2^(min (4:Int).toNat (IntKind.bits .u64)))=((u / 16:Nat):Int):=by
     show (u:Int).fdiv 16=_
     rw [Int.fdiv_eq_ediv_of_nonneg _ (by decide)];rfl
    simp only [S226_12step,S226_12,hd,cond_true,hw,hb,hr1,hr2,h04,hdiv,Int.toNat_natCast,a1u hm]
    rfl
   ·rw [h6,show hexF (k+1+1) u=hexF (k+1) (u / 16)++[hexd (u%16)] by rw [hexF,if_neg h16],List.append_assoc]
    congr 1
    rw [atu _ _ _ (by omega),show i-1+1=i by omega,List.map_cons,akw]
    rfl
def av3 (y81:((List PV)×Int×Bool×Bool×(List PV)×(List UInt8)×Unit×Int×PV)):Option ((List PV)×(List UInt8)):=
 let x83:=IntKind.wrap .i64 (y81.2.2.2.2.2.2.2.1-(1:Int))
 let x84:=y81.2.1
 bif aaa x84 (([48,49,50,51,52,53,54,55,56,57,97,98,99,100,101,102,103,104,105,106,107,108,109,110,111,112,113,114,115,116,117,118,119,120,121,122]:List UInt8).length) then
 let x85:=((([48,49,50,51,52,53,54,55,56,57,97,98,99,100,101,102,103,104,105,106,107,108,109,110,111,112,113,114,115,116,117,118,119,120,121,122]:List UInt8).getD x84.toNat 0).toNat:Int)
 bif aaa x83 65 then
 bif y81.2.2.1 then
  let x87:=IntKind.wrap .i64 (x83-(1:Int))
  bif aaa x87 65 then
  bif y81.2.2.2.1 then
   bif decide (0<=x87/\x87<65/\x87<=(65:Int)/\(65:Int)<=65) then
   none
   else none
  else
   bif decide (0<=x87/\x87<65/\x87<=(65:Int)/\(65:Int)<=65) then
   let x90:=(((PV.agg ((PV.agg (y81.2.2.2.2.2.2.2.2.parts.set x83.toNat (PV.int x85))).parts.set x87.toNat (PV.int (45:Int)))).parts.drop x87.toNat).take ((65:Int).toNat-x87.toNat)).map aa9
   some (y81.2.2.2.2.1,x90)
   else none
  else none
 else
  bif y81.2.2.2.1 then
   bif decide (0<=x83/\x83<65/\x83<=(65:Int)/\(65:Int)<=65) then
   none
   else none
  else
   bif decide (0<=x83/\x83<65/\x83<=(65:Int)/\(65:Int)<=65) then
   let x93:=(((PV.agg (y81.2.2.2.2.2.2.2.2.parts.set x83.toNat (PV.int x85))).parts.drop x83.toNat).take ((65:Int).toNat-x83.toNat)).map aa9
   some (y81.2.2.2.2.1,x93)
   else none
 else none
 else none
theorem awg (u:Int):F226 0 [] u 16 false false=(aba (S226_12step 0) ([],u,false,false,[],([]:List UInt8),(),(65:Int),(4:Int),(16:Int),(15:Int),PV.agg (List.replicate 65 (PV.int (0:Int))))).bind av3:=by kernel_rfl
theorem fmt16 (u:Nat) (hu:u<18446744073709551616):Lfmt 0 (u:Int) (16:Int)=some (hexF 16 u):=by
 obtain ⟨u',i',ps',h1,h2,h3,h4,h5,h6⟩:=awh 15 u 65 (List.replicate 65 (PV.int (0:Int))) (by omega) hu (by omega) (by omega) (by simp)
 have e:Lfmt 0 (u:Int) (16:Int)=(F226 0 [] (u:Int) 16 false false).bind fun y=>some y.2:=rfl
 rw [e,awg,show (65:Int)=((65:Nat):Int) from rfl,h1,Option.bind_some]
 have hw:IntKind.wrap .i64 ((i':Int)-(1:Int))=((i' - 1:Nat):Int):=by
  rw [show (i':Int)-1=((i' - 1:Nat):Int) by omega];exact aa5 (by omega)
 have hr1:aaa ((u':Nat):Int) (([48,49,50,51,52,53,54,55,56,57,97,98,99,100,101,102,103,104,105,106,107,108,109,110,111,112,113,114,115,116,117,118,119,120,121,122]:List UInt8).length)=true:=by
  rw [aab];exact decide_eq_true (Nat.lt_of_lt_of_le h2 (by decide))
 have hr2:aaa ((i' - 1:Nat):Int) 65=true:=by rw [aab];exact decide_eq_true (by omega)
 have hc:decide ((0:Int)<=((i' - 1:Nat):Int)/\((i' - 1:Nat):Int)<65/\((i' - 1:Nat):Int)<=(65:Int)/\(65:Int)<=65)=true:=decide_eq_true (by omega)
 have hstr:(((PV.agg (ps'.set (i' - 1) (PV.int ((hexd u').toNat:Int)))).parts.drop (i' - 1)).take ((65:Int).toNat-(i' - 1))).map aa9=hexF 16 u:=by
  show (((ps'.set (i' - 1) (PV.int ((hexd u').toNat:Int))).drop (i' - 1)).take (65-(i' - 1))).map aa9=_
  rw [List.take_of_length_le (by simp;omega),atu _ _ _ (by omega),show i' - 1+1=i' by omega,List.map_cons,akw,h6]
  simp
 unfold av3
 simp only [hw,hr1,hr2,hc,cond_true,cond_false,Int.toNat_natCast,a1u h2,PV.parts] at hstr ⊢
 rw [hstr]
 rfl
theorem awl (u:Nat) (hu:u<18446744073709551616):F320 0 (u:Int)=some (afw u):=by
 have h1:af6 .and .u64 (u:Int) (9218868437227405312:Int)=((u / 4503599627370496%2048*4503599627370496:Nat):Int):=by
  have:=ah5 u 9218868437227405312 hu (by decide)
  rw [azh] at this;exact this
 have h2:af6 .and .u64 (u:Int) (4503599627370495:Int)=((u%4503599627370496:Nat):Int):=by
  have:=ah5 u 4503599627370495 hu (by decide)
  rw [azi] at this;exact this
 have c1:(((u / 4503599627370496%2048*4503599627370496:Nat):Int)==(9218868437227405312:Int))=decide (u / 4503599627370496%2048=2047):=by
  refine (nbeq _ 9218868437227405312).trans ?_
  rw [decide_eq_decide];omega
 have c2:(((u / 4503599627370496%2048*4503599627370496:Nat):Int)==(0:Int))=decide (u / 4503599627370496%2048=0):=by
  refine (nbeq _ 0).trans ?_
  rw [decide_eq_decide];omega
 have c3:(((u%4503599627370496:Nat):Int)==(0:Int))=decide (u%4503599627370496=0):=nbeq _ 0
 unfold F320 afw
 simp only [h1,h2,c1,c2,c3,bne]
 by_cases d1:u / 4503599627370496%2048=2047
 ·have d2:¬u / 4503599627370496%2048=0:=by omega
  by_cases d3:u%4503599627370496=0
  ·rw [if_neg (by omega),if_pos (by omega)];simp [d1,d3]
  ·rw [if_pos (by omega)];simp [d1,d3]
 ·by_cases d2:u / 4503599627370496%2048=0
  ·by_cases d3:u%4503599627370496=0
   ·rw [if_neg (by omega),if_neg (by omega),if_pos (by omega)];simp [d2,d3]
   ·rw [if_neg (by omega),if_neg (by omega),if_neg (by omega),if_pos (by omega)];simp [d2,d3]
  ·rw [if_neg (by omega),if_neg (by omega),if_neg (by omega),if_neg (by omega)];simp [d1,d2]
theorem ar2 (u:Nat):F106 0 (u:Int)=some (afw u):=by
 have h1:(u:Int).tmod (9223372036854775808:Int)=((u%9223372036854775808:Nat):Int):=rfl
 have c1:decide (((u%9223372036854775808:Nat):Int)>(9218868437227405312:Int))=decide (9218868437227405312<u%9223372036854775808):=by rw [decide_eq_decide];omega
 have c2:(((u%9223372036854775808:Nat):Int)==(9218868437227405312:Int))=decide (u%9223372036854775808=9218868437227405312):=nbeq _ 9218868437227405312
 have c3:(((u%9223372036854775808:Nat):Int)==(0:Int))=decide (u%9223372036854775808=0):=nbeq _ 0
 have c4:decide (((u%9223372036854775808:Nat):Int)<(4503599627370496:Int))=decide (u%9223372036854775808<4503599627370496):=by rw [decide_eq_decide];omega
 unfold F106 afw
 simp only [h1,c1,c2,c3,c4]
 by_cases d1:9218868437227405312<u%9223372036854775808
 ·simp [d1]
 ·by_cases d2:u%9223372036854775808=9218868437227405312
  ·simp [d2]
  ·by_cases d3:u%9223372036854775808=0
   ·simp [d3]
   ·by_cases d4:u%9223372036854775808<4503599627370496
    ·simp [d1,d2,d3,d4]
    ·simp [d1,d2,d3,d4]
def ai5 (u:Nat):List UInt8:=
 bif afw u==0 then [110,97,110] else bif afw u==1 then (bif decide (9223372036854775808<=u) then [45,105,110,102] else [105,110,102]) else [48,120]++hexN 16 u
theorem ar6 (n:Nat):Lib.repeatL ([48]:List UInt8) n=List.replicate n 48:=by
 induction n with
 | zero=>rfl
 | succ n ih=>rw [List.replicate_succ,<-ih];rfl
theorem awn (u:Nat) (hu:u<18446744073709551616):F308 0 (u:Int)=some (ai5 u):=by
 obtain ⟨hl,hp⟩:(hexF 16 u).length<=16/\List.replicate (16-(hexF 16 u).length) 48++hexF 16 u=hexN 16 u:=a0a 15 u (by omega)
 have hs:af6 .and .u64 (u:Int) (9223372036854775808:Int)=((u / 9223372036854775808*9223372036854775808:Nat):Int):=by
  have:=ah5 u 9223372036854775808 hu (by decide)
  rw [azj u hu] at this;exact this
 have hs2:(((u / 9223372036854775808*9223372036854775808:Nat):Int) != (0:Int))=decide (9223372036854775808<=u):=by
  rw [show (((u / 9223372036854775808*9223372036854775808:Nat):Int) != (0:Int))=!(((u / 9223372036854775808*9223372036854775808:Nat):Int)==((0:Nat):Int)) from rfl,nbeq,<-decide_not,decide_eq_decide];omega
 have hw:IntKind.wrap .i64 ((16:Int)-((hexF 16 u).length:Int))=((16-(hexF 16 u).length:Nat):Int):=by
  rw [show (16:Int)-((hexF 16 u).length:Int)=((16-(hexF 16 u).length:Nat):Int) by omega];exact aa5 (by omega)
 have hr:aiz 0 ([48]:List UInt8) ((16-(hexF 16 u).length:Nat):Int)=some (List.replicate (16-(hexF 16 u).length) 48):=by
  unfold aiz
  rw [decide_eq_true (by omega),decide_eq_true (by omega),Int.toNat_natCast,show Nat.ble (([48]:List UInt8).length*(16-(hexF 16 u).length)) 140737488355328=true by rw [Nat.ble_eq];simp;omega,ar6]
  rfl
 have g1:decide (([48,120]:List UInt8).length+(List.replicate (16-(hexF 16 u).length) (48:UInt8)).length<=abe)=true:=a3i (by simp;omega)
 have g2:decide ((([48,120]:List UInt8)++List.replicate (16-(hexF 16 u).length) (48:UInt8)).length+(hexF 16 u).length<=abe)=true:=a3i (by simp;omega)
 unfold F308 ai5
 simp only [awl u hu,Option.bind_some,hs,hs2,F310,fmt16 u hu,hw,hr,g1,g2,List.append_assoc,hp]
 cases afw u==0<;>cases afw u==1<;>cases decide (9223372036854775808<=u)<;>rfl
theorem a3o:((List.range 256).all fun b=>(((b:Int).fdiv (2^(min (4:Int).toNat (IntKind.bits .u8))))==((b / 16:Nat):Int))&&(af6 .and .u8 (b:Int) (15:Int)==((b%16:Nat):Int)))=true:=by kernel_rfl
theorem nib {b:Nat} (h:b<256):(b:Int).fdiv (2^(min (4:Int).toNat (IntKind.bits .u8)))=((b / 16:Nat):Int)/\af6 .and .u8 (b:Int) (15:Int)=((b%16:Nat):Int):=by
 have:=List.all_eq_true.1 a3o b (List.mem_range.2 h)
 simp only [Bool.and_eq_true,beq_iff_eq] at this
 exact this
theorem a4y (s:List UInt8) (hs:s.length<=1048576):F309 0 s=some (s.flatMap fun b=>hex2 b.toNat):=by
 have h:=arn (step:=S309_4step 0) (fun i (b:List PV)=>(s,b,(s.length:Int),(i:Int))) (fun b=>b) s 0 (fun acc b=>acc++[PV.int ((hexd (b.toNat / 16)).toNat:Int),PV.int ((hexd (b.toNat%16)).toNat:Int)]) (fun i b=>b.length=2*i) (fun i b hi hI=>by
  have hlt:=(s.getD i 0).toNat_lt
  obtain ⟨n1,n2⟩:=nib hlt
  have r1:aaa (((s.getD i 0).toNat / 16:Nat):Int) (([48,49,50,51,52,53,54,55,56,57,97,98,99,100,101,102]:List UInt8).length)=true:=by
   rw [aab];exact decide_eq_true (by show _<16;omega)
  have r2:aaa (((s.getD i 0).toNat%16:Nat):Int) (([48,49,50,51,52,53,54,55,56,57,97,98,99,100,101,102]:List UInt8).length)=true:=by
   rw [aab];exact decide_eq_true (by show _<16;omega)
  have hg:∀ x y:PV,decide (b.length+[x,y].length<=aam)=true:=fun x y=>decide_eq_true (by unfold aam;simp;omega)
  refine ⟨?_,by simp;omega⟩
  simp only [S309_4step,S309_4,afl,aab,hi,decide_true,cond_true,Int.toNat_natCast,n1,n2,r1,r2,hg,ay6 (i:=i) (by omega)]
  rfl) (fun b _=>by
  simp only [S309_4step,S309_4,afl,Nat.lt_irrefl,decide_false,cond_false]) s.length 0 [] (by omega) rfl
 have e:∀ (l:List UInt8) (acc:List PV),(l.foldl (fun acc b=>acc++[PV.int ((hexd (b.toNat / 16)).toNat:Int),PV.int ((hexd (b.toNat%16)).toNat:Int)]) acc).map aa9=acc.map aa9++l.flatMap fun b=>hex2 b.toNat:=by
  intro l
  induction l with
  | nil=>intro acc;simp
  | cons b r ih=>intro acc;rw [List.foldl_cons,ih];simp [akw,hex2]
 unfold F309
 have hw:IntKind.wrap .i64 ((2:Int)*(s.length:Int))=((2*s.length:Nat):Int):=by
  rw [show (2:Int)*(s.length:Int)=((2*s.length:Nat):Int) by omega];exact aa5 (by omega)
 have hc:decide ((0:Int)<=((2*s.length:Nat):Int)/\((2*s.length:Nat):Int)<=aam)=true:=decide_eq_true (by unfold aam;omega)
 rw [List.drop_zero] at h
 simp only [hw,hc,cond_true,af0]
 rw [show (0:Int)=((0:Nat):Int) from rfl,h.1,Option.bind_some,e]
 rfl
theorem akf (s:List UInt8):(s.flatMap fun b=>hex2 b.toNat).length=2*s.length:=by
 induction s with
 | nil=>rfl
 | cons b r ih=>rw [List.flatMap_cons,List.length_append,ih];simp [hex2];omega
def aj8 (v:PV):List UInt8:=
 bif adg (aa3 v) v then
  (bif aa3 v==6 then ai5 (abx v).toNat else bif aa3 v==8 then [120]++aoc ((acm v).flatMap fun b=>hex2 b.toNat) else asn v)
 else []
theorem text6 {v:PV} (h:adg (aa3 v) v=false):asn v=[]:=by unfold asn;rw [h];rfl
theorem ai8 {v:PV} (h:adg (aa3 v) v=true) (h8:aa3 v=8):(acm v).length<=4096:=by
 unfold adg at h
 rw [h8] at h
 simp only [Bool.and_eq_true,aeh] at h
 have:=h.2
 simp at this
 exact this.2
theorem a1e (v:PV) (hs:adm v):F284 0 v=some (aj8 v):=by
 obtain ⟨hl,ht,hb0,hb1⟩:=hs
 by_cases h6:aa3 v=6
 ·obtain ⟨u,hu⟩:∃ u:Nat,abx v=(u:Int):=⟨(abx v).toNat,(Int.toNat_of_nonneg hb0).symm⟩
  have e0:(v.fld 0).asInt=aa3 v:=rfl
  have e1:(v.fld 1).asInt=abx v:=rfl
  unfold F284 aj8
  simp only [e0,e1,akd _ _ ⟨hl,ht,hb0,hb1⟩,Option.bind_some,hu,awn u (by omega),h6,Int.toNat_natCast]
  cases adg 6 v<;>rfl
 ·by_cases h8:aa3 v=8
  ·have e0:(v.fld 0).asInt=aa3 v:=rfl
   have e2:(v.fld 2).asStr=acm v:=rfl
   unfold F284 aj8
   simp only [e0,e2,akd _ _ ⟨hl,ht,hb0,hb1⟩,Option.bind_some]
   cases hf:adg (aa3 v) v with
   | false=>rfl
   | true=>
    have h4:=ai8 hf h8
    have hq:=ags ((acm v).flatMap fun b=>hex2 b.toNat)
    rw [akf] at hq
    have g:decide (([120]:List UInt8).length+(aoc ((acm v).flatMap fun b=>hex2 b.toNat)).length<=abe)=true:=a3i (by simp;omega)
    simp only [h8,a4y _ ht,aod _ (show ((acm v).flatMap fun b=>hex2 b.toNat).length<=1048576 by rw [akf];omega),Option.bind_some,g]
    rfl
  ·rw [a3y v ⟨hl,ht,hb0,hb1⟩ h6 h8]
   unfold aj8
   cases hf:adg (aa3 v) v with
   | false=>rw [text6 hf];rfl
   | true=>
    have k6:(aa3 v==(6:Int))=false:=beqI h6
    have k8:(aa3 v==(8:Int))=false:=beqI h8
    rw [k6,k8];rfl
theorem ayx (v:PV) (hs:(acm v).length<=1048576):(aj8 v).length<=4194400:=by
 have h1:=ayv v hs
 have h2:(ai5 (abx v).toNat).length<=20:=by
  unfold ai5
  have:=atc 16 (abx v).toNat
  cases afw (abx v).toNat==0<;>cases afw (abx v).toNat==1<;>cases decide (9223372036854775808<=(abx v).toNat)<;>simp [this]
 unfold aj8
 cases hf:adg (aa3 v) v with
 | false=>simp
 | true=>
  simp only [cond_true]
  cases aa3 v==6 with
  | true=>simp only [cond_true];omega
  | false=>
   simp only [cond_false]
   cases h8:aa3 v==8 with
   | false=>simp only [cond_false];exact h1
   | true=>
    have h4:=ai8 hf (by simpa using h8)
    have hq:=ags ((acm v).flatMap fun b=>hex2 b.toNat)
    rw [akf] at hq
    simp only [cond_true,List.length_append,List.length_cons,List.length_nil];omega
end Go.Ab
