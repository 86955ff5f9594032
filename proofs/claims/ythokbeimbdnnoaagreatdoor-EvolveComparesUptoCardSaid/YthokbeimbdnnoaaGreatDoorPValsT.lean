/- Doubles and bytes: their texts, the same in the program and the specification. -/
import Derived.Test.YthokbeimbdnnoaaGreatDoorPQuoteT
set_option linter.unusedVariables false
set_option linter.unusedSimpArgs false
set_option linter.unnecessarySimpa false
namespace Go.Ab
open Go
set_option maxRecDepth 100000
theorem avz:((List.range 16).all λd=>(([48,49,50,51,52,53,54,55,56,57,97,98,99,100,101,102,103,104,105,106,107,108,109,110,111,112,113,114,115,116,117,118,119,120,121,122]:Bq).getD d 0)==hexd d)=true:=by kernel_rfl
theorem a4b {d:Nat} (h:d<16):(([48,49,50,51,52,53,54,55,56,57,97,98,99,100,101,102,103,104,105,106,107,108,109,110,111,112,113,114,115,116,117,118,119,120,121,122]:Bq).getD d 0)=hexd d:=by have:=List.all_eq_true.1 avz d (List.mem_range.2 h);simpa using this
theorem alg (b:UInt8):aax (PV.int (b.toNat:Int))=b:=by show UInt8.ofNat ((b.toNat:Int)).toNat=b;rw [Aj,UInt8.ofNat_toNat]
theorem au0 {o:Type} (l:List o) (i:Nat) (x:o) (h:i<l.length):(l.set i x).drop i=x::l.drop (i+1):=by rw [List.drop_set,if_neg (Nat.lt_irrefl i),Nat.sub_self,List.drop_eq_getElem_cons h];rfl
theorem axn:∀ (k u i:Nat) (z:List PV),u<16^(k+1)->u<18446744073709551616->k+1<=i->i<=65->z.length=65->
 ∃ (Z I:Nat) (o:List PV),aba (S226_12step 0) ([],(u:Int),false,false,[],([]:Bq),(),(i:Int),(4:Int),(16:Int),(15:Int),PV.agg z)=some ([],(Z:Int),false,false,[],([]:Bq),(),(I:Int),PV.agg o)/\
  Z<16/\1<=I/\I<=65/\o.length=65/\hexd Z::(o.drop I).map aax=hexF (k+1) u++(z.drop i).map aax:=by
 intro k
 induction k with
 | zero=>
  intro u i z hu J hi H hl
  have h:u<16:=by simpa using hu
  have M:decide ((u:Int)>=(16:Int))=false:=An (by omega)
  refine ⟨u,i,z,aai ?_,h,hi,H,hl,?_⟩
  ·simp only [S226_12step,S226_12,M,Ah]
  ·rw [hexF,if_pos h];rfl
 | succ k ih=>
  intro u i z hu J hi H hl
  by_cases h:u<16
  ·have M:decide ((u:Int)>=(16:Int))=false:=An (by omega);refine ⟨u,i,z,aai ?_,h,by omega,H,hl,?_⟩
   ·simp only [S226_12step,S226_12,M,Ah]
   ·rw [hexF,if_pos h];rfl
  ·have M:decide ((u:Int)>=(16:Int))=true:=Ag (by omega);have hm:u%16<16:=Nat.mod_lt _ (by decide);obtain ⟨Z,I,o,h1,h2,h3,h4,h5,h6⟩:=ih (u / 16) (i-1) (z.set (i-1) (PV.int ((hexd (u%16)).toNat:Int))) (by rw [Nat.pow_succ] at hu;omega) (by omega) (by omega) (by omega) (by simp [hl]);refine ⟨Z,I,o,?_,h2,h3,h4,h5,?_⟩
   ·rw [<-h1];refine aat ?_;have hw:IntKind.wrap .i64 ((i:Int)-(1:Int))=((i-1:Nat):Int):=by
     rw [show (i:Int)-1=((i-1:Nat):Int) by omega];exact aa9 (by omega)
    have hb:agi .and .u64 (u:Int) (15:Int)=((u%16:Nat):Int):=by have:=aim u 15 J (by decide);rw [show u &&& 15=u%16 from Nat.and_two_pow_sub_one_eq_mod u 4] at this;exact this
    have ab:aaa ((u%16:Nat):Int) (([48,49,50,51,52,53,54,55,56,57,97,98,99,100,101,102,103,104,105,106,107,108,109,110,111,112,113,114,115,116,117,118,119,120,121,122]:Bq).length)=true:=by rw [aab];exact Ag (A5 hm (by decide))
    have ad:aaa ((i-1:Nat):Int) 65=true:=by rw [aab];exact Ag (by omega)
    have aa:decide ((0:Int)<=(4:Int))=true:=rfl;have O:(u:Int).fdiv (2^(min (4:Int).toNat (IntKind.bits .u64)))=((u / 16:Nat):Int):=by show (u:Int).fdiv 16=_;rw [Int.fdiv_eq_ediv_of_nonneg _ (by decide)];rfl
    simp only [S226_12step,S226_12,M,Af,hw,hb,ab,ad,aa,O,Aj,a4b hm];rfl
   ·rw [h6,show hexF (k+1+1) u=hexF (k+1) (u / 16)++[hexd (u%16)] by rw [hexF,if_neg h],Ap];congr 1;rw [au0 _ _ _ (by omega),show i-1+1=i by omega,Bh,alg];rfl
def axa (z:((List PV)×Int×Bool×Bool×(List PV)×Bq×Unit×Int×PV)):Option ((List PV)×Bq):=
 let h:=IntKind.wrap .i64 (z.2.2.2.2.2.2.2.1-(1:Int))
 let H:=z.2.1
 bif aaa H (([48,49,50,51,52,53,54,55,56,57,97,98,99,100,101,102,103,104,105,106,107,108,109,110,111,112,113,114,115,116,117,118,119,120,121,122]:Bq).length) then
 let I:=((([48,49,50,51,52,53,54,55,56,57,97,98,99,100,101,102,103,104,105,106,107,108,109,110,111,112,113,114,115,116,117,118,119,120,121,122]:Bq).getD H.toNat 0).toNat:Int)
 bif aaa h 65 then
 bif z.2.2.1 then
  let o:=IntKind.wrap .i64 (h-(1:Int))
  bif aaa o 65 then
  bif z.2.2.2.1 then
   bif decide (0<=o/\o<65/\o<=(65:Int)/\(65:Int)<=65) then
   none
   else none
  else
   bif decide (0<=o/\o<65/\o<=(65:Int)/\(65:Int)<=65) then
   let J:=(((PV.agg ((PV.agg (z.2.2.2.2.2.2.2.2.parts.set h.toNat (PV.int I))).parts.set o.toNat (PV.int (45:Int)))).parts.drop o.toNat).take ((65:Int).toNat-o.toNat)).map aax
   some (z.2.2.2.2.1,J)
   else none
  else none
 else
  bif z.2.2.2.1 then
   bif decide (0<=h/\h<65/\h<=(65:Int)/\(65:Int)<=65) then
   none
   else none
  else
   bif decide (0<=h/\h<65/\h<=(65:Int)/\(65:Int)<=65) then
   let M:=(((PV.agg (z.2.2.2.2.2.2.2.2.parts.set h.toNat (PV.int I))).parts.drop h.toNat).take ((65:Int).toNat-h.toNat)).map aax
   some (z.2.2.2.2.1,M)
   else none
 else none
 else none
theorem axm (u:Int):F226 0 [] u 16 false false=(aba (S226_12step 0) ([],u,false,false,[],([]:Bq),(),(65:Int),(4:Int),(16:Int),(15:Int),PV.agg (List.replicate 65 (PV.int (0:Int))))).bind axa:=by kernel_rfl
theorem fmt16 (u:Nat) (hu:u<18446744073709551616):Lfmt 0 (u:Int) (16:Int)=some (hexF 16 u):=by
 obtain ⟨J,h,z,O,M,h3,h4,h5,Z⟩:=axn 15 u 65 (List.replicate 65 (PV.int (0:Int))) (by omega) hu (by omega) (by omega) (by simp);have e:Lfmt 0 (u:Int) (16:Int)=(F226 0 [] (u:Int) 16 false false).bind λy=>some y.2:=rfl;rw [e,axm,show (65:Int)=((65:Nat):Int) from rfl,O,Ae];have hw:IntKind.wrap .i64 ((h:Int)-(1:Int))=((h - 1:Nat):Int):=by rw [show (h:Int)-1=((h - 1:Nat):Int) by omega];exact aa9 (by omega)
 have H:aaa ((J:Nat):Int) (([48,49,50,51,52,53,54,55,56,57,97,98,99,100,101,102,103,104,105,106,107,108,109,110,111,112,113,114,115,116,117,118,119,120,121,122]:Bq).length)=true:=by rw [aab];exact Ag (A5 M (by decide))
 have I:aaa ((h - 1:Nat):Int) 65=true:=by rw [aab];exact Ag (by omega)
 have hc:decide ((0:Int)<=((h - 1:Nat):Int)/\((h - 1:Nat):Int)<65/\((h - 1:Nat):Int)<=(65:Int)/\(65:Int)<=65)=true:=Ag (by omega);have o:(((PV.agg (z.set (h - 1) (PV.int ((hexd J).toNat:Int)))).parts.drop (h - 1)).take ((65:Int).toNat-(h - 1))).map aax=hexF 16 u:=by show (((z.set (h - 1) (PV.int ((hexd J).toNat:Int))).drop (h - 1)).take (65-(h - 1))).map aax=_;rw [List.take_of_length_le (by simp;omega),au0 _ _ _ (by omega),show h - 1+1=h by omega,Bh,alg,Z];simp
 unfold axa;simp only [hw,H,I,hc,Af,Ah,Aj,a4b M,PV.parts] at o ⊢;rw [o];rfl
theorem axr (u:Nat) (H:u<18446744073709551616):F320 0 (u:Int)=some (aen u):=by
 have O:agi .and .u64 (u:Int) (9218868437227405312:Int)=((u / 4503599627370496%2048*4503599627370496:Nat):Int):=by have:=aim u 9218868437227405312 H (by decide);rw [a0q] at this;exact this
 have Z:agi .and .u64 (u:Int) (4503599627370495:Int)=((u%4503599627370496:Nat):Int):=by have:=aim u 4503599627370495 H (by decide);rw [a0r] at this;exact this
 have I:(((u / 4503599627370496%2048*4503599627370496:Nat):Int)==(9218868437227405312:Int))=decide (u / 4503599627370496%2048=2047):=by refine (nbeq _ 9218868437227405312).trans ?_;rw [decide_eq_decide];omega
 have J:(((u / 4503599627370496%2048*4503599627370496:Nat):Int)==(0:Int))=decide (u / 4503599627370496%2048=0):=by refine (nbeq _ 0).trans ?_;rw [decide_eq_decide];omega
 have M:(((u%4503599627370496:Nat):Int)==(0:Int))=decide (u%4503599627370496=0):=nbeq _ 0;unfold F320 aen;simp only [O,Z,I,J,M,bne];by_cases z:u / 4503599627370496%2048=2047
 ·have o:¬u / 4503599627370496%2048=0:=by omega
  by_cases h:u%4503599627370496=0
  ·rw [if_neg (by omega),if_pos (by omega)];simp [z,h]
  ·rw [if_pos (by omega)];simp [z,h]
 ·by_cases o:u / 4503599627370496%2048=0
  ·by_cases h:u%4503599627370496=0
   ·rw [if_neg (by omega),if_neg (by omega),if_pos (by omega)];simp [o,h]
   ·rw [if_neg (by omega),if_neg (by omega),if_neg (by omega),if_pos (by omega)];simp [o,h]
  ·rw [if_neg (by omega),if_neg (by omega),if_neg (by omega),if_neg (by omega)];simp [z,o]
theorem amj (u:Nat):F106 0 (u:Int)=some (aen u):=by
 have Z:(u:Int).tmod (9223372036854775808:Int)=((u%9223372036854775808:Nat):Int):=rfl;have I:decide (((u%9223372036854775808:Nat):Int)>(9218868437227405312:Int))=decide (9218868437227405312<u%9223372036854775808):=by rw [decide_eq_decide];omega
 have J:(((u%9223372036854775808:Nat):Int)==(9218868437227405312:Int))=decide (u%9223372036854775808=9218868437227405312):=nbeq _ 9218868437227405312;have M:(((u%9223372036854775808:Nat):Int)==(0:Int))=decide (u%9223372036854775808=0):=nbeq _ 0;have O:decide (((u%9223372036854775808:Nat):Int)<(4503599627370496:Int))=decide (u%9223372036854775808<4503599627370496):=by rw [decide_eq_decide];omega
 unfold F106 aen;simp only [Z,I,J,M,O];by_cases h:9218868437227405312<u%9223372036854775808
 ·simp [h]
 ·by_cases o:u%9223372036854775808=9218868437227405312
  ·simp [o]
  ·by_cases z:u%9223372036854775808=0
   ·simp [z]
   ·by_cases H:u%9223372036854775808<4503599627370496
    ·simp [h,o,z,H]
    ·simp [h,o,z,H]
def ah8 (u:Nat):Bq:=
 bif aen u==0 then [110,97,110] else bif aen u==1 then (bif decide (9223372036854775808<=u) then [45,105,110,102] else [105,110,102]) else [48,120]++hexN 16 u
theorem atf (n:Nat):Lib.repeatL ([48]:Bq) n=List.replicate n 48:=by
 induction n with
 | zero=>rfl
 | succ n h=>rw [List.replicate_succ,<-h];rfl
theorem axu (u:Nat) (h:u<18446744073709551616):F308 0 (u:Int)=some (ah8 u):=by
 obtain ⟨Z,I⟩:(hexF 16 u).length<=16/\List.replicate (16-(hexF 16 u).length) 48++hexF 16 u=hexN 16 u:=a1n 15 u (by omega);have M:agi .and .u64 (u:Int) (9223372036854775808:Int)=((u / 9223372036854775808*9223372036854775808:Nat):Int):=by have:=aim u 9223372036854775808 h (by decide);rw [a0s u h] at this;exact this
 have o:(((u / 9223372036854775808*9223372036854775808:Nat):Int) != (0:Int))=decide (9223372036854775808<=u):=by rw [show (((u / 9223372036854775808*9223372036854775808:Nat):Int) != (0:Int))=!(((u / 9223372036854775808*9223372036854775808:Nat):Int)==((0:Nat):Int)) from rfl,nbeq,<-decide_not,decide_eq_decide];omega
 have O:IntKind.wrap .i64 ((16:Int)-((hexF 16 u).length:Int))=((16-(hexF 16 u).length:Nat):Int):=by rw [show (16:Int)-((hexF 16 u).length:Int)=((16-(hexF 16 u).length:Nat):Int) by omega];exact aa9 (by omega)
 have J:ajh 0 ([48]:Bq) ((16-(hexF 16 u).length:Nat):Int)=some (List.replicate (16-(hexF 16 u).length) 48):=by unfold ajh;rw [Ag (by omega),Ag (by omega),Aj,show Nat.ble (([48]:Bq).length*(16-(hexF 16 u).length)) 140737488355328=true by rw [Nat.ble_eq];simp;omega,atf];rfl
 have z:decide (([48,120]:Bq).length+(List.replicate (16-(hexF 16 u).length) (48:UInt8)).length<=aan)=true:=ajt (by simp;omega);have H:decide ((([48,120]:Bq)++List.replicate (16-(hexF 16 u).length) (48:UInt8)).length+(hexF 16 u).length<=aan)=true:=ajt (by simp;omega);unfold F308 ah8;simp only [axr u h,Ae,M,o,F310,fmt16 u h,O,J,z,H,Ap,I];cases aen u==0<;>cases aen u==1<;>cases decide (9223372036854775808<=u)<;>rfl
theorem amk (s:Bq) (M:s.length<=1048576):F108 0 s=some (s.flatMap λb=>hex2 b.toNat):=by
 have h:=al2 (step:=S108_4step 0) (λi (b:Bq)=>(s,b,(i:Int))) (λb=>b) s 0 (λacc b=>acc++hex2 b.toNat) (λi b=>b.length=2*i) (λi b z J=>by
  have H:=azf (s.getD i 0).toNat_lt;have o:decide (b.length+(hex2 (s.getD i 0).toNat).length<=aan)=true:=ajt (by simp [hex2];omega);refine ⟨?_,by simp [hex2];omega⟩;simp only [S108_4step,S108_4,adp,aab,z,decide_true,Af,Aj,H,Ae,o,arz (i:=i) (by omega)]) (λb _=>by
  simp only [S108_4step,S108_4,adp,Nat.lt_irrefl,decide_false,Ah]) s.length 0 [] (by omega) rfl
 have e:∀ (l:Bq) (acc:Bq),l.foldl (λacc b=>acc++hex2 b.toNat) acc=acc++l.flatMap λb=>hex2 b.toNat:=by
  intro l;induction l with
  | nil=>intro acc;simp
  | cons b r I=>intro acc;rw [List.foldl_cons,I];simp
 rw [As,e,A9] at h;unfold F108;rw [adw,show (0:Int)=((0:Nat):Int) from rfl,h.1];rfl
theorem a6d:((List.range 256).all λb=>(((b:Int).fdiv (2^(min (4:Int).toNat (IntKind.bits .u8))))==((b / 16:Nat):Int))&&(agi .and .u8 (b:Int) (15:Int)==((b%16:Nat):Int)))=true:=by kernel_rfl
theorem nib {b:Nat} (h:b<256):(b:Int).fdiv (2^(min (4:Int).toNat (IntKind.bits .u8)))=((b / 16:Nat):Int)/\agi .and .u8 (b:Int) (15:Int)=((b%16:Nat):Int):=by have:=List.all_eq_true.1 a6d b (List.mem_range.2 h);simp only [Ai,beq_iff_eq] at this;exact this
theorem a7m (s:Bq) (hs:s.length<=1048576):F309 0 s=some (s.flatMap λb=>hex2 b.toNat):=by
 have h:=al2 (step:=S309_4step 0) (λi (b:List PV)=>(s,b,(s.length:Int),(i:Int))) (λb=>b) s 0 (λacc b=>acc++[PV.int ((hexd (b.toNat / 16)).toNat:Int),PV.int ((hexd (b.toNat%16)).toNat:Int)]) (λi b=>b.length=2*i) (λi b I hI=>by
  have o:=(s.getD i 0).toNat_lt;obtain ⟨O,Z⟩:=nib o;have r1:aaa (((s.getD i 0).toNat / 16:Nat):Int) (([48,49,50,51,52,53,54,55,56,57,97,98,99,100,101,102]:Bq).length)=true:=by rw [aab];exact Ag (by show _<16;omega)
  have r2:aaa (((s.getD i 0).toNat%16:Nat):Int) (([48,49,50,51,52,53,54,55,56,57,97,98,99,100,101,102]:Bq).length)=true:=by rw [aab];exact Ag (by show _<16;omega)
  have H:∀ x y:PV,decide (b.length+[x,y].length<=aae)=true:=λx y=>Ag (by unfold aae;simp;omega);refine ⟨?_,by simp;omega⟩;simp only [S309_4step,S309_4,adp,aab,I,decide_true,Af,Aj,O,Z,r1,r2,H,arz (i:=i) (by omega)];rfl) (λb _=>by
  simp only [S309_4step,S309_4,adp,Nat.lt_irrefl,decide_false,Ah]) s.length 0 [] (by omega) rfl
 have e:∀ (l:Bq) (acc:List PV),(l.foldl (λacc b=>acc++[PV.int ((hexd (b.toNat / 16)).toNat:Int),PV.int ((hexd (b.toNat%16)).toNat:Int)]) acc).map aax=acc.map aax++l.flatMap λb=>hex2 b.toNat:=by
  intro l;induction l with
  | nil=>intro acc;simp
  | cons b r M=>intro acc;rw [List.foldl_cons,M];simp [alg,hex2]
 unfold F309;have J:IntKind.wrap .i64 ((2:Int)*(s.length:Int))=((2*s.length:Nat):Int):=by rw [show (2:Int)*(s.length:Int)=((2*s.length:Nat):Int) by omega];exact aa9 (by omega)
 have z:decide ((0:Int)<=((2*s.length:Nat):Int)/\((2*s.length:Nat):Int)<=aae)=true:=Ag (by unfold aae;omega);rw [As] at h;simp only [J,z,Af,adw];rw [show (0:Int)=((0:Nat):Int) from rfl,h.1,Ae,e];rfl
theorem ahi (s:Bq):(s.flatMap λb=>hex2 b.toNat).length=2*s.length:=by
 induction s with
 | nil=>rfl
 | cons b r h=>rw [List.flatMap_cons,Ak,h];simp [hex2];omega
theorem aya (u:Nat) (hu:u<18446744073709551616):F107 0 (u:Int)=some (hexN 16 u):=by
 have step:∀ (k v:Nat) (acc:List PV),k<8->acc.length=k->v<18446744073709551616->S107_4step 0 ((v:Int),acc,(k:Int))=some (.inl (((v / 256:Nat):Int),PV.int ((v%256:Nat):Int)::acc,((k+1:Nat):Int))):=by
  intro k v acc O I J;have o:decide ((k:Int)<(8:Int))=true:=Ag (by omega);have z:IntKind.wrap .u8 ((v:Int).tmod (256:Int))=((v%256:Nat):Int):=by rw [show (v:Int).tmod (256:Int)=((v%256:Nat):Int) from rfl,IntKind.wrap_u8];omega
  have H:IntKind.wrap .u64 ((v:Int).tdiv (256:Int))=((v / 256:Nat):Int):=by rw [show (v:Int).tdiv (256:Int)=((v / 256:Nat):Int) from rfl,IntKind.wrap_u64];omega
  have Z:∀ x:PV,decide ([x].length+acc.length<=aae)=true:=λx=>Ag (by unfold aae;simp;omega);simp only [S107_4step,S107_4,o,z,H,Z,Af,arz (i:=k) (by omega)];rfl
 have h:∀ (v:Int) (acc:List PV),S107_4step 0 (v,acc,((8:Nat):Int))=some (.inr acc):=λv acc=>rfl;have M:∀ (j k v:Nat) (acc:List PV),k+j=8->acc.length=k->v<18446744073709551616->∃ bs,aba (S107_4step 0) ((v:Int),acc,(k:Int))=some (bs++acc)/\bs.length=j/\((bs.map aax).flatMap λb=>hex2 b.toNat)=hexN (2*j) v:=by
  intro j;induction j with
  | zero=>
   intro k v acc O I J;have:k=8:=by omega
   subst this;exact ⟨[],aai (h _ _),rfl,rfl⟩
  | succ j ih=>
   intro k v acc O I J;obtain ⟨bs,o,z,H⟩:=ih (k+1) (v / 256) (PV.int ((v%256:Nat):Int)::acc) (by omega) (by simp [I]) (by omega);refine ⟨bs++[PV.int ((v%256:Nat):Int)],?_,by simp [z],?_⟩
   ·rw [aat (step k v acc (by omega) I J),o];simp
   ·rw [List.map_append,List.flatMap_append,H,show 2*(j+1)=2*j+2 by omega,a1o];congr 1;have hb:(aax (PV.int ((v%256:Nat):Int))).toNat=v%256:=by
     show (UInt8.ofNat (((v%256:Nat):Int)).toNat).toNat=_;rw [Aj,UInt8.toNat_ofNat'];omega
    simp only [Bh,List.map_nil,List.flatMap_cons,List.flatMap_nil,List.append_nil,hb];simp only [hex2,hexN,A9];rw [show v%256 / 16%16=v%256 / 16 by omega];rfl
 obtain ⟨bs,o,z,H⟩:=M 8 0 u [] (by omega) rfl hu;unfold F107;rw [adw,show (0:Int)=((0:Nat):Int) from rfl,o,Ae,List.append_nil,amk _ (by rw [List.length_map,z];decide),H];rfl
def ahb (v:PV):Bq:=
 bif ac4 (aav v) v then
  (bif aav v==6 then ah8 (abn v).toNat else bif aav v==8 then [120]++aj0 ((abr v).flatMap λb=>hex2 b.toNat) else aps v)
 else []
theorem a8j {v:PV} (h:ac4 (aav v) v=false):aps v=[]:=by unfold aps;rw [h];rfl
theorem ahg {v:PV} (h:ac4 (aav v) v=true) (o:aav v=8):(abr v).length<=4096:=by unfold ac4 at h;rw [o] at h;simp only [Ai,aev] at h;have:=h.2;simp at this;exact this.2
theorem a3j (v:PV) (hs:acv v):F284 0 v=some (ahb v):=by
 obtain ⟨O,H,h,o⟩:=hs;by_cases J:aav v=6
 ·obtain ⟨u,hu⟩:∃ u:Nat,abn v=(u:Int):=⟨(abn v).toNat,(Int.toNat_of_nonneg h).symm⟩;have I:(v.fld 0).asInt=aav v:=rfl;have Z:(v.fld 1).asInt=abn v:=rfl;unfold F284 ahb;simp only [I,Z,akx _ _ ⟨O,H,h,o⟩,Ae,hu,axu u (by omega),J,Aj];cases ac4 6 v<;>rfl
 ·by_cases z:aav v=8
  ·have I:(v.fld 0).asInt=aav v:=rfl;have e2:(v.fld 2).asStr=abr v:=rfl;unfold F284 ahb;simp only [I,e2,akx _ _ ⟨O,H,h,o⟩,Ae];cases M:ac4 (aav v) v with
   | false=>rfl
   | true=>have h4:=ahg M z;have hq:=afl ((abr v).flatMap λb=>hex2 b.toNat);rw [ahi] at hq;have g:decide (([120]:Bq).length+(aj0 ((abr v).flatMap λb=>hex2 b.toNat)).length<=aan)=true:=ajt (by simp;omega);simp only [z,a7m _ H,apd _ (show ((abr v).flatMap λb=>hex2 b.toNat).length<=1048576 by rw [ahi];omega),Ae,g];rfl
  ·rw [a6q v ⟨O,H,h,o⟩ J z];unfold ahb;cases M:ac4 (aav v) v with
   | false=>rw [a8j M];rfl
   | true=>have k6:(aav v==(6:Int))=false:=beqI J;have k8:(aav v==(8:Int))=false:=beqI z;rw [k6,k8];rfl
theorem atd (v:PV) (hs:acv v):F56 0 v=some (ahb v):=by
 obtain ⟨Z,H,h,o⟩:=hs;by_cases J:aav v=6
 ·obtain ⟨u,hu⟩:∃ u:Nat,abn v=(u:Int):=⟨(abn v).toNat,(Int.toNat_of_nonneg h).symm⟩;have I:(v.fld 0).asInt=aav v:=rfl;have e1:(v.fld 1).asInt=abn v:=rfl;have O:decide ((u:Int)>=(9223372036854775808:Int))=decide (9223372036854775808<=u):=by rw [decide_eq_decide];omega
  have g:decide (([48,120]:Bq).length+(hexN 16 u).length<=aan)=true:=ajt (by rw [aov];decide);unfold F56 ahb ah8;simp only [I,e1,adg _ _ ⟨Z,H,h,o⟩,Ae,hu,amj u,aya u (by omega),J,Aj,O,g];cases ac4 6 v<;>cases aen u==0<;>cases aen u==1<;>cases decide (9223372036854775808<=u)<;>rfl
 ·by_cases z:aav v=8
  ·have I:(v.fld 0).asInt=aav v:=rfl;have e2:(v.fld 2).asStr=abr v:=rfl;unfold F56 ahb;simp only [I,e2,adg _ _ ⟨Z,H,h,o⟩,Ae];cases M:ac4 (aav v) v with
   | false=>rfl
   | true=>have h4:=ahg M z;have hq:=afl ((abr v).flatMap λb=>hex2 b.toNat);rw [ahi] at hq;have g:decide (([120]:Bq).length+(aj0 ((abr v).flatMap λb=>hex2 b.toNat)).length<=aan)=true:=ajt (by simp;omega);simp only [z,amk _ H,aih _ (show ((abr v).flatMap λb=>hex2 b.toNat).length<=1048576 by rw [ahi];omega),Ae,g];rfl
  ·rw [awj v ⟨Z,H,h,o⟩ J z];unfold ahb;cases M:ac4 (aav v) v with
   | false=>rw [a8j M];rfl
   | true=>have k6:(aav v==(6:Int))=false:=beqI J;have k8:(aav v==(8:Int))=false:=beqI z;rw [k6,k8];rfl
theorem a0b (v:PV) (I:(abr v).length<=1048576):(ahb v).length<=4194400:=by
 have h:=a0a v I;have J:(ah8 (abn v).toNat).length<=20:=by unfold ah8;have:=aov 16 (abn v).toNat;cases aen (abn v).toNat==0<;>cases aen (abn v).toNat==1<;>cases decide (9223372036854775808<=(abn v).toNat)<;>simp [this]
 unfold ahb;cases z:ac4 (aav v) v with
 | false=>simp
 | true=>
  simp only [Af];cases aav v==6 with
  | true=>simp only [Af];omega
  | false=>
   simp only [Ah];cases o:aav v==8 with
   | false=>simp only [Ah];exact h
   | true=>have M:=ahg z (by simpa using o);have H:=afl ((abr v).flatMap λb=>hex2 b.toNat);rw [ahi] at H;simp only [Af,Ak,Am,Ao];omega
end Go.Ab
