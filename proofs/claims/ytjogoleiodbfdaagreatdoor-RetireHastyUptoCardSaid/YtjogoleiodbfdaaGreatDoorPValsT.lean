/- Doubles and bytes: their texts, the same in the program and the specification. -/
import Derived.Test.YtjogoleiodbfdaaGreatDoorPQuoteT
set_option linter.unusedVariables false
set_option linter.unusedSimpArgs false
set_option linter.unnecessarySimpa false
namespace Go.Ab
open Go
set_option maxRecDepth 100000
theorem axq:((List.range 16).all λd=>(([48,49,50,51,52,53,54,55,56,57,97,98,99,100,101,102,103,104,105,106,107,108,109,110,111,112,113,114,115,116,117,118,119,120,121,122]:Bt).getD d 0)==hexd d)=true:=by kernel_rfl
theorem a6q {d:Nat} (h:d<16):(([48,49,50,51,52,53,54,55,56,57,97,98,99,100,101,102,103,104,105,106,107,108,109,110,111,112,113,114,115,116,117,118,119,120,121,122]:Bt).getD d 0)=hexd d:=by have:=Bs.1 axq d (List.mem_range.2 h);simpa using this
theorem amd (b:UInt8):aa0 (PV.int (b.toNat:Int))=b:=by show UInt8.ofNat ((b.toNat:Int)).toNat=b;rw [Ai,UInt8.ofNat_toNat]
theorem awt {o:Type} (l:List o) (i:Nat) (x:o) (h:i<l.length):(l.set i x).drop i=x::l.drop (i+1):=by rw [List.drop_set,if_neg (Nat.lt_irrefl i),Nat.sub_self,List.drop_eq_getElem_cons h];rfl
theorem azk:∀ (k u i:Nat) (H:List PV),u<16^(k+1)->u<18446744073709551616->k+1<=i->i<=65->H.length=65->
 ∃ (u' J:Nat) (o:List PV),aa9 (S252_12step 0) ([],(u:Int),false,false,[],([]:Bt),(),(i:Int),(4:Int),(16:Int),(15:Int),PV.agg H)=some ([],(u':Int),false,false,[],([]:Bt),(),(J:Int),PV.agg o)/\
  u'<16/\1<=J/\J<=65/\o.length=65/\hexd u'::(o.drop J).map aa0=hexF (k+1) u++(H.drop i).map aa0:=by
 intro k
 induction k with
 | zero=>
  intro u i H hu M hi I hl
  have h:u<16:=by simpa using hu
  have O:decide ((u:Int)>=(16:Int))=false:=An (by omega)
  refine ⟨u,i,H,aah ?_,h,hi,I,hl,?_⟩
  ·simp only [S252_12step,S252_12,O,Ah]
  ·rw [hexF,if_pos h];rfl
 | succ k ih=>
  intro u i H hu M hi I hl
  by_cases h:u<16
  ·have O:decide ((u:Int)>=(16:Int))=false:=An (by omega);refine ⟨u,i,H,aah ?_,h,by omega,I,hl,?_⟩
   ·simp only [S252_12step,S252_12,O,Ah]
   ·rw [hexF,if_pos h];rfl
  ·have O:decide ((u:Int)>=(16:Int))=true:=Ag (by omega);have hm:u%16<16:=Nat.mod_lt _ (by decide);obtain ⟨u',J,o,h1,h2,h3,h4,h5,h6⟩:=ih (u / 16) (i-1) (H.set (i-1) (PV.int ((hexd (u%16)).toNat:Int))) (by rw [Nat.pow_succ] at hu;omega) (by omega) (by omega) (by omega) (by simp [hl]);refine ⟨u',J,o,?_,h2,h3,h4,h5,?_⟩
   ·rw [<-h1];refine aaq ?_;have hw:IntKind.wrap .i64 ((i:Int)-(1:Int))=((i-1:Nat):Int):=by
     rw [show (i:Int)-1=((i-1:Nat):Int) by omega];exact abb (by omega)
    have hb:agw .and .u64 (u:Int) (15:Int)=((u%16:Nat):Int):=by have:=aja u 15 M (by decide);rw [show u &&& 15=u%16 from Nat.and_two_pow_sub_one_eq_mod u 4] at this;exact this
    have ab:aaa ((u%16:Nat):Int) (([48,49,50,51,52,53,54,55,56,57,97,98,99,100,101,102,103,104,105,106,107,108,109,110,111,112,113,114,115,116,117,118,119,120,121,122]:Bt).length)=true:=by rw [aab];exact Ag (A4 hm (by decide))
    have ad:aaa ((i-1:Nat):Int) 65=true:=by rw [aab];exact Ag (by omega)
    have aa:decide ((0:Int)<=(4:Int))=true:=rfl;have Z:(u:Int).fdiv (2^(min (4:Int).toNat (IntKind.bits .u64)))=((u / 16:Nat):Int):=by show (u:Int).fdiv 16=_;rw [Int.fdiv_eq_ediv_of_nonneg _ (by decide)];rfl
    simp only [S252_12step,S252_12,O,Af,hw,hb,ab,ad,aa,Z,Ai,a6q hm];rfl
   ·rw [h6,show hexF (k+1+1) u=hexF (k+1) (u / 16)++[hexd (u%16)] by rw [hexF,if_neg h],Ar];congr 1;rw [awt _ _ _ (by omega),show i-1+1=i by omega,Bh,amd];rfl
def ay8 (H:((List PV)×Int×Bool×Bool×(List PV)×Bt×Unit×Int×PV)):Option ((List PV)×Bt):=
 let h:=IntKind.wrap .i64 (H.2.2.2.2.2.2.2.1-(1:Int))
 let I:=H.2.1
 bif aaa I (([48,49,50,51,52,53,54,55,56,57,97,98,99,100,101,102,103,104,105,106,107,108,109,110,111,112,113,114,115,116,117,118,119,120,121,122]:Bt).length) then
 let J:=((([48,49,50,51,52,53,54,55,56,57,97,98,99,100,101,102,103,104,105,106,107,108,109,110,111,112,113,114,115,116,117,118,119,120,121,122]:Bt).getD I.toNat 0).toNat:Int)
 bif aaa h 65 then
 bif H.2.2.1 then
  let o:=IntKind.wrap .i64 (h-(1:Int))
  bif aaa o 65 then
  bif H.2.2.2.1 then
   bif decide (0<=o/\o<65/\o<=(65:Int)/\(65:Int)<=65) then
   none
   else none
  else
   bif decide (0<=o/\o<65/\o<=(65:Int)/\(65:Int)<=65) then
   let M:=(((PV.agg ((PV.agg (H.2.2.2.2.2.2.2.2.parts.set h.toNat (PV.int J))).parts.set o.toNat (PV.int (45:Int)))).parts.drop o.toNat).take ((65:Int).toNat-o.toNat)).map aa0
   some (H.2.2.2.2.1,M)
   else none
  else none
 else
  bif H.2.2.2.1 then
   bif decide (0<=h/\h<65/\h<=(65:Int)/\(65:Int)<=65) then
   none
   else none
  else
   bif decide (0<=h/\h<65/\h<=(65:Int)/\(65:Int)<=65) then
   let O:=(((PV.agg (H.2.2.2.2.2.2.2.2.parts.set h.toNat (PV.int J))).parts.drop h.toNat).take ((65:Int).toNat-h.toNat)).map aa0
   some (H.2.2.2.2.1,O)
   else none
 else none
 else none
theorem azj (u:Int):F252 0 [] u 16 false false=(aa9 (S252_12step 0) ([],u,false,false,[],([]:Bt),(),(65:Int),(4:Int),(16:Int),(15:Int),PV.agg (List.replicate 65 (PV.int (0:Int))))).bind ay8:=by kernel_rfl
theorem fmt16 (u:Nat) (hu:u<18446744073709551616):Lfmt 0 (u:Int) (16:Int)=some (hexF 16 u):=by
 obtain ⟨M,h,H,Z,O,h3,h4,h5,h6⟩:=azk 15 u 65 (List.replicate 65 (PV.int (0:Int))) (by omega) hu (by omega) (by omega) (by simp);have e:Lfmt 0 (u:Int) (16:Int)=(F252 0 [] (u:Int) 16 false false).bind λy=>some y.2:=rfl;rw [e,azj,show (65:Int)=((65:Nat):Int) from rfl,Z,Aa];have hw:IntKind.wrap .i64 ((h:Int)-(1:Int))=((h - 1:Nat):Int):=by rw [show (h:Int)-1=((h - 1:Nat):Int) by omega];exact abb (by omega)
 have I:aaa ((M:Nat):Int) (([48,49,50,51,52,53,54,55,56,57,97,98,99,100,101,102,103,104,105,106,107,108,109,110,111,112,113,114,115,116,117,118,119,120,121,122]:Bt).length)=true:=by rw [aab];exact Ag (A4 O (by decide))
 have J:aaa ((h - 1:Nat):Int) 65=true:=by rw [aab];exact Ag (by omega)
 have hc:decide ((0:Int)<=((h - 1:Nat):Int)/\((h - 1:Nat):Int)<65/\((h - 1:Nat):Int)<=(65:Int)/\(65:Int)<=65)=true:=Ag (by omega);have o:(((PV.agg (H.set (h - 1) (PV.int ((hexd M).toNat:Int)))).parts.drop (h - 1)).take ((65:Int).toNat-(h - 1))).map aa0=hexF 16 u:=by show (((H.set (h - 1) (PV.int ((hexd M).toNat:Int))).drop (h - 1)).take (65-(h - 1))).map aa0=_;rw [List.take_of_length_le (by simp;omega),awt _ _ _ (by omega),show h - 1+1=h by omega,Bh,amd,h6];simp
 unfold ay8;simp only [hw,I,J,hc,Af,Ah,Ai,a6q O,PV.parts] at o ⊢;rw [o];rfl
theorem azo (u:Nat) (I:u<18446744073709551616):F237 0 (u:Int)=some (aez u):=by
 have Z:agw .and .u64 (u:Int) (9218868437227405312:Int)=((u / 4503599627370496%2048*4503599627370496:Nat):Int):=by have:=aja u 9218868437227405312 I (by decide);rw [a3e] at this;exact this
 have h2:agw .and .u64 (u:Int) (4503599627370495:Int)=((u%4503599627370496:Nat):Int):=by have:=aja u 4503599627370495 I (by decide);rw [a3f] at this;exact this
 have J:(((u / 4503599627370496%2048*4503599627370496:Nat):Int)==(9218868437227405312:Int))=decide (u / 4503599627370496%2048=2047):=by refine (nbeq _ 9218868437227405312).trans ?_;rw [decide_eq_decide];omega
 have M:(((u / 4503599627370496%2048*4503599627370496:Nat):Int)==(0:Int))=decide (u / 4503599627370496%2048=0):=by refine (nbeq _ 0).trans ?_;rw [decide_eq_decide];omega
 have O:(((u%4503599627370496:Nat):Int)==(0:Int))=decide (u%4503599627370496=0):=nbeq _ 0;unfold F237 aez;simp only [Z,h2,J,M,O,bne];by_cases H:u / 4503599627370496%2048=2047
 ·have o:¬u / 4503599627370496%2048=0:=by omega
  by_cases h:u%4503599627370496=0
  ·rw [if_neg (by omega),if_pos (by omega)];simp [H,h]
  ·rw [if_pos (by omega)];simp [H,h]
 ·by_cases o:u / 4503599627370496%2048=0
  ·by_cases h:u%4503599627370496=0
   ·rw [if_neg (by omega),if_neg (by omega),if_pos (by omega)];simp [o,h]
   ·rw [if_neg (by omega),if_neg (by omega),if_neg (by omega),if_pos (by omega)];simp [o,h]
  ·rw [if_neg (by omega),if_neg (by omega),if_neg (by omega),if_neg (by omega)];simp [H,o]
theorem anj (u:Nat):F170 0 (u:Int)=some (aez u):=by
 have h1:(u:Int).tmod (9223372036854775808:Int)=((u%9223372036854775808:Nat):Int):=rfl;have J:decide (((u%9223372036854775808:Nat):Int)>(9218868437227405312:Int))=decide (9218868437227405312<u%9223372036854775808):=by rw [decide_eq_decide];omega
 have M:(((u%9223372036854775808:Nat):Int)==(9218868437227405312:Int))=decide (u%9223372036854775808=9218868437227405312):=nbeq _ 9218868437227405312;have O:(((u%9223372036854775808:Nat):Int)==(0:Int))=decide (u%9223372036854775808=0):=nbeq _ 0;have Z:decide (((u%9223372036854775808:Nat):Int)<(4503599627370496:Int))=decide (u%9223372036854775808<4503599627370496):=by rw [decide_eq_decide];omega
 unfold F170 aez;simp only [h1,J,M,O,Z];by_cases h:9218868437227405312<u%9223372036854775808
 ·simp [h]
 ·by_cases o:u%9223372036854775808=9218868437227405312
  ·simp [o]
  ·by_cases H:u%9223372036854775808=0
   ·simp [H]
   ·by_cases I:u%9223372036854775808<4503599627370496
    ·simp [h,o,H,I]
    ·simp [h,o,H,I]
def air (u:Nat):Bt:=
 bif aez u==0 then [110,97,110] else bif aez u==1 then (bif decide (9223372036854775808<=u) then [45,105,110,102] else [105,110,102]) else [48,120]++hexN 16 u
theorem aux (n:Nat):Lib.repeatL ([48]:Bt) n=List.replicate n 48:=by
 induction n with
 | zero=>rfl
 | succ n h=>rw [List.replicate_succ,<-h];rfl
theorem azr (u:Nat) (h:u<18446744073709551616):F223 0 (u:Int)=some (air u):=by
 obtain ⟨hl,J⟩:(hexF 16 u).length<=16/\List.replicate (16-(hexF 16 u).length) 48++hexF 16 u=hexN 16 u:=a4k 15 u (by omega);have O:agw .and .u64 (u:Int) (9223372036854775808:Int)=((u / 9223372036854775808*9223372036854775808:Nat):Int):=by have:=aja u 9223372036854775808 h (by decide);rw [a3g u h] at this;exact this
 have o:(((u / 9223372036854775808*9223372036854775808:Nat):Int) != (0:Int))=decide (9223372036854775808<=u):=by rw [show (((u / 9223372036854775808*9223372036854775808:Nat):Int) != (0:Int))=!(((u / 9223372036854775808*9223372036854775808:Nat):Int)==((0:Nat):Int)) from rfl,nbeq,<-decide_not,decide_eq_decide];omega
 have Z:IntKind.wrap .i64 ((16:Int)-((hexF 16 u).length:Int))=((16-(hexF 16 u).length:Nat):Int):=by rw [show (16:Int)-((hexF 16 u).length:Int)=((16-(hexF 16 u).length:Nat):Int) by omega];exact abb (by omega)
 have M:aj6 0 ([48]:Bt) ((16-(hexF 16 u).length:Nat):Int)=some (List.replicate (16-(hexF 16 u).length) 48):=by unfold aj6;rw [Ag (by omega),Ag (by omega),Ai,show Nat.ble (([48]:Bt).length*(16-(hexF 16 u).length)) 140737488355328=true by rw [Nat.ble_eq];simp;omega,aux];rfl
 have H:decide (([48,120]:Bt).length+(List.replicate (16-(hexF 16 u).length) (48:UInt8)).length<=aao)=true:=akm (by simp;omega);have I:decide ((([48,120]:Bt)++List.replicate (16-(hexF 16 u).length) (48:UInt8)).length+(hexF 16 u).length<=aao)=true:=akm (by simp;omega);unfold F223 air;simp only [azo u h,Aa,O,o,F225,fmt16 u h,Z,M,H,I,Ar,J];cases aez u==0<;>cases aez u==1<;>cases decide (9223372036854775808<=u)<;>rfl
theorem anl (s:Bt) (O:s.length<=1048576):F208 0 s=some (s.flatMap λb=>hex2 b.toNat):=by
 have h:=am0 (step:=S208_4step 0) (λi (b:Bt)=>(s,b,(i:Int))) (λb=>b) s 0 (λacc b=>acc++hex2 b.toNat) (λi b=>b.length=2*i) (λi b H M=>by
  have I:=a1i (s.getD i 0).toNat_lt;have o:decide (b.length+(hex2 (s.getD i 0).toNat).length<=aao)=true:=akm (by simp [hex2];omega);refine ⟨?_,by simp [hex2];omega⟩;simp only [S208_4step,S208_4,ac0,aab,H,decide_true,Af,Ai,I,Aa,o,aof (i:=i) (by omega)]) (λb _=>by
  simp only [S208_4step,S208_4,ac0,Nat.lt_irrefl,decide_false,Ah]) s.length 0 [] (by omega) rfl
 have e:∀ (l:Bt) (acc:Bt),l.foldl (λacc b=>acc++hex2 b.toNat) acc=acc++l.flatMap λb=>hex2 b.toNat:=by
  intro l;induction l with
  | nil=>intro acc;simp
  | cons b r J=>intro acc;rw [List.foldl_cons,J];simp
 rw [Ap,e,Ba] at h;unfold F208;rw [adq,show (0:Int)=((0:Nat):Int) from rfl,h.1];rfl
theorem a8y:((List.range 256).all λb=>(((b:Int).fdiv (2^(min (4:Int).toNat (IntKind.bits .u8))))==((b / 16:Nat):Int))&&(agw .and .u8 (b:Int) (15:Int)==((b%16:Nat):Int)))=true:=by kernel_rfl
theorem nib {b:Nat} (h:b<256):(b:Int).fdiv (2^(min (4:Int).toNat (IntKind.bits .u8)))=((b / 16:Nat):Int)/\agw .and .u8 (b:Int) (15:Int)=((b%16:Nat):Int):=by have:=Bs.1 a8y b (List.mem_range.2 h);simp only [Aj,beq_iff_eq] at this;exact this
theorem bai (s:Bt) (hs:s.length<=1048576):F224 0 s=some (s.flatMap λb=>hex2 b.toNat):=by
 have h:=am0 (step:=S224_4step 0) (λi (b:List PV)=>(s,b,(s.length:Int),(i:Int))) (λb=>b) s 0 (λacc b=>acc++[PV.int ((hexd (b.toNat / 16)).toNat:Int),PV.int ((hexd (b.toNat%16)).toNat:Int)]) (λi b=>b.length=2*i) (λi b J hI=>by
  have o:=(s.getD i 0).toNat_lt;obtain ⟨Z,n2⟩:=nib o;have r1:aaa (((s.getD i 0).toNat / 16:Nat):Int) (([48,49,50,51,52,53,54,55,56,57,97,98,99,100,101,102]:Bt).length)=true:=by rw [aab];exact Ag (by show _<16;omega)
  have r2:aaa (((s.getD i 0).toNat%16:Nat):Int) (([48,49,50,51,52,53,54,55,56,57,97,98,99,100,101,102]:Bt).length)=true:=by rw [aab];exact Ag (by show _<16;omega)
  have I:∀ x y:PV,decide (b.length+[x,y].length<=aaf)=true:=λx y=>Ag (by unfold aaf;simp;omega);refine ⟨?_,by simp;omega⟩;simp only [S224_4step,S224_4,ac0,aab,J,decide_true,Af,Ai,Z,n2,r1,r2,I,aof (i:=i) (by omega)];rfl) (λb _=>by
  simp only [S224_4step,S224_4,ac0,Nat.lt_irrefl,decide_false,Ah]) s.length 0 [] (by omega) rfl
 have e:∀ (l:Bt) (acc:List PV),(l.foldl (λacc b=>acc++[PV.int ((hexd (b.toNat / 16)).toNat:Int),PV.int ((hexd (b.toNat%16)).toNat:Int)]) acc).map aa0=acc.map aa0++l.flatMap λb=>hex2 b.toNat:=by
  intro l;induction l with
  | nil=>intro acc;simp
  | cons b r O=>intro acc;rw [List.foldl_cons,O];simp [amd,hex2]
 unfold F224;have M:IntKind.wrap .i64 ((2:Int)*(s.length:Int))=((2*s.length:Nat):Int):=by rw [show (2:Int)*(s.length:Int)=((2*s.length:Nat):Int) by omega];exact abb (by omega)
 have H:decide ((0:Int)<=((2*s.length:Nat):Int)/\((2*s.length:Nat):Int)<=aaf)=true:=Ag (by unfold aaf;omega);rw [Ap] at h;simp only [M,H,Af,adq];rw [show (0:Int)=((0:Nat):Int) from rfl,h.1,Aa,e];rfl
theorem ah0 (s:Bt):(s.flatMap λb=>hex2 b.toNat).length=2*s.length:=by
 induction s with
 | nil=>rfl
 | cons b r h=>rw [List.flatMap_cons,Ak,h];simp [hex2];omega
theorem a0a (u:Nat) (hu:u<18446744073709551616):F207 0 (u:Int)=some (hexN 16 u):=by
 have step:∀ (k v:Nat) (acc:List PV),k<8->acc.length=k->v<18446744073709551616->S207_4step 0 ((v:Int),acc,(k:Int))=some (.inl (((v / 256:Nat):Int),PV.int ((v%256:Nat):Int)::acc,((k+1:Nat):Int))):=by
  intro k v acc Z J M;have o:decide ((k:Int)<(8:Int))=true:=Ag (by omega);have H:IntKind.wrap .u8 ((v:Int).tmod (256:Int))=((v%256:Nat):Int):=by rw [show (v:Int).tmod (256:Int)=((v%256:Nat):Int) from rfl,IntKind.wrap_u8];omega
  have I:IntKind.wrap .u64 ((v:Int).tdiv (256:Int))=((v / 256:Nat):Int):=by rw [show (v:Int).tdiv (256:Int)=((v / 256:Nat):Int) from rfl,IntKind.wrap_u64];omega
  have h4:∀ x:PV,decide ([x].length+acc.length<=aaf)=true:=λx=>Ag (by unfold aaf;simp;omega);simp only [S207_4step,S207_4,o,H,I,h4,Af,aof (i:=k) (by omega)];rfl
 have h:∀ (v:Int) (acc:List PV),S207_4step 0 (v,acc,((8:Nat):Int))=some (.inr acc):=λv acc=>rfl;have O:∀ (j k v:Nat) (acc:List PV),k+j=8->acc.length=k->v<18446744073709551616->∃ bs,aa9 (S207_4step 0) ((v:Int),acc,(k:Int))=some (bs++acc)/\bs.length=j/\((bs.map aa0).flatMap λb=>hex2 b.toNat)=hexN (2*j) v:=by
  intro j;induction j with
  | zero=>
   intro k v acc Z J M;have:k=8:=by omega
   subst this;exact ⟨[],aah (h _ _),rfl,rfl⟩
  | succ j ih=>
   intro k v acc Z J M;obtain ⟨bs,o,H,I⟩:=ih (k+1) (v / 256) (PV.int ((v%256:Nat):Int)::acc) (by omega) (by simp [J]) (by omega);refine ⟨bs++[PV.int ((v%256:Nat):Int)],?_,by simp [H],?_⟩
   ·rw [aaq (step k v acc (by omega) J M),o];simp
   ·rw [List.map_append,List.flatMap_append,I,show 2*(j+1)=2*j+2 by omega,a4l];congr 1;have hb:(aa0 (PV.int ((v%256:Nat):Int))).toNat=v%256:=by
     show (UInt8.ofNat (((v%256:Nat):Int)).toNat).toNat=_;rw [Ai,UInt8.toNat_ofNat'];omega
    simp only [Bh,List.map_nil,List.flatMap_cons,List.flatMap_nil,List.append_nil,hb];simp only [hex2,hexN,Ba];rw [show v%256 / 16%16=v%256 / 16 by omega];rfl
 obtain ⟨bs,o,H,I⟩:=O 8 0 u [] (by omega) rfl hu;unfold F207;rw [adq,show (0:Int)=((0:Nat):Int) from rfl,o,Aa,List.append_nil,anl _ (by rw [List.length_map,H];decide),I];rfl
def ahs (v:PV):Bt:=
 bif adh (aav v) v then
  (bif aav v==6 then air (abp v).toNat else bif aav v==8 then [120]++aku ((abu v).flatMap λb=>hex2 b.toNat) else aqu v)
 else []
theorem ba6 {v:PV} (h:adh (aav v) v=false):aqu v=[]:=by unfold aqu;rw [h];rfl
theorem ahx {v:PV} (h:adh (aav v) v=true) (o:aav v=8):(abu v).length<=4096:=by unfold adh at h;rw [o] at h;simp only [Aj,ae6] at h;have:=h.2;simp at this;exact this.2
theorem a6f (v:PV) (hs:ac3 v):F199 0 v=some (ahs v):=by
 obtain ⟨Z,I,h,o⟩:=hs;by_cases M:aav v=6
 ·obtain ⟨u,hu⟩:∃ u:Nat,abp v=(u:Int):=⟨(abp v).toNat,(Int.toNat_of_nonneg h).symm⟩;have J:(v.fld 0).asInt=aav v:=rfl;have e1:(v.fld 1).asInt=abp v:=rfl;unfold F199 ahs;simp only [J,e1,alu _ _ ⟨Z,I,h,o⟩,Aa,hu,azr u (by omega),M,Ai];cases adh 6 v<;>rfl
 ·by_cases H:aav v=8
  ·have J:(v.fld 0).asInt=aav v:=rfl;have e2:(v.fld 2).asStr=abu v:=rfl;unfold F199 ahs;simp only [J,e2,alu _ _ ⟨Z,I,h,o⟩,Aa];cases O:adh (aav v) v with
   | false=>rfl
   | true=>have h4:=ahx O H;have hq:=afz ((abu v).flatMap λb=>hex2 b.toNat);rw [ah0] at hq;have g:decide (([120]:Bt).length+(aku ((abu v).flatMap λb=>hex2 b.toNat)).length<=aao)=true:=akm (by simp;omega);simp only [H,bai _ I,aqg _ (show ((abu v).flatMap λb=>hex2 b.toNat).length<=1048576 by rw [ah0];omega),Aa,g];rfl
  ·rw [a9k v ⟨Z,I,h,o⟩ M H];unfold ahs;cases O:adh (aav v) v with
   | false=>rw [ba6 O];rfl
   | true=>have k6:(aav v==(6:Int))=false:=beqI M;have k8:(aav v==(8:Int))=false:=beqI H;rw [k6,k8];rfl
theorem auv (v:PV) (hs:ac3 v):F186 0 v=some (ahs v):=by
 obtain ⟨hl,I,h,o⟩:=hs;by_cases M:aav v=6
 ·obtain ⟨u,hu⟩:∃ u:Nat,abp v=(u:Int):=⟨(abp v).toNat,(Int.toNat_of_nonneg h).symm⟩;have J:(v.fld 0).asInt=aav v:=rfl;have e1:(v.fld 1).asInt=abp v:=rfl;have Z:decide ((u:Int)>=(9223372036854775808:Int))=decide (9223372036854775808<=u):=by rw [decide_eq_decide];omega
  have g:decide (([48,120]:Bt).length+(hexN 16 u).length<=aao)=true:=akm (by rw [apy];decide);unfold F186 ahs air;simp only [J,e1,adv _ _ ⟨hl,I,h,o⟩,Aa,hu,anj u,a0a u (by omega),M,Ai,Z,g];cases adh 6 v<;>cases aez u==0<;>cases aez u==1<;>cases decide (9223372036854775808<=u)<;>rfl
 ·by_cases H:aav v=8
  ·have J:(v.fld 0).asInt=aav v:=rfl;have e2:(v.fld 2).asStr=abu v:=rfl;unfold F186 ahs;simp only [J,e2,adv _ _ ⟨hl,I,h,o⟩,Aa];cases O:adh (aav v) v with
   | false=>rfl
   | true=>have h4:=ahx O H;have hq:=afz ((abu v).flatMap λb=>hex2 b.toNat);rw [ah0] at hq;have g:decide (([120]:Bt).length+(aku ((abu v).flatMap λb=>hex2 b.toNat)).length<=aao)=true:=akm (by simp;omega);simp only [H,anl _ I,ai3 _ (show ((abu v).flatMap λb=>hex2 b.toNat).length<=1048576 by rw [ah0];omega),Aa,g];rfl
  ·rw [ayh v ⟨hl,I,h,o⟩ M H];unfold ahs;cases O:adh (aav v) v with
   | false=>rw [ba6 O];rfl
   | true=>have k6:(aav v==(6:Int))=false:=beqI M;have k8:(aav v==(8:Int))=false:=beqI H;rw [k6,k8];rfl
theorem a2n (v:PV) (J:(abu v).length<=1048576):(ahs v).length<=4194400:=by
 have h:=a2m v J;have M:(air (abp v).toNat).length<=20:=by unfold air;have:=apy 16 (abp v).toNat;cases aez (abp v).toNat==0<;>cases aez (abp v).toNat==1<;>cases decide (9223372036854775808<=(abp v).toNat)<;>simp [this]
 unfold ahs;cases H:adh (aav v) v with
 | false=>simp
 | true=>
  simp only [Af];cases aav v==6 with
  | true=>simp only [Af];omega
  | false=>
   simp only [Ah];cases o:aav v==8 with
   | false=>simp only [Ah];exact h
   | true=>have O:=ahx H (by simpa using o);have I:=afz ((abu v).flatMap λb=>hex2 b.toNat);rw [ah0] at I;simp only [Af,Ak,Am,Ao];omega
end Go.Ab
