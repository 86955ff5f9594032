/- Doubles and bytes: their texts, the same in the program and the specification. -/
import Derived.Test.YtodichgnoiaanaaGreatDoorPQuoteT
set_option linter.unusedVariables false
set_option linter.unusedSimpArgs false
set_option linter.unnecessarySimpa false
namespace Go.Ab
open Go
set_option maxRecDepth 100000
theorem az9:((List.range 16).all λd=>(([48,49,50,51,52,53,54,55,56,57,97,98,99,100,101,102,103,104,105,106,107,108,109,110,111,112,113,114,115,116,117,118,119,120,121,122]:Bo).getD d 0)==hexd d)=true:=by kernel_rfl
theorem ba8 {d:Nat} (h:d<16):(([48,49,50,51,52,53,54,55,56,57,97,98,99,100,101,102,103,104,105,106,107,108,109,110,111,112,113,114,115,116,117,118,119,120,121,122]:Bo).getD d 0)=hexd d:=by grind [List.all_eq_true,az9]
theorem anq (b:UInt8):aay (PV.int (b.toNat:Int))=b:=by show UInt8.ofNat ((b.toNat:Int)).toNat=b;simp_all
theorem ay7 {o:Type} (l:List o) (i:Nat) (x:o) (h:i<l.length):(l.set i x).drop i=x::l.drop (i+1):=by rw [List.drop_set,if_neg (Nat.lt_irrefl i),Nat.sub_self,List.drop_eq_getElem_cons h];rfl
theorem a2d:∀ (k u i:Nat) (z:List PV),u<16^(k+1)->u<18446744073709551616->k+1<=i->i<=65->z.length=65->
 ∃ (Z I:Nat) (o:List PV),aa3 (S176_12step 0) ([],(u:Int),false,false,[],([]:Bo),(),(i:Int),(4:Int),(16:Int),(15:Int),PV.agg z)=some ([],(Z:Int),false,false,[],([]:Bo),(),(I:Int),PV.agg o)/\
  Z<16/\1<=I/\I<=65/\o.length=65/\hexd Z::(o.drop I).map aay=hexF (k+1) u++(z.drop i).map aay:=by
 intro k
 induction k with
 | zero=>
  intro u i z hu J hi H hl
  have h:u<16:=by simpa using hu
  have M:decide ((u:Int)>=(16:Int))=false:=An (by omega)
  refine ⟨u,i,z,aai ?_,h,hi,H,hl,?_⟩
  ·simp only [S176_12step,S176_12,M,Ah]
  ·rw [hexF,if_pos h];rfl
 | succ k ih=>
  intro u i z hu J hi H hl
  by_cases h:u<16
  ·have M:decide ((u:Int)>=(16:Int))=false:=An (by omega);refine ⟨u,i,z,aai ?_,h,by omega,H,hl,?_⟩
   ·simp only [S176_12step,S176_12,M,Ah]
   ·rw [hexF,if_pos h];rfl
  ·have M:decide ((u:Int)>=(16:Int))=true:=Ag (by omega);have hm:u%16<16:=Nat.mod_lt _ (by decide);obtain ⟨Z,I,o,h1,h2,h3,h4,h5,h6⟩:=ih (u / 16) (i-1) (z.set (i-1) (PV.int ((hexd (u%16)).toNat:Int))) (by grind) (by omega) (by omega) (by omega) (by simp [hl]);refine ⟨Z,I,o,?_,h2,h3,h4,h5,?_⟩
   ·rw [<-h1];refine aao ?_;have hw:IntKind.wrap .i64 ((i:Int)-(1:Int))=((i-1:Nat):Int):=by
     grind [abe]
    have hb:ahg .and .u64 (u:Int) (15:Int)=((u%16:Nat):Int):=by have:=aj0 u 15 J (by decide);rw [show u &&& 15=u%16 from Nat.and_two_pow_sub_one_eq_mod u 4] at this;exact this
    have ab:aab ((u%16:Nat):Int) (([48,49,50,51,52,53,54,55,56,57,97,98,99,100,101,102,103,104,105,106,107,108,109,110,111,112,113,114,115,116,117,118,119,120,121,122]:Bo).length)=true:=by rw [aaa];exact Ag (Az hm (by decide))
    have ad:aab ((i-1:Nat):Int) 65=true:=by grind [aaa,decide_eq_true]
    have aa:decide ((0:Int)<=(4:Int))=true:=rfl;have O:(u:Int).fdiv (2^(min (4:Int).toNat (IntKind.bits .u64)))=((u / 16:Nat):Int):=by show (u:Int).fdiv 16=_;grind
    simp only [S176_12step,S176_12,M,Af,hw,hb,ab,ad,aa,O,Ai,ba8 hm];rfl
   ·rw [h6,show hexF (k+1+1) u=hexF (k+1) (u / 16)++[hexd (u%16)] by rw [hexF,if_neg h],As];grind [ay7,anq]
def a1r (z:((List PV)×Int×Bool×Bool×(List PV)×Bo×Unit×Int×PV)):Option ((List PV)×Bo):=
 let h:=IntKind.wrap .i64 (z.2.2.2.2.2.2.2.1-(1:Int))
 let H:=z.2.1
 bif aab H (([48,49,50,51,52,53,54,55,56,57,97,98,99,100,101,102,103,104,105,106,107,108,109,110,111,112,113,114,115,116,117,118,119,120,121,122]:Bo).length) then
 let I:=((([48,49,50,51,52,53,54,55,56,57,97,98,99,100,101,102,103,104,105,106,107,108,109,110,111,112,113,114,115,116,117,118,119,120,121,122]:Bo).getD H.toNat 0).toNat:Int)
 bif aab h 65 then
 bif z.2.2.1 then
  let o:=IntKind.wrap .i64 (h-(1:Int))
  bif aab o 65 then
  bif z.2.2.2.1 then
   bif decide (0<=o/\o<65/\o<=(65:Int)/\(65:Int)<=65) then
   none
   else none
  else
   bif decide (0<=o/\o<65/\o<=(65:Int)/\(65:Int)<=65) then
   let J:=(((PV.agg ((PV.agg (z.2.2.2.2.2.2.2.2.parts.set h.toNat (PV.int I))).parts.set o.toNat (PV.int (45:Int)))).parts.drop o.toNat).take ((65:Int).toNat-o.toNat)).map aay
   some (z.2.2.2.2.1,J)
   else none
  else none
 else
  bif z.2.2.2.1 then
   bif decide (0<=h/\h<65/\h<=(65:Int)/\(65:Int)<=65) then
   none
   else none
  else
   bif decide (0<=h/\h<65/\h<=(65:Int)/\(65:Int)<=65) then
   let M:=(((PV.agg (z.2.2.2.2.2.2.2.2.parts.set h.toNat (PV.int I))).parts.drop h.toNat).take ((65:Int).toNat-h.toNat)).map aay
   some (z.2.2.2.2.1,M)
   else none
 else none
 else none
theorem a2c (u:Int):F176 0 [] u 16 false false=(aa3 (S176_12step 0) ([],u,false,false,[],([]:Bo),(),(65:Int),(4:Int),(16:Int),(15:Int),PV.agg (List.replicate 65 (PV.int (0:Int))))).bind a1r:=by kernel_rfl
theorem fmt16 (u:Nat) (hu:u<18446744073709551616):Lfmt 0 (u:Int) (16:Int)=some (hexF 16 u):=by
 obtain ⟨J,h,z,O,M,h3,h4,h5,h6⟩:=a2d 15 u 65 (List.replicate 65 (PV.int (0:Int))) (by omega) hu (by omega) (by omega) (by simp);have e:Lfmt 0 (u:Int) (16:Int)=(F176 0 [] (u:Int) 16 false false).bind λy=>some y.2:=rfl;rw [e,a2c,show (65:Int)=((65:Nat):Int) from rfl,O,Aa];have hw:IntKind.wrap .i64 ((h:Int)-(1:Int))=((h - 1:Nat):Int):=by grind [abe]
 have H:aab ((J:Nat):Int) (([48,49,50,51,52,53,54,55,56,57,97,98,99,100,101,102,103,104,105,106,107,108,109,110,111,112,113,114,115,116,117,118,119,120,121,122]:Bo).length)=true:=by rw [aaa];exact Ag (Az M (by decide))
 have I:aab ((h - 1:Nat):Int) 65=true:=by grind [aaa,decide_eq_true]
 have Z:decide ((0:Int)<=((h - 1:Nat):Int)/\((h - 1:Nat):Int)<65/\((h - 1:Nat):Int)<=(65:Int)/\(65:Int)<=65)=true:=Ag (by omega);have o:(((PV.agg (z.set (h - 1) (PV.int ((hexd J).toNat:Int)))).parts.drop (h - 1)).take ((65:Int).toNat-(h - 1))).map aay=hexF 16 u:=by show (((z.set (h - 1) (PV.int ((hexd J).toNat:Int))).drop (h - 1)).take (65-(h - 1))).map aay=_;grind [List.take_of_length_le,ay7,anq]
 unfold a1r;simp only [hw,H,I,Z,Af,Ah,Ai,ba8 M,PV.parts] at o ⊢;rw [o];rfl
theorem a2h (u:Nat) (J:u<18446744073709551616):F236 0 (u:Int)=some (ai5 u):=by
 have H:ahg .and .u64 (u:Int) (9218868437227405312:Int)=((u / 4503599627370496%2048*4503599627370496:Nat):Int):=by grind [aj0,a7f]
 have I:ahg .and .u64 (u:Int) (4503599627370495:Int)=((u%4503599627370496:Nat):Int):=by grind [aj0,a7g]
 have h:(((u / 4503599627370496%2048*4503599627370496:Nat):Int)==(9218868437227405312:Int))=decide (u / 4503599627370496%2048=2047):=by grind
 have o:(((u / 4503599627370496%2048*4503599627370496:Nat):Int)==(0:Int))=decide (u / 4503599627370496%2048=0):=by grind
 have z:(((u%4503599627370496:Nat):Int)==(0:Int))=decide (u%4503599627370496=0):=nbeq _ 0;unfold F236 ai5;grind
theorem aow (u:Nat):F155 0 (u:Int)=some (ai5 u):=by
 have I:(u:Int).tmod (9223372036854775808:Int)=((u%9223372036854775808:Nat):Int):=rfl;have h:decide (((u%9223372036854775808:Nat):Int)>(9218868437227405312:Int))=decide (9218868437227405312<u%9223372036854775808):=by grind
 have o:(((u%9223372036854775808:Nat):Int)==(9218868437227405312:Int))=decide (u%9223372036854775808=9218868437227405312):=nbeq _ 9218868437227405312;have z:(((u%9223372036854775808:Nat):Int)==(0:Int))=decide (u%9223372036854775808=0):=nbeq _ 0;have H:decide (((u%9223372036854775808:Nat):Int)<(4503599627370496:Int))=decide (u%9223372036854775808<4503599627370496):=by grind
 grind [F155,ai5]
def ajg (u:Nat):Bo:=
 bif ai5 u==0 then [110,97,110] else bif ai5 u==1 then (bif decide (9223372036854775808<=u) then [45,105,110,102] else [105,110,102]) else [48,120]++hexN 16 u
theorem axd (n:Nat):Lib.repeatL ([48]:Bo) n=List.replicate n 48:=by
 induction n with
 | zero=>rfl
 | succ n h=>rw [List.replicate_succ,<-h];rfl
theorem a2m (u:Nat) (O:u<18446744073709551616):F223 0 (u:Int)=some (ajg u):=by
 obtain ⟨H,I⟩:(hexF 16 u).length<=16/\List.replicate (16-(hexF 16 u).length) 48++hexF 16 u=hexN 16 u:=a8m 15 u (by omega);have M:ahg .and .u64 (u:Int) (9223372036854775808:Int)=((u / 9223372036854775808*9223372036854775808:Nat):Int):=by grind [aj0,a7h]
 have h:(((u / 9223372036854775808*9223372036854775808:Nat):Int) != (0:Int))=decide (9223372036854775808<=u):=by grind
 have Z:IntKind.wrap .i64 ((16:Int)-((hexF 16 u).length:Int))=((16-(hexF 16 u).length:Nat):Int):=by grind [hexF,abe]
 have J:ak2 0 ([48]:Bo) ((16-(hexF 16 u).length:Nat):Int)=some (List.replicate (16-(hexF 16 u).length) 48):=by grind [ak2,decide_eq_true,Int.toNat_natCast,Nat.ble,hexF,Nat.ble_eq,axd]
 have o:decide (([48,120]:Bo).length+(List.replicate (16-(hexF 16 u).length) (48:UInt8)).length<=aam)=true:=alh (by simp;omega);have z:decide ((([48,120]:Bo)++List.replicate (16-(hexF 16 u).length) (48:UInt8)).length+(hexF 16 u).length<=aam)=true:=alh (by simp;omega);grind [F223,ajg,a2h,F225,fmt16,List.append_assoc,ai5,decide]
theorem aox (s:Bo) (J:s.length<=1048576):F213 0 s=some (s.flatMap λb=>hex2 b.toNat):=by
 have h:=aod (step:=S213_4step 0) (λi (b:Bo)=>(s,b,(i:Int))) (λb=>b) s 0 (λacc b=>acc++hex2 b.toNat) (λi b=>b.length=2*i) (λi b z I=>by
  have H:=a5f (s.getD i 0).toNat_lt;have o:decide (b.length+(hex2 (s.getD i 0).toNat).length<=aam)=true:=alh (by simp [hex2];omega);refine ⟨?_,by simp [hex2];omega⟩;simp only [S213_4step,S213_4,afq,aaa,z,decide_true,Af,Ai,H,Aa,o,avp (i:=i) (by omega)]) (λb _=>by
  simp only [S213_4step,S213_4,afq,Nat.lt_irrefl,decide_false,Ah]) s.length 0 [] (by omega) rfl
 have e:∀ (l:Bo) (acc:Bo),l.foldl (λacc b=>acc++hex2 b.toNat) acc=acc++l.flatMap λb=>hex2 b.toNat:=by
  intro l;induction l with
  | nil=>intro acc;simp
  | cons b r M=>grind
 rw [Ap,e,A6] at h;unfold F213;rw [aec,show (0:Int)=((0:Nat):Int) from rfl,h.1];rfl
theorem bco:((List.range 256).all λb=>(((b:Int).fdiv (2^(min (4:Int).toNat (IntKind.bits .u8))))==((b / 16:Nat):Int))&&(ahg .and .u8 (b:Int) (15:Int)==((b%16:Nat):Int)))=true:=by kernel_rfl
theorem nib {b:Nat} (h:b<256):(b:Int).fdiv (2^(min (4:Int).toNat (IntKind.bits .u8)))=((b / 16:Nat):Int)/\ahg .and .u8 (b:Int) (15:Int)=((b%16:Nat):Int):=by have:=Bj.1 bco b (List.mem_range.2 h);grind
theorem bdv (s:Bo) (hs:s.length<=1048576):F224 0 s=some (s.flatMap λb=>hex2 b.toNat):=by
 have h:=aod (step:=S224_4step 0) (λi (b:List PV)=>(s,b,(s.length:Int),(i:Int))) (λb=>b) s 0 (λacc b=>acc++[PV.int ((hexd (b.toNat / 16)).toNat:Int),PV.int ((hexd (b.toNat%16)).toNat:Int)]) (λi b=>b.length=2*i) (λi b I hI=>by
  have o:=(s.getD i 0).toNat_lt;obtain ⟨M,O⟩:=nib o;have Z:aab (((s.getD i 0).toNat / 16:Nat):Int) (([48,49,50,51,52,53,54,55,56,57,97,98,99,100,101,102]:Bo).length)=true:=by rw [aaa];exact Ag (by show _<16;omega)
  have r2:aab (((s.getD i 0).toNat%16:Nat):Int) (([48,49,50,51,52,53,54,55,56,57,97,98,99,100,101,102]:Bo).length)=true:=by rw [aaa];exact Ag (by show _<16;omega)
  have H:∀ x y:PV,decide (b.length+[x,y].length<=aae)=true:=λx y=>Ag (by grind [aae]);refine ⟨?_,by simp;omega⟩;simp only [S224_4step,S224_4,afq,aaa,I,decide_true,Af,Ai,M,O,Z,r2,H,avp (i:=i) (by omega)];rfl) (λb _=>by
  simp only [S224_4step,S224_4,afq,Nat.lt_irrefl,decide_false,Ah]) s.length 0 [] (by omega) rfl
 have e:∀ (l:Bo) (acc:List PV),(l.foldl (λacc b=>acc++[PV.int ((hexd (b.toNat / 16)).toNat:Int),PV.int ((hexd (b.toNat%16)).toNat:Int)]) acc).map aay=acc.map aay++l.flatMap λb=>hex2 b.toNat:=by
  intro l;induction l with
  | nil=>intro acc;simp
  | cons b r ih=>grind [anq,hex2]
 unfold F224;have J:IntKind.wrap .i64 ((2:Int)*(s.length:Int))=((2*s.length:Nat):Int):=by grind [abe]
 have z:decide ((0:Int)<=((2*s.length:Nat):Int)/\((2*s.length:Nat):Int)<=aae)=true:=Ag (by unfold aae;omega);rw [Ap] at h;simp only [J,z,Af,aec];grind
theorem am1 (s:Bo):(s.flatMap λb=>hex2 b.toNat).length=2*s.length:=by
 induction s with
 | nil=>rfl
 | cons b r h=>grind [List.length_append,hex2]
theorem a3i (u:Nat) (hu:u<18446744073709551616):F212 0 (u:Int)=some (hexN 16 u):=by
 have step:∀ (k v:Nat) (acc:List PV),k<8->acc.length=k->v<18446744073709551616->S212_4step 0 ((v:Int),acc,(k:Int))=some (.inl (((v / 256:Nat):Int),PV.int ((v%256:Nat):Int)::acc,((k+1:Nat):Int))):=by
  intro k v acc M I O;have z:decide ((k:Int)<(8:Int))=true:=Ag (by omega);have H:IntKind.wrap .u8 ((v:Int).tmod (256:Int))=((v%256:Nat):Int):=by rw [show (v:Int).tmod (256:Int)=((v%256:Nat):Int) from rfl,IntKind.wrap_u8];omega
  have o:IntKind.wrap .u64 ((v:Int).tdiv (256:Int))=((v / 256:Nat):Int):=by rw [show (v:Int).tdiv (256:Int)=((v / 256:Nat):Int) from rfl,IntKind.wrap_u64];omega
  have Z:∀ x:PV,decide ([x].length+acc.length<=aae)=true:=λx=>Ag (by grind [aae]);simp only [S212_4step,S212_4,z,H,o,Z,Af,avp (i:=k) (by omega)];rfl
 have h:∀ (v:Int) (acc:List PV),S212_4step 0 (v,acc,((8:Nat):Int))=some (.inr acc):=λv acc=>rfl;have J:∀ (j k v:Nat) (acc:List PV),k+j=8->acc.length=k->v<18446744073709551616->∃ bs,aa3 (S212_4step 0) ((v:Int),acc,(k:Int))=some (bs++acc)/\bs.length=j/\((bs.map aay).flatMap λb=>hex2 b.toNat)=hexN (2*j) v:=by
  intro j;induction j with
  | zero=>
   intro k v acc M I O;have:k=8:=by omega
   subst this;exact ⟨[],aai (h _ _),rfl,rfl⟩
  | succ j ih=>
   intro k v acc M I O;obtain ⟨bs,z,H,o⟩:=ih (k+1) (v / 256) (PV.int ((v%256:Nat):Int)::acc) (by omega) (by simp [I]) (by omega);refine ⟨bs++[PV.int ((v%256:Nat):Int)],?_,by simp [H],?_⟩
   ·grind [aao]
   ·rw [List.map_append,List.flatMap_append,o,show 2*(j+1)=2*j+2 by omega,a8n];congr 1;have hb:(aay (PV.int ((v%256:Nat):Int))).toNat=v%256:=by
     show (UInt8.ofNat (((v%256:Nat):Int)).toNat).toNat=_;rw [Ai,UInt8.toNat_ofNat'];omega
    grind [hex2,hexN]
 obtain ⟨bs,z,H,o⟩:=J 8 0 u [] (by omega) rfl hu;unfold F212;rw [aec,show (0:Int)=((0:Nat):Int) from rfl,z,Aa,List.append_nil,aox _ (by grind),o];rfl
def ah9 (v:PV):Bo:=
 bif ad8 (aa5 v) v then
  (bif aa5 v==6 then ajg (ab4 v).toNat else bif aa5 v==8 then [120]++aor ((acs v).flatMap λb=>hex2 b.toNat) else asm v)
 else []
theorem bet {v:PV} (h:ad8 (aa5 v) v=false):asm v=[]:=by grind [asm]
theorem aig {v:PV} (h:ad8 (aa5 v) v=true) (o:aa5 v=8):(acs v).length<=4096:=by unfold ad8 at h;grind
theorem bao (v:PV) (hs:ac7 v):F203 0 v=some (ah9 v):=by
 obtain ⟨H,I,h,o⟩:=hs;by_cases J:aa5 v=6
 ·obtain ⟨u,hu⟩:∃ u:Nat,ab4 v=(u:Int):=⟨(ab4 v).toNat,(Int.toNat_of_nonneg h).symm⟩;have z:(v.fld 0).asInt=aa5 v:=rfl;have O:(v.fld 1).asInt=ab4 v:=rfl;unfold F203 ah9;simp only [z,O,am0 _ _ ⟨H,I,h,o⟩,Aa,hu,a2m u (by omega),J,Ai];grind
 ·by_cases h8:aa5 v=8
  ·have z:(v.fld 0).asInt=aa5 v:=rfl;have Z:(v.fld 2).asStr=acs v:=rfl;unfold F203 ah9;simp only [z,Z,am0 _ _ ⟨H,I,h,o⟩,Aa];cases M:ad8 (aa5 v) v with
   | false=>rfl
   | true=>grind [aig,agk,acs,hex2,am1,decide,aor,aam,alh,bdv,asa]
  ·rw [bc2 v ⟨H,I,h,o⟩ J h8];unfold ah9;cases M:ad8 (aa5 v) v with
   | false=>rw [bet M];rfl
   | true=>grind
theorem axb (v:PV) (hs:ac7 v):F198 0 v=some (ah9 v):=by
 obtain ⟨I,J,h,o⟩:=hs;by_cases M:aa5 v=6
 ·obtain ⟨u,hu⟩:∃ u:Nat,ab4 v=(u:Int):=⟨(ab4 v).toNat,(Int.toNat_of_nonneg h).symm⟩;have z:(v.fld 0).asInt=aa5 v:=rfl;have Z:(v.fld 1).asInt=ab4 v:=rfl;have H:decide ((u:Int)>=(9223372036854775808:Int))=decide (9223372036854775808<=u):=by grind
  have g:decide (([48,120]:Bo).length+(hexN 16 u).length<=aam)=true:=alh (by grind [arl]);unfold F198 ah9 ajg;simp only [z,Z,ad0 _ _ ⟨I,J,h,o⟩,Aa,hu,aow u,a3i u (by omega),M,Ai,H,g];grind
 ·by_cases h8:aa5 v=8
  ·have z:(v.fld 0).asInt=aa5 v:=rfl;have e2:(v.fld 2).asStr=acs v:=rfl;unfold F198 ah9;simp only [z,e2,ad0 _ _ ⟨I,J,h,o⟩,Aa];cases O:ad8 (aa5 v) v with
   | false=>rfl
   | true=>grind [aig,agk,acs,hex2,am1,decide,aor,aam,alh,aox,ajp]
  ·rw [a0x v ⟨I,J,h,o⟩ M h8];unfold ah9;cases O:ad8 (aa5 v) v with
   | false=>rw [bet O];rfl
   | true=>grind
theorem a6n (v:PV) (H:(acs v).length<=1048576):(ah9 v).length<=4194400:=by
 have I:=a6m v H;have J:(ajg (ab4 v).toNat).length<=20:=by grind [ajg,arl,ab4,ai5,decide]
 unfold ah9;cases o:ad8 (aa5 v) v with
 | false=>simp
 | true=>
  simp only [Af];cases aa5 v==6 with
  | true=>grind
  | false=>
   simp only [Ah];cases h:aa5 v==8 with
   | false=>grind
   | true=>have M:=aig o (by simpa using h);have z:=agk ((acs v).flatMap λb=>hex2 b.toNat);rw [am1] at z;grind
end Go.Ab
