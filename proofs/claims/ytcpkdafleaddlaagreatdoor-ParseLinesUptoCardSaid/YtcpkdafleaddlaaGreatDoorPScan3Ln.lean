/- The scanner on texts that are written token by token: texts, the loop. -/
import Derived.Test.YtcpkdafleaddlaaGreatDoorPUtfLn
import Derived.Test.YtcpkdafleaddlaaGreatDoorAbEqL
import Derived.Test.YtcpkdafleaddlaaGreatDoorGenLn
import Derived.Test.YtcpkdafleaddlaaGreatDoorAbPlain
set_option linter.unusedVariables false
set_option linter.unusedSimpArgs false
set_option linter.unnecessarySimpa false
namespace Go.Ab
open Go
set_option maxRecDepth 100000
theorem value_all:((List.range 16).all fun h=>(F305 0 ((hexd h).toNat:Int))==some (h:Int))=true:=by kernel_rfl
theorem value_eq {h:Nat} (hh:h<16):F305 0 ((hexd h).toNat:Int)=some (h:Int):=by
 have:=List.all_eq_true.1 value_all h (List.mem_range.2 hh)
 simpa using this
theorem or_all:((List.range 256).all fun b=>IntKind.wrap .u8 (bitsI .or .i64 (IntKind.wrap .i64 (((b / 16:Nat):Int)*2^(min (4:Int).toNat (IntKind.bits .i64)))) ((b%16:Nat):Int))==(b:Int))=true:=by kernel_rfl
theorem or_eq {b:Nat} (h:b<256):IntKind.wrap .u8 (bitsI .or .i64 (IntKind.wrap .i64 (((b / 16:Nat):Int)*2^(min (4:Int).toNat (IntKind.bits .i64)))) ((b%16:Nat):Int))=(b:Int):=by
 have:=List.all_eq_true.1 or_all b (List.mem_range.2 h)
 simpa using this
theorem esc2 {src:List UInt8} {i:Nat} {e:UInt8} {q:List UInt8} (hl:src.length≤1048576) (h:src.drop i=92::e::q) {v:Int} (hv:F304 0 ((e.toNat:Nat):Int)=some (v,true)):F237 0 src (i:Int)=some (v,2):=by
 obtain ⟨h1,_,h2⟩:=drop_at 0 h
 obtain ⟨h3,h4,_⟩:=drop_at 0 h2
 have w1:IntKind.wrap .i64 ((i:Int)+1)=((i+1:Nat):Int):=wadd' (by omega)
 have d1:decide (((i+1:Nat):Int)≥(src.length:Int))=false:=decide_eq_false (by omega)
 have d2:inRange ((i+1:Nat):Int) src.length=true:=by rw [inRange_nat];exact decide_eq_true h3
 unfold F237
 simp only [w1,d1,d2,cond_true,cond_false,Int.toNat_natCast,h4,hv,Option.bind_some]
theorem escX {src:List UInt8} {i:Nat} {b:UInt8} {q:List UInt8} (hl:src.length≤1048576) (h:src.drop i=92::120::(hex2 b.toNat++q)):F237 0 src (i:Int)=some ((b.toNat:Int),4):=by
 have h:src.drop i=92::120::hexd (b.toNat / 16)::hexd (b.toNat%16)::q:=h
 have hb:=b.toNat_lt
 obtain ⟨h1,_,h2⟩:=drop_at 0 h
 obtain ⟨h3,h4,h5⟩:=drop_at 0 h2
 obtain ⟨h6,h7,h8⟩:=drop_at 0 h5
 obtain ⟨h9,h10,_⟩:=drop_at 0 h8
 have w1:IntKind.wrap .i64 ((i:Int)+1)=((i+1:Nat):Int):=wadd' (by omega)
 have w2:IntKind.wrap .i64 ((i:Int)+2)=((i+1+1:Nat):Int):=by rw [wrap64 (by omega) (by omega)];omega
 have w3:IntKind.wrap .i64 ((i:Int)+3)=((i+1+1+1:Nat):Int):=by rw [wrap64 (by omega) (by omega)];omega
 have d1:decide (((i+1:Nat):Int)≥(src.length:Int))=false:=decide_eq_false (by omega)
 have d3:decide (((i+1+1+1:Nat):Int)≥(src.length:Int))=false:=decide_eq_false (by omega)
 have r1:inRange ((i+1:Nat):Int) src.length=true:=by rw [inRange_nat];exact decide_eq_true h3
 have r2:inRange ((i+1+1:Nat):Int) src.length=true:=by rw [inRange_nat];exact decide_eq_true h6
 have r3:inRange ((i+1+1+1:Nat):Int) src.length=true:=by rw [inRange_nat];exact decide_eq_true h9
 have hp:F304 0 (((120:UInt8).toNat:Nat):Int)=some (0,false):=rfl
 have hx:((((120:UInt8).toNat:Nat):Int) != (120:Int))=false:=rfl
 have v1:=value_eq (h:=b.toNat / 16) (by omega)
 have v2:=value_eq (h:=b.toNat%16) (by omega)
 have n1:decide (((b.toNat / 16:Nat):Int)<0)=false:=decide_eq_false (by omega)
 have n2:decide (((b.toNat%16:Nat):Int)<0)=false:=decide_eq_false (by omega)
 unfold F237
 simp only [w1,w2,w3,d1,d3,r1,r2,r3,cond_true,cond_false,Int.toNat_natCast,h4,h7,h10,hp,hx,v1,v2,n1,n2,imp,Bool.not_false,Bool.true_or,cond_same,Option.bind_some,or_eq hb]
theorem unq_step {src:List UInt8} (hl:src.length≤1048576) {i:Nat} {acc:List PV} (ha:acc.length≤i) {b:UInt8} {c q:List UInt8} (hc:codeOk b c) (h:src.drop i=c++q):S131_6step 0 (src,acc,(i:Int))=some (.inl (src,acc++[PV.int (b.toNat:Int)],((i+c.length:Nat):Int))):=by
 have ne:c≠[]:=by
  rcases hc with ⟨rfl,_⟩ | ⟨_,rfl⟩ | ⟨_,rfl⟩ | ⟨_,rfl⟩ | ⟨_,rfl⟩ | ⟨_,rfl⟩ | rfl<;>simp
 have hi:i<src.length:=by
  have:=congrArg List.length h
  rw [List.length_drop,List.length_append] at this
  have:0<c.length:=List.length_pos_iff.2 ne
  omega
 have e1:decide ((i:Int)<(src.length:Int))=true:=decide_eq_true (by omega)
 have e2:inRange (i:Int) src.length=true:=by rw [inRange_nat];exact decide_eq_true hi
 have ea:∀ x:PV,decide (acc.length+[x].length≤accMax)=true:=fun x=>decide_eq_true (by simp only [List.length_cons,List.length_nil];unfold accMax;omega)
 have esc:∀ (e:UInt8) (r:List UInt8) (v:Int),src.drop i=92::e::r→F237 0 src (i:Int)=some (v,2)→S131_6step 0 (src,acc,(i:Int))=some (.inl (src,acc++[PV.int v],((i+2:Nat):Int))):=fun e r v hd hv=>by
  obtain ⟨_,h4,_⟩:=drop_at 0 hd
  have w:IntKind.wrap .i64 ((i:Int)+2)=((i+2:Nat):Int):=by rw [wrap64 (by omega) (by omega)];omega
  simp only [S131_6step,S131_6,e1,e2,ea,h4,hv,w,imp,cond_true,cond_false,Bool.not_true,Bool.true_or,cond_same,Option.bind_some,Int.toNat_natCast]
  rfl
 rcases hc with ⟨rfl,b1,b2⟩ | ⟨rfl,rfl⟩ | ⟨rfl,rfl⟩ | ⟨rfl,rfl⟩ | ⟨rfl,rfl⟩ | ⟨rfl,rfl⟩ | rfl
 ·obtain ⟨_,h4,_⟩:=drop_at 0 (show src.drop i=b::q from h)
  have w:IntKind.wrap .i64 ((i:Int)+1)=((i+1:Nat):Int):=wadd' (by omega)
  have g1:((b.toNat:Int) != (34:Int))=true:=by
   show (!((b.toNat:Int)==(34:Int)))=true
   rw [bqI (c:=b) (k:=34) (n:=34) rfl,beq_eq_false_iff_ne.2 b1];rfl
  have g2:((b.toNat:Int)==(92:Int))=false:=by rw [bqI (c:=b) (k:=92) (n:=92) rfl];exact beq_eq_false_iff_ne.2 b2
  simp only [S131_6step,S131_6,e1,e2,ea,h4,w,g1,g2,imp,cond_true,cond_false,Bool.not_true,Bool.true_or,cond_same,Option.bind_some,Int.toNat_natCast]
  rfl
 ·exact esc _ _ _ h (esc2 hl h rfl)
 ·exact esc _ _ _ h (esc2 hl h rfl)
 ·exact esc _ _ _ h (esc2 hl h rfl)
 ·exact esc _ _ _ h (esc2 hl h rfl)
 ·exact esc _ _ _ h (esc2 hl h rfl)
 ·have hv:=escX (b:=b) (q:=q) hl h
  obtain ⟨_,h4,_⟩:=drop_at 0 (show src.drop i=92::(120::(hex2 b.toNat++q)) from h)
  have w:IntKind.wrap .i64 ((i:Int)+4)=((i+4:Nat):Int):=by rw [wrap64 (by omega) (by omega)];omega
  simp only [S131_6step,S131_6,e1,e2,ea,h4,hv,w,imp,cond_true,cond_false,Bool.not_true,Bool.true_or,cond_same,Option.bind_some,Int.toNat_natCast]
  rfl
theorem unq_loop {src:List UInt8} (hl:src.length≤1048576) {a x:List UInt8} (hc:Codes a x):∀ (i:Nat) (acc:List PV) (s:List UInt8),src.drop i=x++34::s→acc.length≤i→loopW (S131_6step 0) (src,acc,(i:Int))=some (.inr (src,acc++a.map (fun c=>PV.int (c.toNat:Int)),((i+x.length:Nat):Int))):=by
 induction hc with
 | nil=>
  intro i acc s h ha
  obtain ⟨hi,h4,_⟩:=drop_at 0 (show src.drop i=34::s from h)
  have e1:decide ((i:Int)<(src.length:Int))=true:=decide_eq_true (by omega)
  have e2:inRange (i:Int) src.length=true:=by rw [inRange_nat];exact decide_eq_true hi
  have g1:((((34:UInt8).toNat:Nat):Int) != (34:Int))=false:=rfl
  refine (loopW_end (y:=.inr (src,acc,(i:Int))) ?_).trans (by simp)
  simp only [S131_6step,S131_6,e1,e2,h4,g1,imp,cond_true,cond_false,Bool.not_true,Bool.true_or,cond_same,Option.bind_some,Int.toNat_natCast]
 | @cons b c r q hb hr ih=>
  intro i acc s h ha
  rw [List.append_assoc] at h
  have st:=unq_step hl ha hb h
  have hn:src.drop (i+c.length)=q++34::s:=by
   rw [←List.drop_drop,h,List.drop_left]
  have hp:0<c.length:=by
   rcases hb with ⟨rfl,_⟩ | ⟨_,rfl⟩ | ⟨_,rfl⟩ | ⟨_,rfl⟩ | ⟨_,rfl⟩ | ⟨_,rfl⟩ | rfl<;>simp
  rw [loopW_go st,ih (i+c.length) _ s hn (by simp;omega)]
  simp [Nat.add_assoc]
theorem unquote_eq {a:List UInt8} (ha:a.length≤1048576) (s:List UInt8) (hl:(quote a++s).length≤1048576):F131 0 (quote a++s)=some (a,(((quote a).length:Nat):Int),0):=by
 have hq:quote a=34::(quoteFrom a 0++[34]):=by unfold quote;rfl
 have hlen:(quote a).length=(quoteFrom a 0).length+2:=by rw [hq];simp
 have hc:=quote_codes a a.length 0 (by omega)
 rw [List.drop_zero] at hc
 have hd:(quote a++s).drop 1=quoteFrom a 0++34::s:=by rw [hq];simp
 have lp:loopW (S131_6step 0) (quote a++s,[],(1:Int))=some (.inr (quote a++s,[]++a.map (fun c:UInt8=>PV.int (c.toNat:Int)),((1+(quoteFrom a 0).length:Nat):Int))):=unq_loop hl hc 1 [] s hd (by simp)
 have hall:(quote a++s).length=(quoteFrom a 0).length+2+s.length:=by rw [List.length_append,hlen]
 have e0:((quote a++s)==([]:List UInt8))=false:=by rw [hq];rfl
 have e1:inRange (0:Int) (quote a++s).length=true:=by rw [hq,List.cons_append,in0]
 have e2:((((quote a++s).getD (0:Int).toNat 0).toNat:Int) != (34:Int))=false:=by rw [hq];rfl
 have e3:([]++a.map (fun c:UInt8=>PV.int (c.toNat:Int))).map byteOfPV=a:=by
  rw [List.nil_append,List.map_map]
  refine (List.map_congr_left (g:=id) (fun x _=>byte_back x)).trans (List.map_id _)
 have e4:decide (((1+(quoteFrom a 0).length:Nat):Int)≥((quote a++s).length:Int))=false:=decide_eq_false (by omega)
 have w:IntKind.wrap .i64 (((1+(quoteFrom a 0).length:Nat):Int)+1)=(((quote a).length:Nat):Int):=by rw [wadd' (by omega),hlen];congr 1;omega
 have e5:decide (0≤(0:Int)∧(0:Int)≤(((quote a).length:Nat):Int)∧(((quote a).length:Nat):Int)≤((quote a++s).length:Int))=true:=decide_eq_true (by omega)
 have e6:((quote a++s).take (((quote a).length:Nat):Int).toNat).drop (0:Int).toNat=quote a:=by
  rw [Int.toNat_natCast,List.take_left];rfl
 unfold F131
 rw [loopQ0,lp]
 simp only [e0,e1,e2,imp,Bool.not_false,Bool.true_or,cond_same,cond_true,cond_false,Option.bind_some,sumE_inr,e3,e4,quote_eq a ha,w,e5,e6,beq_self_eq_true,Bool.not_true]
end Go.Ab
namespace Go.Ab
open Go
set_option maxRecDepth 100000
end Go.Ab
namespace Go.Ab
open Go
set_option maxRecDepth 100000
theorem num_loop (s:List UInt8) (neg:Bool) (V:Nat) (hV:V<18446744073709551616) (hd:∀ c,c∈s→isDig c) (hl:s.length≤1048576):∀ (m i acc:Nat),s.length-i≤m→i≤s.length→valD acc (s.drop i)=V→
 loopW (S365_9step 0) (s,neg,(acc:Int),false,(i:Int))=some (.inr (neg,(V:Int),false)):=by
 intro m
 induction m with
 | zero=>
  intro i acc hm hi hv
  have hlt:¬i<s.length:=by omega
  rw [List.drop_eq_nil_of_le (by omega)] at hv
  have e:acc=V:=hv
  subst e
  exact loopW_end (by simp only [S365_9step,S365_9,declt,hlt,decide_false,cond_false])
 | succ m ih=>
  intro i acc hm hi hv
  by_cases hlt:i<s.length
  ·rw [drop_cons hlt 0] at hv
   have hc:isDig (s.getD i 0):=hd _ (by rw [getD_of_lt hlt];exact List.getElem_mem _)
   generalize hx:s.getD i 0=c at hv hc
   have hv':valD (acc*10+(c.toNat-48)) (s.drop (i+1))=V:=hv
   have hs:acc*10+(c.toNat-48)≤V:=by rw [←hv'];exact valD_ge _ _
   unfold isDig at hc
   obtain ⟨d,hdd⟩:∃ d:Nat,c.toNat=48+d:=⟨c.toNat-48,by omega⟩
   rw [←ih (i+1) (acc*10+(c.toNat-48)) (by omega) (by omega) hv']
   rw [hdd] at hs hc ⊢
   have d1:decide (((48+d:Nat):Int)<(48:Int))=false:=decide_eq_false (by omega)
   have d2:decide (((48+d:Nat):Int)>(57:Int))=false:=decide_eq_false (by omega)
   have w1:IntKind.wrap .u64 (IntKind.wrap .u8 (((48+d:Nat):Int)-(48:Int)))=(d:Int):=by rw [IntKind.wrap_u8,IntKind.wrap_u64];omega
   have w2:IntKind.wrap .u64 ((18446744073709551615:Int)-(d:Int))=((18446744073709551615-d:Nat):Int):=by rw [IntKind.wrap_u64];omega
   have w3:IntKind.wrap .u64 (((18446744073709551615-d:Nat):Int).tdiv (10:Int))=(((18446744073709551615-d) / 10:Nat):Int):=by
    rw [show ((18446744073709551615-d:Nat):Int).tdiv (10:Int)=(((18446744073709551615-d) / 10:Nat):Int) from rfl,IntKind.wrap_u64];omega
   have d3:decide ((acc:Int)>(((18446744073709551615-d) / 10:Nat):Int))=false:=decide_eq_false (by omega)
   have w4:IntKind.wrap .u64 ((10:Int)*(acc:Int))=((10*acc:Nat):Int):=by rw [IntKind.wrap_u64];omega
   have w5:IntKind.wrap .u64 (((10*acc:Nat):Int)+(d:Int))=((acc*10+(48+d-48):Nat):Int):=by rw [IntKind.wrap_u64];omega
   refine loopW_go ?_
   simp only [S365_9step,S365_9,declt,inRange_nat,hlt,decide_true,cond_true,Int.toNat_natCast,hx,hdd,d1,d2,d3,w1,w2,w3,w4,w5,imp,Bool.not_false,cond_false,wadd1 (i:=i) (by omega)]
  ·have e:acc=V:=by rw [List.drop_eq_nil_of_le (by omega)] at hv;exact hv
   subst e
   exact loopW_end (by simp only [S365_9step,S365_9,declt,hlt,decide_false,cond_false])
theorem dec_len (u:Nat) (hu:u<18446744073709551616):(Lib.decDigits u).length≤20:=by
 rw [←decB_eq (by omega)];exact decB_len u
theorem num_dec (u:Nat) (hu:u<18446744073709551616):F365 0 (Lib.decDigits u)=some ((u:Int),false,0):=by
 obtain ⟨h1,h2,h3,h4⟩:=dec_facts u
 have hlen:=dec_len u hu
 have hloop:=num_loop (Lib.decDigits u) false u hu h1 (by omega) (Lib.decDigits u).length 0 0 (by omega) (by omega) (by rw [List.drop_zero];exact h2)
 have hz:u=0→Lib.decDigits u=[48]:=fun h=>by subst h;rw [Lib.decDigits];rfl
 generalize Lib.decDigits u=s at*
 match s,h3 with
 | c::r,_=>
  have hc:=h1 c (by simp)
  unfold isDig at hc
  have k45:((c.toNat:Int)==(45:Int))=false:=by simp;omega
  have hp:decide (((c::r).length:Int)>(0:Int))=true:=decide_eq_true (by simp)
  have hi:inRange (0:Int) (c::r).length=true:=by rw [show (0:Int)=((0:Nat):Int) from rfl,inRange_nat];exact decide_eq_true (by simp)
  have hg:((c::r).getD (0:Int).toNat 0)=c:=rfl
  have hn:((c::r)==([]:List UInt8))=false:=rfl
  have ht:(bif ((c.toNat:Int)==(48:Int)) then (!((c::r)==([48]:List UInt8))) else false)=false:=by
   by_cases h0:u=0
   ·rw [hz h0];simp
   ·have:=h4 h0 c rfl
    have:((c.toNat:Int)==(48:Int))=false:=by simp;omega
    rw [this];rfl
  rw [show ((0:Nat):Int)=(0:Int) from rfl] at hloop
  unfold F365
  simp only [hp,imp,hi,cond_true,hg,k45,cond_false,hn,Bool.not_false,ht,loopQ0,hloop,Option.bind_some,sumE_inr]
theorem num_neg (u:Nat) (hu:u<18446744073709551616):F365 0 (45::Lib.decDigits u)=some (if u=0 then (0,false,2) else ((u:Int),true,0)):=by
 obtain ⟨h1,h2,h3,h4⟩:=dec_facts u
 have hlen:=dec_len u hu
 have hloop:=num_loop (Lib.decDigits u) true u hu h1 (by omega) (Lib.decDigits u).length 0 0 (by omega) (by omega) (by rw [List.drop_zero];exact h2)
 have hz:u=0→Lib.decDigits u=[48]:=fun h=>by subst h;rw [Lib.decDigits];rfl
 generalize Lib.decDigits u=s at*
 match s,h3 with
 | c::r,_=>
  have hc:=h1 c (by simp)
  unfold isDig at hc
  have k45:(((45:UInt8).toNat:Int)==(45:Int))=true:=rfl
  have hp:decide (((45::c::r).length:Int)>(0:Int))=true:=decide_eq_true (by simp;omega)
  have hi:inRange (0:Int) (45::c::r).length=true:=by rw [show (0:Int)=((0:Nat):Int) from rfl,inRange_nat];exact decide_eq_true (by simp)
  have hi2:inRange (0:Int) (c::r).length=true:=by rw [show (0:Int)=((0:Nat):Int) from rfl,inRange_nat];exact decide_eq_true (by simp)
  have hg:((45::c::r).getD (0:Int).toNat 0)=45:=rfl
  have hg2:((c::r).getD (0:Int).toNat 0)=c:=rfl
  have hsl:decide ((0:Int)≤(1:Int)∧(1:Int)≤((45::c::r).length:Int)∧((45::c::r).length:Int)≤((45::c::r).length:Int))=true:=decide_eq_true (by simp;omega)
  have htk:((45::c::r).take ((45::c::r).length:Int).toNat).drop (1:Int).toNat=c::r:=by rw [Int.toNat_natCast,List.take_length];rfl
  have hn:((c::r)==([]:List UInt8))=false:=rfl
  have hne:((45::c::r)==([48]:List UInt8))=false:=rfl
  rw [show ((0:Nat):Int)=(0:Int) from rfl] at hloop
  by_cases h0:u=0
  ·have hcc:c=48:=by have:=hz h0;simp at this;exact this.1
   have ht:((c.toNat:Int)==(48:Int))=true:=by rw [hcc];rfl
   unfold F365
   simp only [hp,imp,hi,hi2,cond_true,hg,hg2,k45,hsl,htk,hn,Bool.not_false,cond_false,ht,hne,h0,if_true]
  ·have:=h4 h0 c rfl
   have ht:((c.toNat:Int)==(48:Int))=false:=by simp;omega
   unfold F365
   simp only [hp,imp,hi,hi2,cond_true,hg,hg2,k45,hsl,htk,hn,Bool.not_false,cond_false,ht,loopQ0,hloop,Option.bind_some,sumE_inr,h0,if_false]
end Go.Ab
namespace Go.Ab
open Go
set_option maxRecDepth 100000
def zeroV:PV:=PV.agg [(PV.int (0:Int)),(PV.int (0:Int)),(PV.str ([]:List UInt8)),(PV.slice []),(PV.slice []),(PV.slice []),(PV.slice [])]
def mkV (k b:Int):PV:=PV.agg [(PV.int k),(PV.int b),(PV.str ([]:List UInt8)),(PV.slice []),(PV.slice []),(PV.slice []),(PV.slice [])]
def signed (neg:Bool) (l:List UInt8):List UInt8:=if neg=true then 45::l else l
theorem mkV_small (k:Int) {b:Int} (h0:0≤b) (h1:b<18446744073709551616):smallV (mkV k b):=⟨Nat.zero_le _,Nat.zero_le _,h0,h1⟩
theorem refNumber_eq (neg:Bool) (u:Nat) (hu:u<18446744073709551616):F365 0 (signed neg (Lib.decDigits u))=some (if neg=true∧u=0 then (0,false,2) else ((u:Int),neg,0)):=by
 cases neg with
 | false=>simp only [signed,Bool.false_eq_true,if_false,false_and];exact num_dec u hu
 | true=>simp only [signed,if_true,true_and];exact num_neg u hu
end Go.Ab
namespace Go.Ab
open Go
set_option maxRecDepth 100000
theorem trim_neg (l:List UInt8):F141 0 (45::l) [45]=some l:=by
 unfold F141 F245 F297
 have h1:decide (((45::l:List UInt8).length:Int)≥(([45]:List UInt8).length:Int))=true:=decide_eq_true (by simp;omega)
 have h2:decide ((0:Int)≤0∧(0:Int)≤(([45]:List UInt8).length:Int)∧(([45]:List UInt8).length:Int)≤((45::l:List UInt8).length:Int))=true:=decide_eq_true (by simp;omega)
 have h3:decide ((0:Int)≤(([45]:List UInt8).length:Int)∧(([45]:List UInt8).length:Int)≤((45::l:List UInt8).length:Int)∧((45::l:List UInt8).length:Int)≤((45::l:List UInt8).length:Int))=true:=decide_eq_true (by simp;omega)
 have h4:(((45::l:List UInt8).take ((([45]:List UInt8).length:Int)).toNat).drop (0:Int).toNat==([45]:List UInt8))=true:=by
  simp
 have h5:((45::l:List UInt8).take ((45::l:List UInt8).length:Int).toNat).drop ((([45]:List UInt8).length:Int)).toNat=l:=by
  rw [show (((45::l:List UInt8).length:Int)).toNat=(45::l:List UInt8).length from Int.toNat_natCast _,List.take_length];rfl
 simp only [h1,h2,h3,h4,h5,imp,cond_true,Option.bind_some]
theorem trim_pos (c:UInt8) (l:List UInt8) (hc:c≠45):F141 0 (c::l) [45]=some (c::l):=by
 unfold F141 F245 F297
 have h1:decide (((c::l:List UInt8).length:Int)≥(([45]:List UInt8).length:Int))=true:=decide_eq_true (by simp;omega)
 have h2:decide ((0:Int)≤0∧(0:Int)≤(([45]:List UInt8).length:Int)∧(([45]:List UInt8).length:Int)≤((c::l:List UInt8).length:Int))=true:=decide_eq_true (by simp;omega)
 have h4:(((c::l:List UInt8).take ((([45]:List UInt8).length:Int)).toNat).drop (0:Int).toNat==([45]:List UInt8))=false:=by
  simp [hc]
 simp only [h1,h2,h4,imp,cond_true,cond_false,Option.bind_some]
theorem dec_loop (s:List UInt8) (hd:∀ c,c∈s→isDig c) (hl:s.length≤1048576):∀ (m i:Nat),s.length-i≤m→i≤s.length→
 loopW (S357_6step 0) (s,(s.length:Int),(i:Int))=some (.inr ()):=by
 intro m
 induction m with
 | zero=>
  intro i hm hi
  have hlt:¬i<s.length:=by omega
  exact loopW_end (by simp only [S357_6step,S357_6,declt,hlt,decide_false,cond_false])
 | succ m ih=>
  intro i hm hi
  by_cases hlt:i<s.length
  ·have hc:isDig (s.getD i 0):=hd _ (by rw [getD_of_lt hlt];exact List.getElem_mem _)
   generalize hx:s.getD i 0=c at hc
   unfold isDig at hc
   have d1:decide ((c.toNat:Int)<(48:Int))=false:=decide_eq_false (by omega)
   have d2:decide ((c.toNat:Int)>(57:Int))=false:=decide_eq_false (by omega)
   rw [loopW_go (x1:=(s,(s.length:Int),((i+1:Nat):Int))),ih (i+1) (by omega) (by omega)]
   simp only [S357_6step,S357_6,declt,inRange_nat,hlt,decide_true,cond_true,Int.toNat_natCast,hx,d1,d2,imp,Bool.not_false,cond_false,wadd1 (i:=i) (by omega)]
  ·exact loopW_end (by simp only [S357_6step,S357_6,declt,hlt,decide_false,cond_false])
theorem decimal_ok (neg:Bool) (u:Nat) (hu:u<18446744073709551616):F357 0 (signed neg (Lib.decDigits u))=some (!(neg&&decide (u=0))):=by
 obtain ⟨h1,h2,h3,h4⟩:=dec_facts u
 have hlen:=dec_len u hu
 have hloop:=dec_loop (Lib.decDigits u) h1 (by omega) (Lib.decDigits u).length 0 (by omega) (by omega)
 have hz:u=0→Lib.decDigits u=[48]:=fun h=>by subst h;rw [Lib.decDigits];rfl
 generalize Lib.decDigits u=s at*
 match s,h3 with
 | c::r,_=>
  have hc:=h1 c (by simp)
  unfold isDig at hc
  have hne:c≠45:=fun h=>by subst h;simp at hc
  have hi:inRange (0:Int) (c::r).length=true:=by rw [show (0:Int)=((0:Nat):Int) from rfl,inRange_nat];exact decide_eq_true (by simp)
  have hg:((c::r).getD (0:Int).toNat 0)=c:=rfl
  have hn:((c::r)==([]:List UInt8))=false:=rfl
  rw [show ((0:Nat):Int)=(0:Int) from rfl] at hloop
  have ht:F141 0 (signed neg (c::r)) [45]=some (c::r):=by
   cases neg with
   | true=>exact trim_neg _
   | false=>exact trim_pos c r hne
  unfold F357
  rw [ht]
  by_cases h0:u=0
  ·have hz:=hz h0
   simp at hz
   obtain ⟨rfl,rfl⟩:=hz
   cases neg with
   | true=>simp only [signed,if_true,Option.bind_some];rw [h0];rfl
   | false=>
    have e48:((([48]:List UInt8))==[48])=true:=rfl
    simp only [signed,Bool.false_eq_true,if_false,Option.bind_some,hn,hi,imp,Bool.not_false,cond_true,cond_false,hg,e48,Bool.not_true,cond_same,loopQ0,hloop,sumE_inr,Bool.false_and]
  ·have:=h4 h0 c rfl
   have hk:((c.toNat:Int)==(48:Int))=false:=by simp;omega
   simp only [Option.bind_some,hn,hi,imp,Bool.not_false,cond_true,cond_false,hg,hk,loopQ0,hloop,sumE_inr,h0,decide_false,Bool.and_false]
theorem signed_len (neg:Bool) (u:Nat) (hu:u<18446744073709551616):(signed neg (Lib.decDigits u)).length≤21:=by
 have:=dec_len u hu
 unfold signed
 split
 ·simp;omega
 ·omega
theorem lparseInt_ok (s:List UInt8) (hs:s.length≤1048576):LparseInt 0 s 10 64=some (intRes s (Lib.parseIntB 64 s)):=by
 unfold LparseInt
 have:Nat.ble s.length 281474976710656=true:=Nat.ble_eq_true_of_le (by omega)
 simp [this]
theorem lparseUint_ok (s:List UInt8) (hs:s.length≤1048576):LparseUint 0 s 10 64=some (uintRes (Lib.parseUintB 64 s)):=by
 unfold LparseUint
 have:Nat.ble s.length 281474976710656=true:=Nat.ble_eq_true_of_le (by omega)
 simp [this]
end Go.Ab
namespace Go.Ab
open Go
end Go.Ab
namespace Go.Ab
open Go
set_option maxRecDepth 100000
def tKind (t:PV):Int:=(t.fld 0).asInt
def tText (t:PV):List UInt8:=(t.fld 1).asStr
def sgn (t:List PV) (i:Nat) (s:List UInt8):Bool:=decide (i<t.length)&&((tKind (t.getD i .bad)==4)&&(tText (t.getD i .bad)==s))
theorem is_nat (t:List PV) (i:Nat) (s:List UInt8):F77 0 t (i:Int) s=some (sgn t i s):=by
 unfold F77 sgn
 have h0:decide ((i:Int)≥0)=true:=decide_eq_true (by omega)
 have e0:((t.getD i .bad).fld 0).asInt=tKind (t.getD i .bad):=rfl
 have e1:((t.getD i .bad).fld 1).asStr=tText (t.getD i .bad):=rfl
 by_cases hlt:i<t.length
 ·simp only [h0,declt,hlt,decide_true,cond_true,imp,inRange_nat,Int.toNat_natCast,e0,e1,Bool.true_and]
  cases (tKind (t.getD i .bad)==4)<;>simp
 ·simp only [h0,declt,hlt,decide_false,cond_true,cond_false,imp,Bool.not_false,Bool.false_and,cond_same]
theorem kindAt_nat (t:List PV) (i:Nat):F158 0 t (i:Int)=some (if i<t.length then tKind (t.getD i .bad) else 0):=by
 unfold F158
 have h0:decide ((i:Int)<0)=false:=decide_eq_false (by omega)
 have e0:((t.getD i .bad).fld 0).asInt=tKind (t.getD i .bad):=rfl
 by_cases hlt:i<t.length
 ·have h1:decide ((i:Int)≥(t.length:Int))=false:=decide_eq_false (by omega)
  simp only [h0,h1,cond_false,inRange_nat,hlt,decide_true,cond_true,Int.toNat_natCast,e0,if_true]
 ·have h1:decide ((i:Int)≥(t.length:Int))=true:=decide_eq_true (by omega)
  simp only [h0,h1,cond_false,cond_true,hlt,if_false]
theorem u64nat (n:Int):∃ u:Nat,u<18446744073709551616∧IntKind.wrap .u64 n=(u:Int):=by
 refine ⟨(n%18446744073709551616).toNat,by omega,?_⟩
 rw [IntKind.wrap_u64];omega
theorem fmt_ok (u:Nat) (hu:u<18446744073709551616):F135 0 (u:Int) 10=some (Lib.decDigits u):=by
 have d0:decide ((0:Int)≤(u:Int))=true:=decide_eq_true (by omega)
 have d1:decide ((u:Int)≤18446744073709551615)=true:=decide_eq_true (by omega)
 have hf:Lfmt 0 (u:Int) (10:Int)=some (decB u):=by
  first
   | (unfold Lfmtu;simp [d0,d1])
   | (unfold Lfmt;rw [decide_eq_true rfl,cond_true];unfold Lfmtu;simp [d0,d1])
 unfold F135
 rw [hf,Option.bind_some,decB_eq (by omega)]
theorem kind_four {name:List UInt8} (h:kindOf name≠0):kindOf name=1∨kindOf name=7∨kindOf name=3∨kindOf name=4:=by
 by_cases hk:name∈knownNames
 ·simp only [knownNames,List.mem_cons,List.not_mem_nil,or_false] at hk
  have e:∀ k:Int,(k=1∨k=7∨k=3∨k=4)→some (kindOf name)=some k→kindOf name=1∨kindOf name=7∨kindOf name=3∨kindOf name=4:=fun k hk he=>by cases he;exact hk
  rcases hk with rfl | rfl | rfl | rfl | rfl | rfl | rfl | rfl | rfl | rfl | rfl | rfl | rfl
  ·exact e 1 (by decide) (by kernel_rfl)
  ·exact e 1 (by decide) (by kernel_rfl)
  ·exact e 1 (by decide) (by kernel_rfl)
  ·exact e 7 (by decide) (by kernel_rfl)
  ·exact e 7 (by decide) (by kernel_rfl)
  ·exact e 7 (by decide) (by kernel_rfl)
  ·exact e 7 (by decide) (by kernel_rfl)
  ·exact e 4 (by decide) (by kernel_rfl)
  ·exact e 4 (by decide) (by kernel_rfl)
  ·exact e 4 (by decide) (by kernel_rfl)
  ·exact e 4 (by decide) (by kernel_rfl)
  ·exact e 3 (by decide) (by kernel_rfl)
  ·exact e 3 (by decide) (by kernel_rfl)
 ·exact absurd (kindOf_unknown hk) h
end Go.Ab
namespace Go.Ab
open Go
set_option maxRecDepth 100000
noncomputable section
structure Tk where
 k:Int
 s:List UInt8
 n:Int
def tkOf (x:PV):Tk:=⟨(x.fld 0).asInt,(x.fld 1).asStr,(x.fld 2).asInt⟩
inductive Rs (α:Type) where
 | ok (v:α) (r:List Tk)
 | er (r:List Tk) (e:Int)
def Rs.bind {α β:Type} (x:Rs α) (f:α→List Tk→Rs β):Rs β:=match x with | .ok v r=>f v r | .er r e=>.er r e
theorem Rs.bind_ok {α β:Type} (v:α) (r:List Tk) (f:α→List Tk→Rs β):(Rs.ok v r).bind f=f v r:=rfl
theorem Rs.bind_er {α β:Type} (r:List Tk) (e:Int) (f:α→List Tk→Rs β):(Rs.er r e:Rs α).bind f=.er r e:=rfl
def isS (k:Int) (s:List UInt8):List Tk→Bool
 | []=>false
 | x::_=>x.k==k&&x.s==s
def kindS:List Tk→Int
 | []=>0
 | x::_=>x.k
def textS:List Tk→List UInt8
 | []=>[]
 | x::_=>x.s
def numS':List Tk→Int
 | []=>0
 | x::_=>x.n
def eatS (k:Int) (s:List UInt8) (ts:List Tk):Rs Unit:=bif isS k s ts then .ok () ts.tail else .er ts 2
def takeS (k:Int) (p:List UInt8→Bool) (ts:List Tk):Rs (List UInt8):=
 bif kindS ts==k then (bif p (textS ts) then .ok (textS ts) ts.tail else .er ts 8) else .er ts 2
def partS (ts:List Tk):Rs (List UInt8):=takeS 1 simpP ts
def joinP (outer s:List UInt8):List UInt8:=bif outer==[] then s else outer++[46]++s
def nameOk (outer s:List UInt8):Bool:=defP s&&(outer==[]||(partP s&&fullP (joinP outer s)))
def namedS (outer:List UInt8) (ts:List Tk):Rs (List UInt8):=(takeS 1 (nameOk outer) ts).bind fun s r=>.ok (joinP outer s) r
def typeTextS (ts:List Tk):Rs (List UInt8):=takeS 1 typeP ts
def wordK (w:List UInt8):Int:=
 bif w==[98,111,111,108] then 1 else bif w==[105,51,50] then 2 else bif w==[105,54,52] then 3 else bif w==[117,51,50] then 4 else bif w==[117,54,52] then 5 else bif w==[100,111,117,98,108,101] then 6 else bif w==[116,101,120,116] then 7 else bif w==[98,121,116,101,115] then 8 else 0
def tyOf (s:List UInt8):PV:=bif wordK s==0 then PV.agg [PV.int 0,PV.str s] else PV.agg [PV.int (wordK s),PV.str []]
def typS (ts:List Tk):Rs PV:=(typeTextS ts).bind fun s r=>.ok (tyOf s) r
def anyTextS (ts:List Tk):Rs (List UInt8):=takeS 3 (fun _=>true) ts
def numS (most:Int) (ts:List Tk):Rs Int:=
 bif kindS ts==2 then (bif decide (0≤numS' ts∧numS' ts≤most) then .ok (numS' ts) ts.tail else .er ts 6) else .er ts 2
def valS (pv:PV×Int) (back r:List Tk):Rs PV:=bif pv.2==0 then .ok pv.1 r else .er back pv.2
def itemVal (s:List UInt8):PV:=PV.agg [(PV.int 9),(PV.int 0),(PV.str s),(PV.slice []),(PV.slice []),(PV.slice []),(PV.slice [])]
def intS (pv:Int→List UInt8→PV×Int) (k:Int) (neg:Bool) (ts:List Tk):Rs PV:=
 bif kindS ts==2 then valS (pv k ((bif neg then [45] else [])++decB (IntKind.wrap .u64 (numS' ts)).toNat)) ts ts.tail else .er ts 2
def litS (pv:Int→List UInt8→PV×Int) (k:Int) (ts:List Tk):Rs PV:=
 bif k==0 then (partS ts).bind fun s r=>.ok (itemVal s) r
 else bif k==1 then (bif isS 1 [116,114,117,101] ts||isS 1 [102,97,108,115,101] ts then valS (pv k (textS ts)) ts ts.tail else .er ts 2)
 else bif k==6||k==8 then (anyTextS ts).bind fun s r=>valS (pv k s) ts r
 else bif k==7 then (anyTextS ts).bind fun s r=>valS (pv k (quote s)) ts r
 else bif isS 4 [45] ts then intS pv k true ts.tail else intS pv k false ts
def mkVal (k b:Int) (s:List UInt8):PV:=PV.agg [(PV.int k),(PV.int b),(PV.str s),(PV.slice []),(PV.slice []),(PV.slice []),(PV.slice [])]
def noteValS (pv:Int→List UInt8→PV×Int) (k:Int) (ts:List Tk):Rs PV:=
 bif k==1 then (bif isS 1 [116,114,117,101] ts then .ok (mkVal 1 1 []) ts.tail else bif isS 1 [102,97,108,115,101] ts then .ok (mkVal 1 0 []) ts.tail else .er ts 2)
 else bif k==7 then (bif kindS ts==3 then (bif decide ((textS ts).length>4096) then .er ts 3 else bif valid (textS ts) then .ok (mkVal 7 0 (textS ts)) ts.tail else .er ts 7) else .er ts 2)
 else bif isS 4 [45] ts then intS pv k true ts.tail else intS pv k false ts
def noteS (pv:Int→List UInt8→PV×Int) (kd:List UInt8→Int) (ts:List Tk):Rs PV:=
 bif kindS ts==1 then
  bif kd (textS ts)==0 then .er ts 8
  else (eatS 4 [61] ts.tail).bind fun _ r=>(noteValS pv (kd (textS ts)) r).bind fun v r=>.ok (PV.agg [PV.str (textS ts),v]) r
 else .er ts 2
def restNotesS (pv:Int→List UInt8→PV×Int) (kd:List UInt8→Int) (ts:List Tk) (acc:List PV):Rs (List PV):=
 (noteS pv kd ts).bind fun n r=>
  bif isS 4 [93] r then .ok (acc++[n]) r.tail
  else bif isS 4 [44] r then (if h:r.tail.length<ts.length then restNotesS pv kd r.tail (acc++[n]) else .er r 0)
  else .er r 2
termination_by ts.length
decreasing_by all_goals (simp only [List.length_tail] at *;omega)
def notesS (pv:Int→List UInt8→PV×Int) (kd:List UInt8→Int) (ts:List Tk):Rs (List PV):=
 bif isS 4 [91] ts then restNotesS pv kd ts.tail [] else .ok [] ts
def zeroF:PV:=PV.agg [(PV.int 0),(PV.int 0),(PV.str []),(PV.slice []),(PV.slice []),(PV.slice []),(PV.slice [])]
def fieldOf (num:Int) (nm:List UInt8) (card key:Int) (ty:PV) (un:List UInt8) (hd:Bool) (df:PV) (nts:List PV):PV:=
 PV.agg [PV.int num,PV.str nm,PV.int card,PV.int key,ty,PV.str un,PV.bool hd,df,PV.slice nts]
section
variable (pv:Int→List UInt8→PV×Int) (kd:List UInt8→Int)
def dfltS (wd:Bool) (k:Int) (ts:List Tk):Rs (Bool×PV):=bif wd&&isS 1 [100,101,102,97,117,108,116] ts then (litS pv k ts.tail).bind fun v r=>.ok (true,v) r else .ok (false,zeroF) ts
def tailS (card key:Int) (ty:PV) (un:List UInt8) (wd:Bool) (ts:List Tk):Rs PV:=
 (partS ts).bind fun nm r1=>(eatS 4 [61] r1).bind fun _ r2=>(numS 65535 r2).bind fun n r3=>(dfltS pv wd (ty.fld 0).asInt r3).bind fun d r4=>
 (notesS pv kd r4).bind fun l r5=>(eatS 4 [59] r5).bind fun _ r6=>.ok (fieldOf n nm card key ty un d.1 d.2 l) r6
def cardK (w:List UInt8):Int:=bif w==[114,101,113,117,105,114,101,100] then 1 else bif w==[111,112,116,105,111,110,97,108] then 2 else bif w==[112,108,97,105,110] then 3 else bif w==[108,105,115,116] then 4 else 0
def fieldS (ts:List Tk):Rs PV:=
 bif isS 1 [109,97,112] ts then (eatS 4 [60] ts.tail).bind fun _ r=>
  bif kindS r==1&&!(wordK (textS r)==0) then (eatS 4 [44] r.tail).bind fun _ r2=>(typS r2).bind fun ty r3=>(eatS 4 [62] r3).bind fun _ r4=>tailS pv kd 5 (wordK (textS r)) ty [] false r4
  else .er r 2
 else bif kindS ts==1&&!(cardK (textS ts)==0) then (typS ts.tail).bind fun ty r=>tailS pv kd (cardK (textS ts)) 0 ty [] true r
 else .er ts 2
def membersS (un:List UInt8) (ts:List Tk) (acc:List PV):Rs (List PV):=
 (typS ts).bind fun ty r=>(tailS pv kd 2 0 ty un false r).bind fun x r2=>
  bif isS 4 [125] r2 then .ok (acc++[x]) r2.tail else if h:r2.length<ts.length then membersS un r2 (acc++[x]) else .er r2 0
termination_by ts.length
def unionS (ts:List Tk):Rs (List PV):=(eatS 1 [117,110,105,111,110] ts).bind fun _ r=>(partS r).bind fun un r2=>(eatS 4 [123] r2).bind fun _ r3=>membersS pv kd un r3 []
def spanS (most:Int) (ts:List Tk):Rs PV:=(numS most ts).bind fun a r=>(bif isS 4 [45] r then numS most r.tail else .ok a r).bind fun b r2=>.ok (PV.agg [PV.int a,PV.int b]) r2
def spansS (most:Int) (ts:List Tk) (acc:List PV):Rs (List PV):=
 (spanS most ts).bind fun x r2=>
  bif isS 4 [59] r2 then .ok (acc++[x]) r2.tail
  else (eatS 4 [44] r2).bind fun _ r3=>if h:r3.length<ts.length then spansS most r3 (acc++[x]) else .er r3 0
termination_by ts.length
def goneS (ts:List Tk) (acc:List PV):Rs (List PV):=
 (anyTextS ts).bind fun s r2=>
  bif isS 4 [59] r2 then .ok (acc++[PV.str s]) r2.tail
  else (eatS 4 [44] r2).bind fun _ r3=>if h:r3.length<ts.length then goneS r3 (acc++[PV.str s]) else .er r3 0
termination_by ts.length
def itemS (ts:List Tk):Rs PV:=
 (partS ts).bind fun nm r1=>(eatS 4 [61] r1).bind fun _ r2=>(numS 2147483647 r2).bind fun n r3=>(notesS pv kd r3).bind fun l r4=>(eatS 4 [59] r4).bind fun _ r5=>.ok (PV.agg [PV.str nm,PV.int n,PV.slice l]) r5
def itemsS (ts:List Tk) (its rs:List PV):Rs (List PV×List PV):=
 bif isS 4 [125] ts then .ok (its,rs) ts.tail
 else bif isS 1 [114,101,115,101,114,118,101,100] ts then (spansS 2147483647 ts.tail []).bind fun l r=>if h:r.length<ts.length then itemsS r its (rs++l) else .er r 0
 else (itemS pv kd ts).bind fun x r=>if h:r.length<ts.length then itemsS r (its++[x]) rs else .er r 0
termination_by ts.length
def enumS (outer:List UInt8) (ts:List Tk):Rs PV:=
 (eatS 1 [101,110,117,109] (bif isS 1 [111,112,101,110] ts then ts.tail else ts)).bind fun _ r=>(namedS outer r).bind fun nm r2=>(notesS pv kd r2).bind fun l r3=>(eatS 4 [123] r3).bind fun _ r4=>
  (itemsS pv kd r4 [] []).bind fun x r5=>.ok (PV.agg [PV.str nm,PV.bool (isS 1 [111,112,101,110] ts),PV.slice x.1,PV.slice x.2,PV.slice l]) r5
structure MB where
 fs:List PV
 rs:List PV
 gs:List PV
 ms:List PV
 es:List PV
def mbodyS (msg:List UInt8→List PV→List PV→List Tk→Rs (List PV×List PV)) (name:List UInt8) (ts:List Tk) (b:MB):Rs MB:=
 bif isS 4 [125] ts then .ok b ts.tail
 else bif isS 1 [117,110,105,111,110] ts then (unionS pv kd ts).bind fun l r=>if h:r.length<ts.length then mbodyS msg name r { b with fs:=b.fs++l } else .er r 0
 else bif isS 1 [109,101,115,115,97,103,101] ts then (msg name b.ms b.es ts).bind fun x r=>if h:r.length<ts.length then mbodyS msg name r { b with ms:=x.1,es:=x.2 } else .er r 0
 else bif isS 1 [101,110,117,109] ts||isS 1 [111,112,101,110] ts then (enumS pv kd name ts).bind fun x r=>if h:r.length<ts.length then mbodyS msg name r { b with es:=b.es++[x] } else .er r 0
 else bif isS 1 [114,101,115,101,114,118,101,100] ts then
  (bif kindS ts.tail==3 then (goneS ts.tail []).bind fun l r=>if h:r.length<ts.length then mbodyS msg name r { b with gs:=b.gs++l } else .er r 0
   else (spansS 65535 ts.tail []).bind fun l r=>if h:r.length<ts.length then mbodyS msg name r { b with rs:=b.rs++l } else .er r 0)
 else (fieldS pv kd ts).bind fun x r=>if h:r.length<ts.length then mbodyS msg name r { b with fs:=b.fs++[x] } else .er r 0
termination_by ts.length
def msgOf (nm:List UInt8) (fs rs gs nts:List PV):PV:=PV.agg [PV.str nm,PV.slice fs,PV.slice rs,PV.slice gs,PV.slice nts]
def msgS:Nat→List UInt8→List PV→List PV→List Tk→Rs (List PV×List PV)
 | 0,_,_,_,ts=>.er ts 17
 | d+1,outer,ms,es,ts=>(eatS 1 [109,101,115,115,97,103,101] ts).bind fun _ r=>(namedS outer r).bind fun nm r2=>(notesS pv kd r2).bind fun l r3=>(eatS 4 [123] r3).bind fun _ r4=>
  (mbodyS pv kd (msgS d) nm r4 ⟨[],[],[],ms++[msgOf nm [] [] [] []],es⟩).bind fun b r5=>.ok (b.ms.set ms.length (msgOf nm b.fs b.rs b.gs l),b.es) r5
def sideS (ts:List Tk):Rs (Bool×List UInt8):=(eatS 4 [40] ts).bind fun _ r=>(typeTextS (bif isS 1 [115,116,114,101,97,109] r then r.tail else r)).bind fun s r2=>(eatS 4 [41] r2).bind fun _ r3=>.ok (isS 1 [115,116,114,101,97,109] r,s) r3
def shapeOf (a b:Bool):Int:=bif a&&b then 4 else bif a then 3 else bif b then 2 else 1
def rpcS (ts:List Tk):Rs PV:=
 (eatS 1 [114,112,99] ts).bind fun _ r=>(partS r).bind fun nm r1=>(sideS r1).bind fun a r2=>(eatS 1 [114,101,116,117,114,110,115] r2).bind fun _ r3=>(sideS r3).bind fun b r4=>(notesS pv kd r4).bind fun l r5=>(eatS 4 [59] r5).bind fun _ r6=>
  .ok (PV.agg [PV.str nm,PV.str a.2,PV.str b.2,PV.int (shapeOf a.1 b.1),PV.slice l]) r6
def rpcsS (ts:List Tk) (acc:List PV):Rs (List PV):=
 bif isS 4 [125] ts then .ok acc ts.tail
 else (rpcS pv kd ts).bind fun x r=>if h:r.length<ts.length then rpcsS r (acc++[x]) else .er r 0
termination_by ts.length
def svcS (ts:List Tk):Rs PV:=
 (eatS 1 [115,101,114,118,105,99,101] ts).bind fun _ r=>(namedS [] r).bind fun nm r1=>(notesS pv kd r1).bind fun l r2=>(eatS 4 [123] r2).bind fun _ r3=>(rpcsS pv kd r3 []).bind fun x r4=>.ok (PV.agg [PV.str nm,PV.slice x,PV.slice l]) r4
def importsS (ts:List Tk) (acc:List PV):Rs (List PV):=
 bif isS 1 [105,109,112,111,114,116] ts then (anyTextS ts.tail).bind fun s r=>(eatS 4 [59] r).bind fun _ r2=>if h:r2.length<ts.length then importsS r2 (acc++[PV.str s]) else .er r2 0
 else .ok acc ts
termination_by ts.length
structure FB where
 ms:List PV
 es:List PV
 ss:List PV
def defsS (ts:List Tk) (b:FB):Rs FB:=
 bif ts.isEmpty then .ok b ts
 else bif isS 1 [109,101,115,115,97,103,101] ts then (msgS pv kd 16 [] b.ms b.es ts).bind fun x r=>if h:r.length<ts.length then defsS r { b with ms:=x.1,es:=x.2 } else .er r 0
 else bif isS 1 [101,110,117,109] ts||isS 1 [111,112,101,110] ts then (enumS pv kd [] ts).bind fun x r=>if h:r.length<ts.length then defsS r { b with es:=b.es++[x] } else .er r 0
 else (svcS pv kd ts).bind fun x r=>if h:r.length<ts.length then defsS r { b with ss:=b.ss++[x] } else .er r 0
termination_by ts.length
def spaceS (ts:List Tk):Rs (List UInt8):=bif isS 1 [115,112,97,99,101] ts then (takeS 1 defP ts.tail).bind fun s r=>(eatS 4 [59] r).bind fun _ r2=>.ok s r2 else .ok [] ts
def fileS (name:List UInt8) (ts:List Tk):Rs PV:=
 (spaceS ts).bind fun sp r=>(importsS r []).bind fun im r2=>(defsS pv kd r2 ⟨[],[],[]⟩).bind fun b r3=>.ok (PV.agg [PV.str name,PV.str sp,PV.slice im,PV.slice b.ms,PV.slice b.es,PV.slice b.ss]) r3
end
def Sh {α:Type} (x:Rs α) (ts:List Tk):Prop:=∀ v r,x=.ok v r→r.length<ts.length
def Sh0 {α:Type} (x:Rs α) (ts:List Tk):Prop:=∀ v r,x=.ok v r→r.length≤ts.length
theorem Sh.le {α:Type} {x:Rs α} {ts:List Tk} (h:Sh x ts):Sh0 x ts:=fun v r e=>Nat.le_of_lt (h v r e)
theorem sh_bind {α β:Type} {x:Rs α} {f:α→List Tk→Rs β} {ts:List Tk} (hx:Sh x ts) (hf:∀ v r,Sh0 (f v r) r):Sh (x.bind f) ts:=by
 intro v r h
 cases x with
 | ok a q=>have:=hx a q rfl;have:=hf a q v r h;omega
 | er=>cases h
theorem sh0_bind {α β:Type} {x:Rs α} {f:α→List Tk→Rs β} {ts:List Tk} (hx:Sh0 x ts) (hf:∀ v r,Sh0 (f v r) r):Sh0 (x.bind f) ts:=by
 intro v r h
 cases x with
 | ok a q=>have:=hx a q rfl;have:=hf a q v r h;omega
 | er=>cases h
theorem sh0_ok {α:Type} (v:α) (r:List Tk):Sh0 (Rs.ok v r) r:=fun _ _ h=>by cases h;exact Nat.le_refl _
theorem sh_er {α:Type} (q r:List Tk) (e:Int):Sh (Rs.er q e:Rs α) r:=fun _ _ h=>by cases h
theorem isS_tail {k:Int} {s:List UInt8} {ts:List Tk} (h:isS k s ts=true):ts.tail.length<ts.length:=by
 cases ts with
 | nil=>cases h
 | cons x r=>simp
theorem kindS_tail {k:Int} {ts:List Tk} (h:(kindS ts==k)=true) (hk:(k==0)=false):ts.tail.length<ts.length:=by
 cases ts with
 | nil=>simp only [kindS,beq_iff_eq] at h;subst h;simp at hk
 | cons x r=>simp
theorem eat_sh (k:Int) (s:List UInt8) (ts:List Tk):Sh (eatS k s ts) ts:=by
 intro v r h
 unfold eatS at h
 cases hb:isS k s ts with
 | true=>rw [hb] at h;cases h;exact isS_tail hb
 | false=>rw [hb] at h;cases h
theorem take_sh (k:Int) (hk:(k==0)=false) (p:List UInt8→Bool) (ts:List Tk):Sh (takeS k p ts) ts:=by
 intro v r h
 unfold takeS at h
 cases hb:(kindS ts==k) with
 | true=>
  rw [hb] at h
  cases hp:p (textS ts)<;>simp only [hp,cond_true,cond_false] at h
  ·cases h
  ·cases h;exact kindS_tail hb hk
 | false=>rw [hb] at h;cases h
theorem num_sh (most:Int) (ts:List Tk):Sh (numS most ts) ts:=by
 intro v r h
 unfold numS at h
 cases hb:(kindS ts==2) with
 | true=>
  rw [hb] at h
  cases hp:decide (0≤numS' ts∧numS' ts≤most)<;>simp only [hp,cond_true,cond_false] at h
  ·cases h
  ·cases h;exact kindS_tail hb rfl
 | false=>rw [hb] at h;cases h
theorem part_sh (ts:List Tk):Sh (partS ts) ts:=take_sh 1 rfl _ ts
theorem named_sh (o:List UInt8) (ts:List Tk):Sh (namedS o ts) ts:=sh_bind (take_sh 1 rfl _ ts) fun v r=>sh0_ok _ _
theorem typ_sh (ts:List Tk):Sh (typS ts) ts:=sh_bind (take_sh 1 rfl _ ts) fun v r=>sh0_ok _ _
theorem anyText_sh (ts:List Tk):Sh (anyTextS ts) ts:=take_sh 3 rfl _ ts
theorem val_sh {x:PV×Int} {back r ts:List Tk} (h:r.length<ts.length):Sh (valS x back r) ts:=by
 intro v q e
 unfold valS at e
 cases hb:(x.2==0)<;>rw [hb] at e<;>cases e
 exact h
theorem int_sh (pv:Int→List UInt8→PV×Int) (k:Int) (neg:Bool) (ts:List Tk):Sh (intS pv k neg ts) ts:=by
 intro v r h
 unfold intS at h
 cases hb:(kindS ts==2) with
 | true=>rw [hb] at h;exact val_sh (kindS_tail hb rfl) v r h
 | false=>rw [hb] at h;cases h
theorem tail_le (ts:List Tk):ts.tail.length≤ts.length:=by simp
theorem sh_tail {α:Type} {x:Rs α} {ts:List Tk} (h:Sh x ts.tail):Sh x ts:=fun v r e=>Nat.lt_of_lt_of_le (h v r e) (tail_le ts)
theorem lit_sh (pv:Int→List UInt8→PV×Int) (k:Int) (ts:List Tk):Sh (litS pv k ts) ts:=by
 unfold litS
 cases (k==0) with
 | true=>exact sh_bind (part_sh ts) fun v r=>sh0_ok _ _
 | false=>
  cases (k==1) with
  | true=>
   cases hb:(isS 1 [116,114,117,101] ts||isS 1 [102,97,108,115,101] ts) with
   | true=>
    refine val_sh ?_
    cases h1:isS 1 [116,114,117,101] ts with
    | true=>exact isS_tail h1
    | false=>rw [h1] at hb;exact isS_tail (by simpa using hb)
   | false=>exact sh_er _ _ _
  | false=>
   cases (k==6||k==8) with
   | true=>
    intro v r h
    cases ha:anyTextS ts with
    | ok s q=>simp only [cond_true,cond_false,ha,Rs.bind] at h;exact val_sh (anyText_sh ts s q ha) v r h
    | er q e=>simp only [cond_true,cond_false,ha,Rs.bind] at h;cases h
   | false=>
    cases (k==7) with
    | true=>
     intro v r h
     cases ha:anyTextS ts with
     | ok s q=>simp only [cond_true,cond_false,ha,Rs.bind] at h;exact val_sh (anyText_sh ts s q ha) v r h
     | er q e=>simp only [cond_true,cond_false,ha,Rs.bind] at h;cases h
    | false=>
     cases isS 4 [45] ts with
     | true=>exact sh_tail (int_sh pv k true ts.tail)
     | false=>exact int_sh pv k false ts
theorem noteVal_sh (pv:Int→List UInt8→PV×Int) (k:Int) (ts:List Tk):Sh (noteValS pv k ts) ts:=by
 unfold noteValS
 cases (k==1) with
 | true=>
  cases h1:isS 1 [116,114,117,101] ts with
  | true=>intro v r e;cases e;exact isS_tail h1
  | false=>
   cases h2:isS 1 [102,97,108,115,101] ts with
   | true=>intro v r e;cases e;exact isS_tail h2
   | false=>exact sh_er _ _ _
 | false=>
  cases (k==7) with
  | true=>
   cases h3:(kindS ts==3) with
   | true=>
    cases decide ((textS ts).length>4096) with
    | true=>exact sh_er _ _ _
    | false=>
     cases valid (textS ts) with
     | true=>intro v r e;cases e;exact kindS_tail h3 rfl
     | false=>exact sh_er _ _ _
   | false=>exact sh_er _ _ _
  | false=>
   cases isS 4 [45] ts with
   | true=>exact sh_tail (int_sh pv k true ts.tail)
   | false=>exact int_sh pv k false ts
theorem note_sh (pv:Int→List UInt8→PV×Int) (kd:List UInt8→Int) (ts:List Tk):Sh (noteS pv kd ts) ts:=by
 unfold noteS
 cases (kindS ts==1) with
 | true=>
  cases (kd (textS ts)==0) with
  | true=>exact sh_er _ _ _
  | false=>exact sh_tail (sh_bind (eat_sh _ _ _) fun _ r=>sh0_bind (noteVal_sh pv _ r).le fun v q=>sh0_ok _ _)
 | false=>exact sh_er _ _ _
theorem restNotes_eq (pv:Int→List UInt8→PV×Int) (kd:List UInt8→Int) (ts:List Tk) (acc:List PV):restNotesS pv kd ts acc=(noteS pv kd ts).bind fun n r=>
 bif isS 4 [93] r then .ok (acc++[n]) r.tail else bif isS 4 [44] r then restNotesS pv kd r.tail (acc++[n]) else .er r 2:=by
 rw [restNotesS]
 cases h:noteS pv kd ts with
 | er r e=>rfl
 | ok n r=>
  have:=note_sh pv kd ts n r h
  have:=tail_le r
  simp only [Rs.bind,show r.tail.length<ts.length by omega,dite_true]
theorem restNotes_sh (pv:Int→List UInt8→PV×Int) (kd:List UInt8→Int):∀ (m:Nat) (ts:List Tk) (acc:List PV),ts.length≤m→Sh (restNotesS pv kd ts acc) ts:=by
 intro m
 induction m with
 | zero=>
  intro ts acc hm
  have:ts=[]:=List.eq_nil_of_length_eq_zero (by omega)
  subst this
  rw [restNotes_eq]
  exact sh_er _ _ _
 | succ m ih=>
  intro ts acc hm
  rw [restNotes_eq]
  cases h:noteS pv kd ts with
  | er r e=>exact sh_er _ _ _
  | ok n r=>
   have h1:=note_sh pv kd ts n r h
   have h2:=tail_le r
   simp only [Rs.bind]
   cases isS 4 [93] r with
   | true=>intro v q e;cases e;omega
   | false=>
    cases isS 4 [44] r with
    | true=>intro v q e;have:=ih r.tail (acc++[n]) (by omega) v q e;omega
    | false=>exact sh_er _ _ _
theorem notes_sh (pv:Int→List UInt8→PV×Int) (kd:List UInt8→Int) (ts:List Tk):Sh0 (notesS pv kd ts) ts:=by
 unfold notesS
 cases isS 4 [91] ts with
 | true=>exact (sh_tail (restNotes_sh pv kd _ ts.tail [] (Nat.le_refl _))).le
 | false=>exact sh0_ok _ _
end
end Go.Ab
namespace Go.Ab
open Go
set_option maxRecDepth 100000
section
variable (pv:Int→List UInt8→PV×Int) (kd:List UInt8→Int)
theorem dflt_sh (wd:Bool) (k:Int) (ts:List Tk):Sh0 (dfltS pv wd k ts) ts:=by
 unfold dfltS
 cases h:(wd&&isS 1 [100,101,102,97,117,108,116] ts) with
 | true=>exact (sh_tail (sh_bind (lit_sh pv k ts.tail) fun v r=>sh0_ok _ _)).le
 | false=>exact sh0_ok _ _
theorem tail_sh (card key:Int) (ty:PV) (un:List UInt8) (wd:Bool) (ts:List Tk):Sh (tailS pv kd card key ty un wd ts) ts:=by
 unfold tailS
 exact sh_bind (part_sh ts) fun _ r=>sh0_bind (eat_sh _ _ r).le fun _ r=>sh0_bind (num_sh _ r).le fun _ r=>sh0_bind (dflt_sh pv _ _ r) fun _ r=>sh0_bind (notes_sh pv kd r) fun _ r=>sh0_bind (eat_sh _ _ r).le fun _ r=>sh0_ok _ _
theorem field_sh (ts:List Tk):Sh (fieldS pv kd ts) ts:=by
 unfold fieldS
 cases h:isS 1 [109,97,112] ts with
 | true=>
  refine sh_tail (sh_bind (eat_sh _ _ _) fun _ r=>?_)
  cases (kindS r==1&&!(wordK (textS r)==0)) with
  | true=>exact fun v q e=>Nat.le_trans ((sh_bind (eat_sh _ _ r.tail) fun _ r=>sh0_bind (typ_sh r).le fun _ r=>sh0_bind (eat_sh _ _ r).le fun _ r=>(tail_sh pv kd _ _ _ _ _ r).le).le v q e) (tail_le r)
  | false=>exact (sh_er _ _ _).le
 | false=>
  cases (kindS ts==1&&!(cardK (textS ts)==0)) with
  | true=>exact sh_tail (sh_bind (typ_sh ts.tail) fun _ r=>(tail_sh pv kd _ _ _ _ _ r).le)
  | false=>exact sh_er _ _ _
theorem members_eq (un:List UInt8) (ts:List Tk) (acc:List PV):membersS pv kd un ts acc=(typS ts).bind fun ty r=>(tailS pv kd 2 0 ty un false r).bind fun x r2=>bif isS 4 [125] r2 then .ok (acc++[x]) r2.tail else membersS pv kd un r2 (acc++[x]):=by
 rw [membersS]
 cases h:typS ts with
 | er r e=>rfl
 | ok ty r=>
  simp only [Rs.bind]
  cases h2:tailS pv kd 2 0 ty un false r with
  | er r e=>rfl
  | ok x r2=>
   have:=typ_sh ts ty r h
   have:=tail_sh pv kd 2 0 ty un false r x r2 h2
   simp only [show r2.length<ts.length by omega,dite_true]
theorem sh_loop {α β:Type} (f:List Tk→β→Rs α) (hf:∀ ts b,(∀ (m:List Tk) b,m.length<ts.length→Sh0 (f m b) m)→Sh0 (f ts b) ts):∀ ts b,Sh0 (f ts b) ts:=by
 have H:∀ (n:Nat) ts b,ts.length≤n→Sh0 (f ts b) ts:=by
  intro n
  induction n with
  | zero=>intro ts b hn;exact hf ts b fun m b hm=>by omega
  | succ n ih=>intro ts b hn;exact hf ts b fun m b hm=>ih m b (by omega)
 exact fun ts b=>H _ ts b (Nat.le_refl _)
theorem members_sh (un:List UInt8) (ts:List Tk) (acc:List PV):Sh0 (membersS pv kd un ts acc) ts:=by
 refine sh_loop (fun ts acc=>membersS pv kd un ts acc) (fun ts acc ih=>?_) ts acc
 show Sh0 (membersS pv kd un ts acc) ts
 rw [members_eq]
 intro v q e
 cases h:typS ts with
 | er r e2=>rw [h] at e;cases e
 | ok ty r=>
  rw [h] at e
  simp only [Rs.bind] at e
  cases h2:tailS pv kd 2 0 ty un false r with
  | er r e2=>rw [h2] at e;cases e
  | ok x r2=>
   rw [h2] at e
   have h3:=typ_sh ts ty r h
   have h4:=tail_sh pv kd 2 0 ty un false r x r2 h2
   have h5:=tail_le r2
   simp only at e
   cases hb:isS 4 [125] r2 with
   | true=>rw [hb] at e;cases e;omega
   | false=>rw [hb] at e;have:=ih r2 (acc++[x]) (by omega) v q e;omega
theorem union_sh (ts:List Tk):Sh (unionS pv kd ts) ts:=sh_bind (eat_sh _ _ ts) fun _ r=>sh0_bind (part_sh r).le fun _ r=>sh0_bind (eat_sh _ _ r).le fun _ r=>members_sh pv kd _ r []
theorem span_sh (most:Int) (ts:List Tk):Sh (spanS most ts) ts:=by
 unfold spanS
 refine sh_bind (num_sh _ ts) fun a r=>sh0_bind ?_ fun _ _=>sh0_ok _ _
 cases isS 4 [45] r with
 | true=>exact (sh_tail (num_sh most r.tail)).le
 | false=>exact sh0_ok _ _
theorem spans_eq (most:Int) (ts:List Tk) (acc:List PV):spansS most ts acc=(spanS most ts).bind fun x r2=>bif isS 4 [59] r2 then .ok (acc++[x]) r2.tail else (eatS 4 [44] r2).bind fun _ r3=>spansS most r3 (acc++[x]):=by
 rw [spansS]
 cases h:spanS most ts with
 | er r e=>rfl
 | ok x r2=>
  simp only [Rs.bind]
  cases h2:eatS 4 [44] r2 with
  | er r e=>rfl
  | ok u r3=>
   have:=span_sh most ts x r2 h
   have:=eat_sh 4 [44] r2 u r3 h2
   simp only [show r3.length<ts.length by omega,dite_true]
theorem spans_sh (most:Int) (ts:List Tk) (acc:List PV):Sh0 (spansS most ts acc) ts:=by
 refine sh_loop (fun ts acc=>spansS most ts acc) (fun ts acc ih=>?_) ts acc
 show Sh0 (spansS most ts acc) ts
 rw [spans_eq]
 intro v q e
 cases h:spanS most ts with
 | er r e2=>rw [h] at e;cases e
 | ok x r2=>
  rw [h] at e
  have h3:=span_sh most ts x r2 h
  have h5:=tail_le r2
  simp only [Rs.bind] at e
  cases hb:isS 4 [59] r2 with
  | true=>rw [hb] at e;cases e;omega
  | false=>
   rw [hb] at e
   simp only [cond_false] at e
   cases h2:eatS 4 [44] r2 with
   | er r e2=>rw [h2] at e;cases e
   | ok u r3=>
    rw [h2] at e
    have h4:=eat_sh 4 [44] r2 u r3 h2
    have:=ih r3 (acc++[x]) (by omega) v q e
    omega
theorem goneS_eq (ts:List Tk) (acc:List PV):goneS ts acc=(anyTextS ts).bind fun s r2=>bif isS 4 [59] r2 then .ok (acc++[PV.str s]) r2.tail else (eatS 4 [44] r2).bind fun _ r3=>goneS r3 (acc++[PV.str s]):=by
 rw [goneS]
 cases h:anyTextS ts with
 | er r e=>rfl
 | ok x r2=>
  simp only [Rs.bind]
  cases h2:eatS 4 [44] r2 with
  | er r e=>rfl
  | ok u r3=>
   have:=anyText_sh ts x r2 h
   have:=eat_sh 4 [44] r2 u r3 h2
   simp only [show r3.length<ts.length by omega,dite_true]
theorem gone_sh (ts:List Tk) (acc:List PV):Sh0 (goneS ts acc) ts:=by
 refine sh_loop (fun ts acc=>goneS ts acc) (fun ts acc ih=>?_) ts acc
 show Sh0 (goneS ts acc) ts
 rw [goneS_eq]
 intro v q e
 cases h:anyTextS ts with
 | er r e2=>rw [h] at e;cases e
 | ok x r2=>
  rw [h] at e
  have h3:=anyText_sh ts x r2 h
  have h5:=tail_le r2
  simp only [Rs.bind] at e
  cases hb:isS 4 [59] r2 with
  | true=>rw [hb] at e;cases e;omega
  | false=>
   rw [hb] at e
   simp only [cond_false] at e
   cases h2:eatS 4 [44] r2 with
   | er r e2=>rw [h2] at e;cases e
   | ok u r3=>
    rw [h2] at e
    have h4:=eat_sh 4 [44] r2 u r3 h2
    have:=ih r3 (acc++[PV.str x]) (by omega) v q e
    omega
theorem item_sh (ts:List Tk):Sh (itemS pv kd ts) ts:=sh_bind (part_sh ts) fun _ r=>sh0_bind (eat_sh _ _ r).le fun _ r=>sh0_bind (num_sh _ r).le fun _ r=>sh0_bind (notes_sh pv kd r) fun _ r=>sh0_bind (eat_sh _ _ r).le fun _ r=>sh0_ok _ _
theorem guard_bind {α β:Type} {x:Rs α} {ts:List Tk} (hx:Sh x ts) (f:α→List Tk→Rs β):(x.bind fun v r=>if h:r.length<ts.length then f v r else .er r 0)=x.bind f:=by
 cases x with
 | er r e=>rfl
 | ok v r=>simp only [Rs.bind,hx v r rfl,dite_true]
theorem sh_at {α:Type} {x:Rs α} {ts:List Tk} (h1:ts.tail.length<ts.length) (h:Sh0 x ts.tail):Sh x ts:=fun v r e=>Nat.lt_of_le_of_lt (h v r e) h1
theorem items_eq (ts:List Tk) (its rs:List PV):itemsS pv kd ts its rs=
 bif isS 4 [125] ts then .ok (its,rs) ts.tail
 else bif isS 1 [114,101,115,101,114,118,101,100] ts then (spansS 2147483647 ts.tail []).bind fun l r=>itemsS pv kd r its (rs++l)
 else (itemS pv kd ts).bind fun x r=>itemsS pv kd r (its++[x]) rs:=by
 rw [itemsS,guard_bind (item_sh pv kd ts)]
 cases h:isS 1 [114,101,115,101,114,118,101,100] ts with
 | true=>rw [guard_bind (sh_at (isS_tail h) (spans_sh 2147483647 ts.tail []))]
 | false=>rfl
theorem sh0_step {α β:Type} {x:Rs α} {f:α→List Tk→Rs β} {ts:List Tk} (hx:Sh x ts) (hf:∀ v r,r.length<ts.length→Sh0 (f v r) r):Sh0 (x.bind f) ts:=by
 intro v r h
 cases x with
 | ok a q=>have h1:=hx a q rfl;have:=hf a q h1 v r h;omega
 | er=>cases h
theorem items_sh (ts:List Tk) (its rs:List PV):Sh0 (itemsS pv kd ts its rs) ts:=by
 refine sh_loop (fun ts (b:List PV×List PV)=>itemsS pv kd ts b.1 b.2) (fun ts b ih=>?_) ts (its,rs)
 show Sh0 (itemsS pv kd ts b.1 b.2) ts
 rw [items_eq]
 cases h0:isS 4 [125] ts with
 | true=>intro v q e;cases e;exact tail_le ts
 | false=>
  cases h:isS 1 [114,101,115,101,114,118,101,100] ts with
  | true=>exact sh0_step (sh_at (isS_tail h) (spans_sh 2147483647 ts.tail [])) fun v r hr=>ih r (b.1,b.2++v) hr
  | false=>exact sh0_step (item_sh pv kd ts) fun v r hr=>ih r (b.1++[v],b.2) hr
theorem open_le (ts:List Tk) (w:List UInt8):(bif isS 1 w ts then ts.tail else ts).length≤ts.length:=by
 cases isS 1 w ts with
 | true=>exact tail_le ts
 | false=>exact Nat.le_refl _
theorem enum_sh (outer:List UInt8) (ts:List Tk):Sh (enumS pv kd outer ts) ts:=by
 intro v q e
 have:=(sh_bind (eat_sh 1 [101,110,117,109] (bif isS 1 [111,112,101,110] ts then ts.tail else ts)) fun _ r=>sh0_bind (named_sh outer r).le fun _ r=>sh0_bind (notes_sh pv kd r) fun _ r=>sh0_bind (eat_sh _ _ r).le fun _ r=>sh0_bind (items_sh pv kd r [] []) fun _ r=>sh0_ok _ _) v q e
 have:=open_le ts [111,112,101,110]
 omega
theorem mbody_eq (msg:List UInt8→List PV→List PV→List Tk→Rs (List PV×List PV)) (hm:∀ n a b ts,Sh (msg n a b ts) ts) (name:List UInt8) (ts:List Tk) (b:MB):mbodyS pv kd msg name ts b=
 bif isS 4 [125] ts then .ok b ts.tail
 else bif isS 1 [117,110,105,111,110] ts then (unionS pv kd ts).bind fun l r=>mbodyS pv kd msg name r { b with fs:=b.fs++l }
 else bif isS 1 [109,101,115,115,97,103,101] ts then (msg name b.ms b.es ts).bind fun x r=>mbodyS pv kd msg name r { b with ms:=x.1,es:=x.2 }
 else bif isS 1 [101,110,117,109] ts||isS 1 [111,112,101,110] ts then (enumS pv kd name ts).bind fun x r=>mbodyS pv kd msg name r { b with es:=b.es++[x] }
 else bif isS 1 [114,101,115,101,114,118,101,100] ts then
  (bif kindS ts.tail==3 then (goneS ts.tail []).bind fun l r=>mbodyS pv kd msg name r { b with gs:=b.gs++l }
   else (spansS 65535 ts.tail []).bind fun l r=>mbodyS pv kd msg name r { b with rs:=b.rs++l })
 else (fieldS pv kd ts).bind fun x r=>mbodyS pv kd msg name r { b with fs:=b.fs++[x] }:=by
 rw [mbodyS,guard_bind (union_sh pv kd ts),guard_bind (hm name b.ms b.es ts),guard_bind (enum_sh pv kd name ts),guard_bind (field_sh pv kd ts)]
 cases h:isS 1 [114,101,115,101,114,118,101,100] ts with
 | true=>rw [guard_bind (sh_at (isS_tail h) (gone_sh ts.tail [])),guard_bind (sh_at (isS_tail h) (spans_sh 65535 ts.tail []))]
 | false=>rfl
theorem mbody_sh (msg:List UInt8→List PV→List PV→List Tk→Rs (List PV×List PV)) (hm:∀ n a b ts,Sh (msg n a b ts) ts) (name:List UInt8) (ts:List Tk) (b:MB):Sh0 (mbodyS pv kd msg name ts b) ts:=by
 refine sh_loop (fun ts b=>mbodyS pv kd msg name ts b) (fun ts b ih=>?_) ts b
 show Sh0 (mbodyS pv kd msg name ts b) ts
 rw [mbody_eq pv kd msg hm]
 cases isS 4 [125] ts with
 | true=>intro v q e;cases e;exact tail_le ts
 | false=>
  cases isS 1 [117,110,105,111,110] ts with
  | true=>exact sh0_step (union_sh pv kd ts) fun v r hr=>ih r _ hr
  | false=>
   cases isS 1 [109,101,115,115,97,103,101] ts with
   | true=>exact sh0_step (hm _ _ _ ts) fun v r hr=>ih r _ hr
   | false=>
    cases (isS 1 [101,110,117,109] ts||isS 1 [111,112,101,110] ts) with
    | true=>exact sh0_step (enum_sh pv kd _ ts) fun v r hr=>ih r _ hr
    | false=>
     cases h:isS 1 [114,101,115,101,114,118,101,100] ts with
     | true=>
      cases (kindS ts.tail==3) with
      | true=>exact sh0_step (sh_at (isS_tail h) (gone_sh ts.tail [])) fun v r hr=>ih r _ hr
      | false=>exact sh0_step (sh_at (isS_tail h) (spans_sh 65535 ts.tail [])) fun v r hr=>ih r _ hr
     | false=>exact sh0_step (field_sh pv kd ts) fun v r hr=>ih r _ hr
theorem msg_sh:∀ (d:Nat) (n:List UInt8) (a b:List PV) (ts:List Tk),Sh (msgS pv kd d n a b ts) ts:=by
 intro d
 induction d with
 | zero=>intro n a b ts;exact sh_er _ _ _
 | succ d ih=>
  intro n a b ts
  exact sh_bind (eat_sh _ _ ts) fun _ r=>sh0_bind (named_sh _ r).le fun _ r=>sh0_bind (notes_sh pv kd r) fun _ r=>sh0_bind (eat_sh _ _ r).le fun _ r=>sh0_bind (mbody_sh pv kd _ ih _ r _) fun _ r=>sh0_ok _ _
theorem side_sh (ts:List Tk):Sh (sideS ts) ts:=by
 unfold sideS
 refine sh_bind (eat_sh _ _ ts) fun _ r=>?_
 intro v q e
 have:=(sh0_bind (take_sh 1 rfl typeP (bif isS 1 [115,116,114,101,97,109] r then r.tail else r)).le fun _ r=>sh0_bind (eat_sh _ _ r).le fun _ r=>sh0_ok _ _) v q e
 have:=open_le r [115,116,114,101,97,109]
 omega
theorem rpc_sh (ts:List Tk):Sh (rpcS pv kd ts) ts:=
 sh_bind (eat_sh _ _ ts) fun _ r=>sh0_bind (part_sh r).le fun _ r=>sh0_bind (side_sh r).le fun _ r=>sh0_bind (eat_sh _ _ r).le fun _ r=>sh0_bind (side_sh r).le fun _ r=>sh0_bind (notes_sh pv kd r) fun _ r=>sh0_bind (eat_sh _ _ r).le fun _ r=>sh0_ok _ _
theorem rpcs_eq (ts:List Tk) (acc:List PV):rpcsS pv kd ts acc=bif isS 4 [125] ts then .ok acc ts.tail else (rpcS pv kd ts).bind fun x r=>rpcsS pv kd r (acc++[x]):=by
 rw [rpcsS,guard_bind (rpc_sh pv kd ts)]
theorem rpcs_sh (ts:List Tk) (acc:List PV):Sh0 (rpcsS pv kd ts acc) ts:=by
 refine sh_loop (fun ts b=>rpcsS pv kd ts b) (fun ts b ih=>?_) ts acc
 show Sh0 (rpcsS pv kd ts b) ts
 rw [rpcs_eq]
 cases isS 4 [125] ts with
 | true=>intro v q e;cases e;exact tail_le ts
 | false=>exact sh0_step (rpc_sh pv kd ts) fun v r hr=>ih r _ hr
theorem svc_sh (ts:List Tk):Sh (svcS pv kd ts) ts:=
 sh_bind (eat_sh _ _ ts) fun _ r=>sh0_bind (named_sh _ r).le fun _ r=>sh0_bind (notes_sh pv kd r) fun _ r=>sh0_bind (eat_sh _ _ r).le fun _ r=>sh0_bind (rpcs_sh pv kd r []) fun _ r=>sh0_ok _ _
theorem imports_eq (ts:List Tk) (acc:List PV):importsS ts acc=bif isS 1 [105,109,112,111,114,116] ts then (anyTextS ts.tail).bind fun s r=>(eatS 4 [59] r).bind fun _ r2=>importsS r2 (acc++[PV.str s]) else .ok acc ts:=by
 rw [importsS]
 cases h0:isS 1 [105,109,112,111,114,116] ts with
 | false=>rfl
 | true=>
  simp only [cond_true]
  cases h:anyTextS ts.tail with
  | er r e=>rfl
  | ok x r=>
   simp only [Rs.bind]
   cases h2:eatS 4 [59] r with
   | er r e=>rfl
   | ok u r3=>
    have:=anyText_sh ts.tail x r h
    have:=eat_sh 4 [59] r u r3 h2
    have:=isS_tail h0
    simp only [show r3.length<ts.length by omega,dite_true]
theorem defs_eq (ts:List Tk) (b:FB):defsS pv kd ts b=
 bif ts.isEmpty then .ok b ts
 else bif isS 1 [109,101,115,115,97,103,101] ts then (msgS pv kd 16 [] b.ms b.es ts).bind fun x r=>defsS pv kd r { b with ms:=x.1,es:=x.2 }
 else bif isS 1 [101,110,117,109] ts||isS 1 [111,112,101,110] ts then (enumS pv kd [] ts).bind fun x r=>defsS pv kd r { b with es:=b.es++[x] }
 else (svcS pv kd ts).bind fun x r=>defsS pv kd r { b with ss:=b.ss++[x] }:=by
 rw [defsS,guard_bind (msg_sh pv kd 16 _ _ _ ts),guard_bind (enum_sh pv kd _ ts),guard_bind (svc_sh pv kd ts)]
end
end Go.Ab
namespace Go.Ab
open Go
set_option maxRecDepth 100000
def ts (t:List PV) (i:Nat):List Tk:=(t.drop i).map tkOf
structure TOk (t:List PV):Prop where
 len:t.length≤1048576
 txt:∀ x,x∈t→(x.fld 1).asStr.length≤1048576
theorem ts_end {t:List PV} {i:Nat} (h:t.length≤i):ts t i=[]:=by unfold ts;rw [List.drop_eq_nil_of_le h];rfl
theorem ts_cons {t:List PV} {i:Nat} (h:i<t.length):ts t i=tkOf (t.getD i .bad)::ts t (i+1):=by unfold ts;rw [drop_cons h .bad];rfl
theorem ts_tail (t:List PV) (i:Nat):(ts t i).tail=ts t (i+1):=by
 unfold ts
 by_cases h:i<t.length
 ·rw [drop_cons h .bad];rfl
 ·rw [List.drop_eq_nil_of_le (by omega),List.drop_eq_nil_of_le (by omega)];rfl
theorem ts_length (t:List PV) (i:Nat):(ts t i).length=t.length-i:=by unfold ts;simp
theorem isS_lt {k:Int} {s:List UInt8} {t:List PV} {i:Nat} (h:isS k s (ts t i)=true):i<t.length:=by
 by_cases hi:i<t.length
 ·exact hi
 ·rw [ts_end (by omega)] at h;cases h
theorem kindS_lt {k:Int} {t:List PV} {i:Nat} (hk:(k==0)=false) (h:(kindS (ts t i)==k)=true):i<t.length:=by
 by_cases hi:i<t.length
 ·exact hi
 ·rw [ts_end (by omega)] at h
  simp only [kindS,beq_iff_eq] at h
  subst h;simp at hk
abbrev QF:Type:=List UInt8×List UInt8×Unit×Unit×Unit×List PV×List PV×List PV×List PV
inductive Par {α R:Type} (t:List PV) (q:QF) (mk:α→Q0→R) (x:Rs α) (y:Option (R⊕(PV×Q0))):Prop
 | ok (v:α) (j:Nat):j≤t.length→x=.ok v (ts t j)→y=some (.inl (mk v (t,((j:Nat):Int),q)))→Par t q mk x y
 | er (j:Nat) (e:Int):j≤t.length→e≠0→x=.er (ts t j) e→y=some (.inr (PV.agg [PV.int ((j:Nat):Int),PV.int e],(t,((j:Nat):Int),q)))→Par t q mk x y
theorem kindP_eq (t:List PV) (i:Nat) (q:QF):F117 0 () (t,(i:Int),q)=some (kindS (ts t i),(t,(i:Int),q)):=by
 unfold F117
 by_cases h:i<t.length
 ·have e1:decide ((i:Int)≥(t.length:Int))=false:=decide_eq_false (by omega)
  simp only [e1,cond_false,inRange_nat,h,decide_true,cond_true,Int.toNat_natCast,ts_cons h,kindS,tkOf]
 ·have e1:decide ((i:Int)≥(t.length:Int))=true:=decide_eq_true (by omega)
  simp only [e1,cond_true,ts_end (show t.length≤i by omega),kindS]
def isA (s:List UInt8):List Tk→Bool
 | []=>false
 | x::_=>(x.k==4||x.k==1)&&x.s==s
theorem isP_eq (t:List PV) (ht:TOk t) (i:Nat) (hi:i≤t.length) (s:List UInt8) (q:QF):F203 0 () 0 s (t,(i:Int),q)=some (isA s (ts t i),(t,(i:Int),q)):=by
 have hl:=ht.len
 have w:IntKind.wrap .i64 ((i:Int)+0)=(i:Int):=by rw [wrap64 (by omega) (by omega)];omega
 unfold F203
 simp only [w]
 by_cases h:i<t.length
 ·have e1:decide ((i:Int)<(t.length:Int))=true:=decide_eq_true (by omega)
  simp only [e1,imp,inRange_nat,h,decide_true,cond_true,Int.toNat_natCast,F286,Option.bind_some,ts_cons h,isA,tkOf]
  cases (((t.getD i .bad).fld 0).asInt==(4:Int))<;>cases (((t.getD i .bad).fld 0).asInt==(1:Int))<;>simp
 ·have e1:decide ((i:Int)<(t.length:Int))=false:=decide_eq_false (by omega)
  simp only [e1,imp,cond_false,Bool.not_false,cond_same,cond_true,Option.bind_some,ts_end (show t.length≤i by omega),isA]
theorem sign_w {s:List UInt8} (hs:partP s=true) (t:List PV) (ht:TOk t) (i:Nat) (hi:i≤t.length) (q:QF):F96 0 () s (t,(i:Int),q)=some (isS 1 s (ts t i),(t,(i:Int),q)):=by
 unfold F96
 rw [isPart_eq,hs]
 simp only [Option.bind_some,cond_true,isP_eq t ht i hi,kindP_eq]
 cases ts t i with
 | nil=>rfl
 | cons x r=>
  simp only [isA,isS,kindS]
  cases h4:(x.k==4)<;>cases h1:(x.k==1)<;>cases (x.s==s)<;>simp [h1]
theorem sign_s {s:List UInt8} (hs:partP s=false) (t:List PV) (ht:TOk t) (i:Nat) (hi:i≤t.length) (q:QF):F96 0 () s (t,(i:Int),q)=some (isS 4 s (ts t i),(t,(i:Int),q)):=by
 unfold F96
 rw [isPart_eq,hs]
 simp only [Option.bind_some,cond_false,isP_eq t ht i hi,kindP_eq]
 cases ts t i with
 | nil=>rfl
 | cons x r=>
  simp only [isA,isS,kindS]
  cases h4:(x.k==4)<;>cases h1:(x.k==1)<;>cases (x.s==s)<;>simp [h4]
def kOf (s:List UInt8):Int:=bif partP s then 1 else 4
theorem sign_k (s:List UInt8) (k:Int) (hk:kOf s=k) (t:List PV) (ht:TOk t) (i:Nat) (hi:i≤t.length) (q:QF):F96 0 () s (t,(i:Int),q)=some (isS k s (ts t i),(t,(i:Int),q)):=by
 unfold kOf at hk
 cases hp:partP s with
 | true=>rw [hp] at hk;subst hk;exact sign_w hp t ht i hi q
 | false=>rw [hp] at hk;subst hk;exact sign_s hp t ht i hi q
theorem may_k (s:List UInt8) (k:Int) (hk:kOf s=k) (t:List PV) (ht:TOk t) (i:Nat) (hi:i≤t.length) (q:QF):
 F91 0 () s (t,(i:Int),q)=some (bif isS k s (ts t i) then (true,(t,((i+1:Nat):Int),q)) else (false,(t,(i:Int),q))):=by
 have hl:=ht.len
 unfold F91
 simp only [sign_k s k hk t ht i hi,Option.bind_some,wadd' (show i≤9223372036854775000 by omega)]
 cases isS k s (ts t i)<;>rfl
theorem eat_k (s:List UInt8) (k:Int) (hk:kOf s=k) (t:List PV) (ht:TOk t) (i:Nat) (hi:i≤t.length) (q:QF):
 Par t q (fun _ s=>s) (eatS k s (ts t i)) (F94 0 () s (t,(i:Int),q)):=by
 unfold F94 eatS
 simp only [may_k s k hk t ht i hi,Option.bind_some]
 cases h:isS k s (ts t i) with
 | true=>exact .ok () (i+1) (isS_lt h) (by rw [cond_true,ts_tail]) rfl
 | false=>exact .er i 2 hi (by decide) rfl rfl
theorem txt_at {t:List PV} (ht:TOk t) {i:Nat} (h:i<t.length):((t.getD i .bad).fld 1).asStr.length≤1048576:=ht.txt _ (getD_mem h _)
theorem isName_loop (s:List UInt8) (xs:List (List UInt8)) (hx:xs.length≤9223372036854770000):loopW (S93_3step 0) (s,xs.map PV.str,((xs.map PV.str).length:Int),((0:Nat):Int))=some (bif xs.all (fun x=>!wordP x) then .inr s else .inl false):=by
 have h:=loopW_all (step:=S93_3step 0) (fun i=>(s,xs.map PV.str,((xs.map PV.str).length:Int),(i:Int))) (xs.map PV.str).length (fun i=>!wordP ((xs.map PV.str).getD i .bad).asStr) (.inl false) (.inr s)
  (fun i hi=>by
   have hl:i≤9223372036854775000:=by simp only [List.length_map] at hi;omega
   simp only [S93_3step,S93_3,declt,hi,decide_true,cond_true,inRange_nat,Int.toNat_natCast,word_eq,Option.bind_some,wadd' hl]
   cases wordP ((xs.map PV.str).getD i .bad).asStr<;>rfl)
  (by simp only [S93_3step,S93_3,declt,Nat.lt_irrefl,decide_false,cond_false]) (xs.map PV.str).length 0 (by omega)
 rw [h]
 have e:allF (fun i=>!wordP ((xs.map PV.str).getD i .bad).asStr) 0 (xs.map PV.str).length=xs.all fun x=>!wordP x:=by
  have:=allF_of (fun x:PV=>!wordP x.asStr) .bad (xs.map PV.str)
  rw [this]
  simp [List.all_map,Function.comp_def,PV.asStr]
 rw [e]
theorem isName_eq (s:List UInt8) (hs:s.length≤1048576):F93 0 s=some (defP s):=by
 have hlen:=splitP_len 46 s
 unfold F93 defP
 rw [lsplit_eq s hs,Option.bind_some,loopQ0,show (0:Int)=((0:Nat):Int) from rfl,isName_loop s _ (by omega),Option.bind_some]
 cases h:(splitP 46 s).all (fun x=>!wordP x) with
 | true=>simp only [cond_true,sumE_inr,isFull_eq s hs,Option.bind_some,Bool.and_true]
 | false=>simp only [cond_false,sumE_inl,Bool.and_false]
theorem part1_eq (s:List UInt8):F238 0 s=some (simpP s):=by
 unfold F238 simpP
 rw [isPart_eq]
 cases partP s with
 | true=>simp only [Option.bind_some,cond_true,word_eq,Bool.true_and]
 | false=>simp only [Option.bind_some,cond_false,Bool.false_and]
theorem type1_eq (s:List UInt8) (hs:s.length≤1048576):F229 0 s=some (typeP s):=typeBind_eq s hs
theorem take_go {T:List UInt8→Option Bool} {p:List UInt8→Bool} (hT:∀ s,s.length≤1048576→T s=some (p s)) {f:Q0→Option ((List UInt8×Q0)⊕(PV×Q0))} (k:Int) (hk:(k==0)=false)
 (hf:∀ s:Q0,f s=(F117 0 () s).bind fun y1=>bif y1.1 != k then some (.inr (PV.agg [PV.int y1.2.2.1,PV.int 2],y1.2)) else bif inRange y1.2.2.1 y1.2.1.length then (T ((y1.2.1.getD y1.2.2.1.toNat .bad).fld 1).asStr).bind fun y8=>
  bif !y8 then some (.inr (PV.agg [PV.int y1.2.2.1,PV.int 8],y1.2)) else some (.inl (((y1.2.1.getD y1.2.2.1.toNat .bad).fld 1).asStr,y1.2.1,IntKind.wrap .i64 (y1.2.2.1+1),y1.2.2.2)) else none)
 (t:List PV) (ht:TOk t) (i:Nat) (hi:i≤t.length) (q:QF):Par t q (fun v s=>(v,s)) (takeS k p (ts t i)) (f (t,(i:Int),q)):=by
 have hl:=ht.len
 rw [hf,kindP_eq,Option.bind_some]
 unfold takeS
 by_cases hb:kindS (ts t i)=k
 ·have e1:(kindS (ts t i) != k)=false:=by rw [hb];simp
  have e2:(kindS (ts t i)==k)=true:=by rw [hb];simp
  have h:i<t.length:=kindS_lt hk e2
  have hx:textS (ts t i)=((t.getD i .bad).fld 1).asStr:=by rw [ts_cons h];rfl
  simp only [e1,e2,cond_false,cond_true,inRange_nat,h,decide_true,Int.toNat_natCast,hT _ (txt_at ht h),Option.bind_some,hx,wadd' (show i≤9223372036854775000 by omega)]
  cases hp:p ((t.getD i .bad).fld 1).asStr with
  | true=>exact .ok _ (i+1) h (by rw [cond_true,ts_tail]) rfl
  | false=>exact .er i 8 hi (by decide) rfl rfl
 ·have e1:(kindS (ts t i) != k)=true:=bneI hb
  have e2:(kindS (ts t i)==k)=false:=beqI hb
  simp only [e1,e2,cond_true,cond_false]
  exact .er i 2 hi (by decide) rfl rfl
theorem takeName (t:List PV) (ht:TOk t) (i:Nat) (hi:i≤t.length) (q:QF):Par t q (fun v s=>(v,s)) (takeS 1 defP (ts t i)) (F92 0 () 1 () (t,(i:Int),q)):=
 take_go (f:=fun s=>F92 0 () 1 () s) isName_eq 1 rfl (fun s=>rfl) t ht i hi q
theorem anyText_par (t:List PV) (ht:TOk t) (i:Nat) (hi:i≤t.length) (q:QF):Par t q (fun v s=>(v,s)) (anyTextS (ts t i)) (F95 0 () (t,(i:Int),q)):=by
 have h:=take_go (f:=fun s=>F92_v1 0 () 3 () s) (T:=F201 0) (p:=fun _=>true) (fun s _=>rfl) 3 rfl (fun s=>rfl) t ht i hi q
 unfold F95
 rcases h with ⟨v,j,hj,hx,hy⟩ | ⟨j,e,hj,he,hx,hy⟩
 ·exact .ok v j hj hx (by simp only [hy,Option.bind_some,sumE_inl])
 ·exact .er j e hj he hx (by simp only [hy,Option.bind_some,sumE_inr])
theorem part_par (t:List PV) (ht:TOk t) (i:Nat) (hi:i≤t.length) (q:QF):Par t q (fun v s=>(v,s)) (partS (ts t i)) (F132 0 () (t,(i:Int),q)):=by
 have h:=take_go (f:=fun s=>F92_v3 0 () 1 () s) (T:=F238 0) (p:=simpP) (fun s _=>part1_eq s) 1 rfl (fun s=>rfl) t ht i hi q
 unfold F132
 rcases h with ⟨v,j,hj,hx,hy⟩ | ⟨j,e,hj,he,hx,hy⟩
 ·exact .ok v j hj hx (by simp only [hy,Option.bind_some,sumE_inl])
 ·exact .er j e hj he hx (by simp only [hy,Option.bind_some,sumE_inr])
theorem typeText_par (t:List PV) (ht:TOk t) (i:Nat) (hi:i≤t.length) (q:QF):Par t q (fun v s=>(v,s)) (typeTextS (ts t i)) (F115 0 () (t,(i:Int),q)):=by
 have h:=take_go (f:=fun s=>F92_v4 0 () 1 () s) (T:=F229 0) (p:=typeP) (fun s hs=>type1_eq s hs) 1 rfl (fun s=>rfl) t ht i hi q
 unfold F115
 rcases h with ⟨v,j,hj,hx,hy⟩ | ⟨j,e,hj,he,hx,hy⟩
 ·exact .ok v j hj hx (by simp only [hy,Option.bind_some,sumE_inl])
 ·exact .er j e hj he hx (by simp only [hy,Option.bind_some,sumE_inr])
theorem wrapU_gt {n most:Int} (h:-9223372036854775808≤n∧n≤9223372036854775807) (hm:0≤most∧most≤2147483647):decide (IntKind.wrap .u64 n>most)=!decide (0≤n∧n≤most):=by
 rw [IntKind.wrap_u64]
 by_cases hc:0≤n∧n≤most
 ·rw [decide_eq_true hc,decide_eq_false (by omega)];rfl
 ·rw [decide_eq_false hc,decide_eq_true (by omega)];rfl
theorem num_par (t:List PV) (ht:TOk t) (i:Nat) (hi:i≤t.length) (most:Int) (hm:0≤most∧most≤2147483647) (hn:∀ x,x∈t→-9223372036854775808≤(x.fld 2).asInt∧(x.fld 2).asInt≤9223372036854775807) (q:QF):
 Par t q (fun v s=>(v,s)) (numS most (ts t i)) (F209 0 () most (t,(i:Int),q)):=by
 have hl:=ht.len
 unfold F209 numS
 rw [kindP_eq,Option.bind_some]
 by_cases hb:kindS (ts t i)=2
 ·have e1:(kindS (ts t i) != 2)=false:=by rw [hb];rfl
  have e2:(kindS (ts t i)==2)=true:=by rw [hb];rfl
  have h:i<t.length:=kindS_lt rfl e2
  have hx:numS' (ts t i)=((t.getD i .bad).fld 2).asInt:=by rw [ts_cons h];rfl
  have hr:=hn _ (getD_mem h .bad)
  simp only [e1,e2,cond_false,cond_true,inRange_nat,h,decide_true,Int.toNat_natCast,hx,wadd' (show i≤9223372036854775000 by omega),wrapU_gt hr hm]
  cases hp:decide (0≤((t.getD i .bad).fld 2).asInt∧((t.getD i .bad).fld 2).asInt≤most) with
  | true=>exact .ok _ (i+1) h (by rw [cond_true,ts_tail]) rfl
  | false=>exact .er i 6 hi (by decide) rfl rfl
 ·have e1:(kindS (ts t i) != 2)=true:=bneI hb
  have e2:(kindS (ts t i)==2)=false:=beqI hb
  simp only [e1,e2,cond_true,cond_false]
  exact .er i 2 hi (by decide) rfl rfl
end Go.Ab
namespace Go.Ab
open Go
set_option maxRecDepth 100000
noncomputable def parV (k:Int) (s:List UInt8):PV×Int:=(F239 0 k s).getD (zeroF,0)
def Reach (k:Int) (s:List UInt8):Prop:=((k=1∨k=6∨k=8)∧s.length≤16384)∨(k=7∧∃ x:List UInt8,x.length≤16384∧s=quote x)∨((2≤k∧k≤5)∧∃ (neg:Bool) (u:Nat),u<18446744073709551616∧s=(bif neg then [45] else [])++decB u)
def ParOk:Prop:=∀ (k:Int) (s:List UInt8),Reach k s→F239 0 k s=some (parV k s)
structure TNm (t:List PV):Prop extends TOk t where
 num:∀ x,x∈t→-9223372036854775808≤(x.fld 2).asInt∧(x.fld 2).asInt≤9223372036854775807
structure TNum (t:List PV):Prop extends TNm t where
 sml:∀ x,x∈t→(x.fld 1).asStr.length≤16384
inductive NP (t:List PV) (x:Rs PV) (y:Option (PV×Int×Int)):Prop
 | ok (v:PV) (j:Nat):j≤t.length→x=.ok v (ts t j)→y=some (v,((j:Nat):Int),0)→NP t x y
 | er (j:Nat) (e:Int) (z:PV):j≤t.length→e≠0→x=.er (ts t j) e→y=some (z,((j:Nat):Int),e)→NP t x y
theorem isN_eq (t:List PV) (i:Nat) (s:List UInt8):F77 0 t (i:Int) s=some (isS 4 s (ts t i)):=by
 rw [is_nat]
 unfold sgn
 by_cases h:i<t.length
 ·rw [ts_cons h];simp [h,isS,tkOf,tKind,tText]
 ·rw [ts_end (by omega)];simp [h,isS]
theorem kindN_eq (t:List PV) (i:Nat):F158 0 t (i:Int)=some (kindS (ts t i)):=by
 rw [kindAt_nat]
 by_cases h:i<t.length
 ·rw [ts_cons h,if_pos h];rfl
 ·rw [ts_end (by omega),if_neg h];rfl
theorem wrapN {n:Int}:∃ u:Nat,u<18446744073709551616∧IntKind.wrap .u64 n=(u:Int)∧(IntKind.wrap .u64 n).toNat=u:=by
 obtain ⟨u,h1,h2⟩:=u64nat n
 exact ⟨u,h1,h2,by rw [h2];rfl⟩
theorem fmtB {u:Nat} (h:u<18446744073709551616):F135 0 (u:Int) 10=some (decB u):=by rw [fmt_ok u h,decB_eq (by omega)]
theorem numS_at {t:List PV} {i:Nat} (h:i<t.length):numS' (ts t i)=((t.getD i .bad).fld 2).asInt:=by rw [ts_cons h];rfl
theorem textS_at {t:List PV} {i:Nat} (h:i<t.length):textS (ts t i)=((t.getD i .bad).fld 1).asStr:=by rw [ts_cons h];rfl
theorem kind_at {t:List PV} {i:Nat} (h:i<t.length):kindS (ts t i)=((t.getD i .bad).fld 0).asInt:=by rw [ts_cons h];rfl
theorem isS_at {k:Int} {s:List UInt8} {t:List PV} {i:Nat} (h:i<t.length):isS k s (ts t i)=((((t.getD i .bad).fld 0).asInt==k)&&(((t.getD i .bad).fld 1).asStr==s)):=by rw [ts_cons h];rfl
theorem int_end (po:ParOk) (k:Int) (hk:2≤k∧k≤5) (t:List PV) (ht:TNm t) (neg:Bool) (pre:List UInt8) (hp:pre=bif neg then [45] else []) (i:Nat) (hi:i≤t.length):NP t (intS parV k neg (ts t i))
 ((F158 0 t (i:Int)).bind fun y3=>bif (y3 != (2:Int)) then some (zeroF,(i:Int),(2:Int)) else
   bif inRange (i:Int) t.length then (F135 0 (IntKind.wrap .u64 ((t.getD (i:Int).toNat .bad).fld 2).asInt) (10:Int)).bind fun y9=>
   bif decide (pre.length+y9.length≤strMax) then (F239 0 k (pre++y9)).bind fun y10=>
   bif (y10.2 != (0:Int)) then some (zeroF,(i:Int),y10.2) else some (y10.1,(IntKind.wrap .i64 ((i:Int)+(1:Int))),(0:Int)) else none else none):=by
 have hl:=ht.len
 rw [kindN_eq,Option.bind_some]
 unfold intS
 by_cases hb:kindS (ts t i)=2
 ·have e1:(kindS (ts t i) != 2)=false:=by rw [hb];rfl
  have e2:(kindS (ts t i)==2)=true:=by rw [hb];rfl
  have h:i<t.length:=kindS_lt rfl e2
  obtain ⟨u,hu,h1,h2⟩:=wrapN (n:=((t.getD i .bad).fld 2).asInt)
  have hlen:=decB_len u
  have hpl:pre.length≤1:=by subst hp;cases neg<;>simp
  have l1:decide (pre.length+(decB u).length≤strMax)=true:=leStr (by omega)
  have hpo:=po k (pre++decB u) (Or.inr (Or.inr ⟨hk,neg,u,hu,by rw [hp]⟩))
  simp only [e1,e2,cond_false,cond_true,inRange_nat,h,decide_true,Int.toNat_natCast,h1,fmtB hu,Option.bind_some,l1,hpo,numS_at h,←hp]
  unfold valS
  by_cases hz:(parV k (pre++decB u)).2=0
  ·have z1:((parV k (pre++decB u)).2 != 0)=false:=by rw [hz];rfl
   have z2:((parV k (pre++decB u)).2==0)=true:=by rw [hz];rfl
   simp only [z1,z2,cond_true,cond_false,wadd' (show i≤9223372036854775000 by omega)]
   exact .ok _ (i+1) h (by rw [ts_tail]) rfl
  ·have z1:((parV k (pre++decB u)).2 != 0)=true:=bneI hz
   have z2:((parV k (pre++decB u)).2==0)=false:=beqI hz
   simp only [z1,z2,cond_true,cond_false]
   exact .er i _ _ hi hz rfl rfl
 ·have e1:(kindS (ts t i) != 2)=true:=bneI hb
  have e2:(kindS (ts t i)==2)=false:=beqI hb
  simp only [e1,e2,cond_true,cond_false]
  exact .er i 2 _ hi (by decide) rfl rfl
theorem number_np (po:ParOk) (k:Int) (hk:2≤k∧k≤5) (t:List PV) (ht:TNm t) (i:Nat) (hi:i≤t.length):NP t (bif isS 4 [45] (ts t i) then intS parV k true (ts t i).tail else intS parV k false (ts t i)) (F260 0 k t (i:Int)):=by
 have hl:=ht.len
 have hw:IntKind.wrap .i64 ((i:Int)+1)=((i+1:Nat):Int):=wadd' (by omega)
 unfold F260
 rw [isN_eq,Option.bind_some]
 cases hs:isS 4 [45] (ts t i) with
 | true=>
  have:=int_end po k hk t ht true [45] rfl (i+1) (isS_lt hs)
  simp only [hw,cond_true,ts_tail]
  exact this
 | false=>
  have:=int_end po k hk t ht false [] rfl i hi
  simp only [cond_false]
  exact this
theorem parB1:F239 0 1 [116,114,117,101]=some (mkVal 1 1 [],0):=by kernel_rfl
theorem parB0:F239 0 1 [102,97,108,115,101]=some (mkVal 1 0 [],0):=by kernel_rfl
theorem fits7 (x:List UInt8) (h:x.length≤4096):F146 0 7 (PV.agg [(PV.int 7),(PV.int (0:Int)),(PV.str x),(PV.slice []),(PV.slice []),(PV.slice []),(PV.slice [])])=some (valid x):=by
 have hsm:smallV (PV.agg [(PV.int 7),(PV.int (0:Int)),(PV.str x),(PV.slice []),(PV.slice []),(PV.slice []),(PV.slice [])]):=⟨Nat.zero_le _,by show x.length≤1048576;omega,by show (0:Int)≤0;omega,by show (0:Int)<18446744073709551616;omega⟩
 have hle:decide (x.length≤4096)=true:=decide_eq_true h
 rw [fitsV_eq _ _ hsm]
 congr 1
 unfold fitsV vKind vBits vText vLists
 simp [PV.fld,PV.parts,PV.asInt,PV.asStr,PV.asList,isKind,textKind,hle]
theorem value_np (po:ParOk) (k:Int) (hk:k=1∨k=7∨k=3∨k=4) (t:List PV) (ht:TNm t) (i:Nat) (hi:i≤t.length):NP t (noteValS parV k (ts t i)) (F159 0 k t (i:Int)):=by
 have hl:=ht.len
 have hw:IntKind.wrap .i64 ((i:Int)+1)=((i+1:Nat):Int):=wadd' (by omega)
 unfold F159 noteValS
 simp only [kindN_eq]
 rcases hk with rfl | rfl | rfl | rfl
 · -- bool
  simp only [show ((1:Int)==1)=true from rfl,cond_true,Option.bind_some,show ((1:Int)==7)=false from rfl,show ((1:Int)==4)=false from rfl,show ((1:Int)==3)=false from rfl,cond_false]
  by_cases hlt:i<t.length
  ·simp only [inRange_nat,hlt,decide_true,imp,cond_true,cond_same,Int.toNat_natCast,kind_at hlt,isS_at hlt]
   cases hn:(((t.getD i .bad).fld 0).asInt==1) with
   | true=>
    cases h1:(((t.getD i .bad).fld 1).asStr==[116,114,117,101]) with
    | true=>
     have e:=eq_of_beq h1
     simp only [cond_true,Bool.and_self,e,parB1,Option.bind_some,hw,Bool.not_true,cond_false,cond_same]
     exact .ok _ (i+1) hlt (by rw [ts_tail]) rfl
    | false=>
     cases h2:(((t.getD i .bad).fld 1).asStr==[102,97,108,115,101]) with
     | true=>
      have e:=eq_of_beq h2
      simp only [cond_true,cond_false,Bool.and_false,Bool.and_self,e,parB0,Option.bind_some,hw,Bool.not_false,cond_same]
      exact .ok _ (i+1) hlt (by rw [ts_tail]) rfl
     | false=>
      simp only [cond_true,cond_false,Bool.and_false,Bool.not_false,cond_same]
      exact .er i 2 _ hi (by decide) rfl rfl
   | false=>
    simp only [cond_false,Bool.false_and,cond_same,Bool.not_false,cond_true]
    exact .er i 2 _ hi (by decide) rfl rfl
  ·have:ts t i=[]:=ts_end (by omega)
   simp only [this,kindS,isS,show ((0:Int)==1)=false from rfl,cond_false,imp,Bool.not_false,cond_true,cond_same]
   exact .er i 2 _ hi (by decide) (by rw [this]) rfl
 · -- text
  simp only [show ((7:Int)==1)=false from rfl,show ((7:Int)==7)=true from rfl,cond_false,cond_true,Option.bind_some,imp,Bool.not_false,cond_same]
  cases hn:(kindS (ts t i)==3) with
  | false=>
   simp only [cond_false,show ((7:Int)==4)=false from rfl,show ((7:Int)==3)=false from rfl]
   exact .er i 2 _ hi (by decide) rfl rfl
  | true=>
   have hlt:=kindS_lt (show ((3:Int)==0)=false from rfl) hn
   simp only [inRange_nat,hlt,decide_true,cond_true,Int.toNat_natCast,textS_at hlt]
   obtain ⟨x,hx⟩:∃ x,((t.getD i .bad).fld 1).asStr=x:=⟨_,rfl⟩
   simp only [hx]
   by_cases hle:x.length>4096
   ·have b3:decide ((x.length:Int)>4096)=true:=decide_eq_true (by omega)
    have b4:decide (x.length>4096)=true:=decide_eq_true hle
    simp only [b3,b4,cond_true]
    exact .er i 3 _ hi (by decide) rfl rfl
   ·have b3:decide ((x.length:Int)>4096)=false:=decide_eq_false (by omega)
    have b4:decide (x.length>4096)=false:=decide_eq_false hle
    simp only [b3,b4,cond_false,fits7 x (by omega),Option.bind_some,hw]
    cases valid x with
    | true=>exact .ok _ (i+1) hlt (by rw [cond_true,ts_tail];rfl) rfl
    | false=>exact .er i 7 _ hi (by decide) rfl rfl
 ·have hn:=number_np po 3 (by decide) t ht i hi
  simp only [show ((3:Int)==1)=false from rfl,show ((3:Int)==7)=false from rfl,show ((3:Int)==4)=false from rfl,show ((3:Int)==3)=true from rfl,cond_false,cond_true,Option.bind_some,imp,Bool.not_false,cond_same]
  rcases hn with ⟨v,j,hj,hx,hy⟩ | ⟨j,e,z,hj,he,hx,hy⟩
  ·exact .ok v j hj hx (by simp only [hy,Option.bind_some])
  ·exact .er j e z hj he hx (by simp only [hy,Option.bind_some])
 ·have hn:=number_np po 4 (by decide) t ht i hi
  simp only [show ((4:Int)==1)=false from rfl,show ((4:Int)==7)=false from rfl,show ((4:Int)==4)=true from rfl,cond_false,cond_true,Option.bind_some,imp,Bool.not_false,cond_same]
  rcases hn with ⟨v,j,hj,hx,hy⟩ | ⟨j,e,z,hj,he,hx,hy⟩
  ·exact .ok v j hj hx (by simp only [hy,Option.bind_some])
  ·exact .er j e z hj he hx (by simp only [hy,Option.bind_some])
theorem note_np (po:ParOk) (t:List PV) (ht:TNm t) (i:Nat) (hi:i≤t.length):NP t (noteS parV kindOf (ts t i)) (F78 0 t (i:Int)):=by
 have hl:=ht.len
 have hw:IntKind.wrap .i64 ((i:Int)+1)=((i+1:Nat):Int):=wadd' (by omega)
 have hw2:IntKind.wrap .i64 ((i:Int)+2)=((i+2:Nat):Int):=by rw [wrap64 (by omega) (by omega)];omega
 unfold F78 noteS
 rw [kindN_eq,Option.bind_some]
 by_cases hb:kindS (ts t i)=1
 ·have e1:(kindS (ts t i) != 1)=false:=by rw [hb];rfl
  have e2:(kindS (ts t i)==1)=true:=by rw [hb];rfl
  have hlt:i<t.length:=kindS_lt rfl e2
  simp only [e1,e2,cond_false,cond_true,inRange_nat,hlt,decide_true,Int.toNat_natCast,kind_eq,Option.bind_some,textS_at hlt,hw,hw2,isN_eq]
  generalize hx:((t.getD i .bad).fld 1).asStr=x
  cases hk:(kindOf x==0) with
  | true=>
   simp only [cond_true]
   exact .er i 8 _ hi (by decide) rfl rfl
  | false=>
   have hne:kindOf x≠0:=by simpa using hk
   simp only [cond_false,ts_tail,eatS]
   cases hs:isS 4 [61] (ts t (i+1)) with
   | false=>
    have hm:(if (t.length:Int)<((i+1:Nat):Int) then (t.length:Int) else ((i+1:Nat):Int))=((i+1:Nat):Int):=if_neg (by omega)
    simp only [cond_false,Rs.bind,Bool.not_false,cond_true,hm]
    exact .er (i+1) 2 _ hlt (by decide) rfl rfl
   | true=>
    have hlt2:=isS_lt hs
    simp only [cond_true,Rs.bind,Bool.not_true,cond_false,ts_tail]
    rcases value_np po (kindOf x) (kind_four hne) t ht (i+1+1) hlt2 with ⟨v,j,hj,hx,hy⟩ | ⟨j,e,z,hj,he,hx,hy⟩
    ·rw [show ((i+2:Nat):Int)=((i+1+1:Nat):Int) from rfl,hx,hy]
     exact .ok _ j hj rfl rfl
    ·rw [show ((i+2:Nat):Int)=((i+1+1:Nat):Int) from rfl,hx,hy]
     exact .er j e _ hj he rfl rfl
 ·have e1:(kindS (ts t i) != 1)=true:=bneI hb
  have e2:(kindS (ts t i)==1)=false:=beqI hb
  simp only [e1,e2,cond_true,cond_false]
  exact .er i 2 _ hi (by decide) rfl rfl
inductive NL (t:List PV) (x:Rs (List PV)) (y:Option (List PV×Int×Int)):Prop
 | ok (v:List PV) (j:Nat):j≤t.length→x=.ok v (ts t j)→y=some (v,((j:Nat):Int),0)→NL t x y
 | er (j:Nat) (e:Int):j≤t.length→e≠0→x=.er (ts t j) e→y=some ([],((j:Nat):Int),e)→NL t x y
theorem reads_np (po:ParOk) (t:List PV) (ht:TNm t):∀ (m i:Nat) (acc:List PV),t.length-i≤m→i<t.length→acc.length≤i→NL t (restNotesS parV kindOf (ts t (i+1)) acc) (loopW (S36_5step 0) (t,(i:Int),acc)):=by
 have hl:=ht.len
 intro m
 induction m with
 | zero=>intro i acc hm hi ha;omega
 | succ m ih=>
  intro i acc hm hi ha
  have hw:IntKind.wrap .i64 ((i:Int)+1)=((i+1:Nat):Int):=wadd' (by omega)
  have acm:∀ x:PV,decide (acc.length+[x].length≤accMax)=true:=fun x=>decide_eq_true (by unfold accMax;simp;omega)
  rw [restNotes_eq]
  have hn:=note_np po t ht (i+1) hi
  have hsh:=note_sh parV kindOf (ts t (i+1))
  rcases hn with ⟨v,j,hj,hx,hy⟩ | ⟨j,e,z,hj,he,hx,hy⟩
  ·have hij:i+1<j:=by
    have:=hsh v _ hx
    rw [ts_length,ts_length] at this
    omega
   have hwj:IntKind.wrap .i64 ((j:Int)+1)=((j+1:Nat):Int):=wadd' (by omega)
   simp only [hx,Rs.bind]
   cases h1:isS 4 [93] (ts t j) with
   | true=>
    refine .ok (acc++[v]) (j+1) (isS_lt h1) (by rw [cond_true,ts_tail]) (loopW_end ?_)
    simp only [S36_5step,S36_5,hw,hy,Option.bind_some,show ((0:Int) != 0)=false from rfl,cond_false,acm,cond_true,isN_eq,h1,hwj]
   | false=>
    cases h2:isS 4 [44] (ts t j) with
    | true=>
     have hjl:=isS_lt h2
     have st:S36_5step 0 (t,(i:Int),acc)=some (.inl (t,((j:Nat):Int),acc++[v])):=by
      simp only [S36_5step,S36_5,hw,hy,Option.bind_some,show ((0:Int) != 0)=false from rfl,cond_false,acm,cond_true,isN_eq,h1,h2,Bool.not_true]
     rw [loopW_go st,cond_false,cond_true,ts_tail]
     exact ih j (acc++[v]) (by omega) hjl (by simp;omega)
    | false=>
     refine .er j 2 hj (by decide) rfl (loopW_end ?_)
     simp only [S36_5step,S36_5,hw,hy,Option.bind_some,show ((0:Int) != 0)=false from rfl,cond_false,acm,cond_true,isN_eq,h1,h2,Bool.not_false]
  ·simp only [hx,Rs.bind]
   refine .er j e hj he rfl (loopW_end ?_)
   simp only [S36_5step,S36_5,hw,hy,Option.bind_some,bneI he,cond_true]
theorem readN_np (po:ParOk) (t:List PV) (ht:TNm t) (i:Nat) (hi:i≤t.length):NL t (notesS parV kindOf (ts t i)) (F36 0 t (i:Int)):=by
 unfold F36 notesS
 rw [isN_eq,Option.bind_some]
 cases h:isS 4 [91] (ts t i) with
 | false=>exact .ok [] i hi rfl rfl
 | true=>
  simp only [Bool.not_true,cond_false,cond_true,loopQ0,ts_tail]
  rcases reads_np po t ht _ i [] (Nat.le_refl _) (isS_lt h) (by simp) with ⟨v,j,hj,hx,hy⟩ | ⟨j,e,hj,he,hx,hy⟩
  ·exact .ok v j hj hx (by rw [hy];rfl)
  ·exact .er j e hj he hx (by rw [hy];rfl)
theorem notes_par (po:ParOk) (t:List PV) (ht:TNm t) (i:Nat) (hi:i≤t.length) (q:QF):Par t q (fun v s=>(v,s)) (notesS parV kindOf (ts t i)) (F205 0 () (t,(i:Int),q)):=by
 unfold F205
 rcases readN_np po t ht i hi with ⟨v,j,hj,hx,hy⟩ | ⟨j,e,hj,he,hx,hy⟩
 ·exact .ok v j hj hx (by simp only [hy,Option.bind_some];rfl)
 ·exact .er j e hj he hx (by simp only [hy,Option.bind_some,bneI he,cond_true])
end Go.Ab
namespace Go.Ab
open Go Go.Proofs
set_option maxRecDepth 100000
theorem kind_none (w:List UInt8) (h:w≠[98,111,111,108]∧w≠[105,51,50]∧w≠[105,54,52]∧w≠[117,51,50]∧w≠[117,54,52]∧w≠[100,111,117,98,108,101]∧w≠[116,101,120,116]∧w≠[98,121,116,101,115]):∃ n,F19 0 w=some n∧n=0:=by
 obtain ⟨h1,h2,h3,h4,h5,h6,h7,h8⟩:=h
 have g1:(([98,111,111,108]:List UInt8)==w)=false:=by rw [beq_eq_false_iff_ne];exact fun h=>h1 h.symm
 have g2:(([105,51,50]:List UInt8)==w)=false:=by rw [beq_eq_false_iff_ne];exact fun h=>h2 h.symm
 have g3:(([105,54,52]:List UInt8)==w)=false:=by rw [beq_eq_false_iff_ne];exact fun h=>h3 h.symm
 have g4:(([117,51,50]:List UInt8)==w)=false:=by rw [beq_eq_false_iff_ne];exact fun h=>h4 h.symm
 have g5:(([117,54,52]:List UInt8)==w)=false:=by rw [beq_eq_false_iff_ne];exact fun h=>h5 h.symm
 have g6:(([100,111,117,98,108,101]:List UInt8)==w)=false:=by rw [beq_eq_false_iff_ne];exact fun h=>h6 h.symm
 have g7:(([116,101,120,116]:List UInt8)==w)=false:=by rw [beq_eq_false_iff_ne];exact fun h=>h7 h.symm
 have g8:(([98,121,116,101,115]:List UInt8)==w)=false:=by rw [beq_eq_false_iff_ne];exact fun h=>h8 h.symm
 refine ⟨0,?_,rfl⟩
 unfold F19
 simp only [loopQ0]
 have e:loopW (S19_3step 0) (w,(1:Int))=some (.inr ()):=by
  refine loopW_of 9 ?_
  simp [loopR,S19_3step,S19_3,F21,g1,g2,g3,g4,g5,g6,g7,g8,(by decide:IntKind.wrap .i64 2=2),(by decide:IntKind.wrap .i64 3=3),(by decide:IntKind.wrap .i64 4=4),(by decide:IntKind.wrap .i64 5=5),(by decide:IntKind.wrap .i64 6=6),(by decide:IntKind.wrap .i64 7=7),(by decide:IntKind.wrap .i64 8=8),(by decide:IntKind.wrap .i64 9=9)]
 rw [e];rfl
theorem kind_words (w:List UInt8):∃ n,F18 0 w=some n∧F19 0 w=some n:=by
 by_cases h1:w=[98,111,111,108]
 ·subst h1
  refine ⟨1,?_,?_⟩
  ·unfold F18 F49;simp only [Option.bind_some,loopQ0];rw [loopW_of 9 (y:=.inl 1) (by kernel_rfl)];rfl
  ·unfold F19;simp only [loopQ0];rw [loopW_of 9 (y:=.inl 1) (by kernel_rfl)];rfl
 by_cases h2:w=[105,51,50]
 ·subst h2
  refine ⟨2,?_,?_⟩
  ·unfold F18 F49;simp only [Option.bind_some,loopQ0];rw [loopW_of 9 (y:=.inl 2) (by kernel_rfl)];rfl
  ·unfold F19;simp only [loopQ0];rw [loopW_of 9 (y:=.inl 2) (by kernel_rfl)];rfl
 by_cases h3:w=[105,54,52]
 ·subst h3
  refine ⟨3,?_,?_⟩
  ·unfold F18 F49;simp only [Option.bind_some,loopQ0];rw [loopW_of 9 (y:=.inl 3) (by kernel_rfl)];rfl
  ·unfold F19;simp only [loopQ0];rw [loopW_of 9 (y:=.inl 3) (by kernel_rfl)];rfl
 by_cases h4:w=[117,51,50]
 ·subst h4
  refine ⟨4,?_,?_⟩
  ·unfold F18 F49;simp only [Option.bind_some,loopQ0];rw [loopW_of 9 (y:=.inl 4) (by kernel_rfl)];rfl
  ·unfold F19;simp only [loopQ0];rw [loopW_of 9 (y:=.inl 4) (by kernel_rfl)];rfl
 by_cases h5:w=[117,54,52]
 ·subst h5
  refine ⟨5,?_,?_⟩
  ·unfold F18 F49;simp only [Option.bind_some,loopQ0];rw [loopW_of 9 (y:=.inl 5) (by kernel_rfl)];rfl
  ·unfold F19;simp only [loopQ0];rw [loopW_of 9 (y:=.inl 5) (by kernel_rfl)];rfl
 by_cases h6:w=[100,111,117,98,108,101]
 ·subst h6
  refine ⟨6,?_,?_⟩
  ·unfold F18 F49;simp only [Option.bind_some,loopQ0];rw [loopW_of 9 (y:=.inl 6) (by kernel_rfl)];rfl
  ·unfold F19;simp only [loopQ0];rw [loopW_of 9 (y:=.inl 6) (by kernel_rfl)];rfl
 by_cases h7:w=[116,101,120,116]
 ·subst h7
  refine ⟨7,?_,?_⟩
  ·unfold F18 F49;simp only [Option.bind_some,loopQ0];rw [loopW_of 9 (y:=.inl 7) (by kernel_rfl)];rfl
  ·unfold F19;simp only [loopQ0];rw [loopW_of 9 (y:=.inl 7) (by kernel_rfl)];rfl
 by_cases h8:w=[98,121,116,101,115]
 ·subst h8
  refine ⟨8,?_,?_⟩
  ·unfold F18 F49;simp only [Option.bind_some,loopQ0];rw [loopW_of 9 (y:=.inl 8) (by kernel_rfl)];rfl
  ·unfold F19;simp only [loopQ0];rw [loopW_of 9 (y:=.inl 8) (by kernel_rfl)];rfl
 have g1:(([98,111,111,108]:List UInt8)==w)=false:=by rw [beq_eq_false_iff_ne];exact fun h=>h1 h.symm
 have g2:(([105,51,50]:List UInt8)==w)=false:=by rw [beq_eq_false_iff_ne];exact fun h=>h2 h.symm
 have g3:(([105,54,52]:List UInt8)==w)=false:=by rw [beq_eq_false_iff_ne];exact fun h=>h3 h.symm
 have g4:(([117,51,50]:List UInt8)==w)=false:=by rw [beq_eq_false_iff_ne];exact fun h=>h4 h.symm
 have g5:(([117,54,52]:List UInt8)==w)=false:=by rw [beq_eq_false_iff_ne];exact fun h=>h5 h.symm
 have g6:(([100,111,117,98,108,101]:List UInt8)==w)=false:=by rw [beq_eq_false_iff_ne];exact fun h=>h6 h.symm
 have g7:(([116,101,120,116]:List UInt8)==w)=false:=by rw [beq_eq_false_iff_ne];exact fun h=>h7 h.symm
 have g8:(([98,121,116,101,115]:List UInt8)==w)=false:=by rw [beq_eq_false_iff_ne];exact fun h=>h8 h.symm
 refine ⟨0,?_,?_⟩
 ·unfold F18 F49
  simp only [Option.bind_some,loopQ0]
  have e:loopW (S18_3step 0) (w,PV.agg [(PV.str ([98,111,111,108]:List UInt8)),(PV.str ([105,51,50]:List UInt8)),(PV.str ([105,54,52]:List UInt8)),(PV.str ([117,51,50]:List UInt8)),(PV.str ([117,54,52]:List UInt8)),(PV.str ([100,111,117,98,108,101]:List UInt8)),(PV.str ([116,101,120,116]:List UInt8)),(PV.str ([98,121,116,101,115]:List UInt8))],(0:Int))=some (.inr ()):=by
   refine loopW_of 9 ?_
   simp [loopR,S18_3step,S18_3,inRange,PV.fld,PV.parts,PV.asStr,g1,g2,g3,g4,g5,g6,g7,g8,(by decide:IntKind.wrap .i64 1=1),(by decide:IntKind.wrap .i64 2=2),(by decide:IntKind.wrap .i64 3=3),(by decide:IntKind.wrap .i64 4=4),(by decide:IntKind.wrap .i64 5=5),(by decide:IntKind.wrap .i64 6=6),(by decide:IntKind.wrap .i64 7=7),(by decide:IntKind.wrap .i64 8=8)]
  rw [e];rfl
 ·unfold F19
  simp only [loopQ0]
  have e:loopW (S19_3step 0) (w,(1:Int))=some (.inr ()):=by
   refine loopW_of 9 ?_
   simp [loopR,S19_3step,S19_3,F21,g1,g2,g3,g4,g5,g6,g7,g8,(by decide:IntKind.wrap .i64 2=2),(by decide:IntKind.wrap .i64 3=3),(by decide:IntKind.wrap .i64 4=4),(by decide:IntKind.wrap .i64 5=5),(by decide:IntKind.wrap .i64 6=6),(by decide:IntKind.wrap .i64 7=7),(by decide:IntKind.wrap .i64 8=8),(by decide:IntKind.wrap .i64 9=9)]
  rw [e];rfl
end Go.Ab
namespace Go.Ab
open Go
set_option maxRecDepth 100000
theorem ts_inj {t:List PV} {j k:Nat} (hj:j≤t.length) (hk:k≤t.length) (h:ts t j=ts t k):j=k:=by
 have:=congrArg List.length h
 rw [ts_length,ts_length] at this
 omega
theorem wordK_eq (w:List UInt8):F18 0 w=some (wordK w)∧F19 0 w=some (wordK w):=by
 obtain ⟨n,h1,h2⟩:=kind_words w
 suffices h:n=wordK w by rw [←h];exact ⟨h1,h2⟩
 have hs:∀ (x:List UInt8) (k:Int),F19 0 x=some k→w=x→n=k:=fun x k hk e=>by
  subst e;rw [h2] at hk;cases hk;rfl
 unfold wordK
 by_cases e1:w=[98,111,111,108]
 ·rw [hs _ 1 (by unfold F19;simp only [loopQ0];rw [loopW_of 9 (y:=.inl 1) (by kernel_rfl)];rfl) e1,e1];rfl
 by_cases e2:w=[105,51,50]
 ·rw [hs _ 2 (by unfold F19;simp only [loopQ0];rw [loopW_of 9 (y:=.inl 2) (by kernel_rfl)];rfl) e2,e2];rfl
 by_cases e3:w=[105,54,52]
 ·rw [hs _ 3 (by unfold F19;simp only [loopQ0];rw [loopW_of 9 (y:=.inl 3) (by kernel_rfl)];rfl) e3,e3];rfl
 by_cases e4:w=[117,51,50]
 ·rw [hs _ 4 (by unfold F19;simp only [loopQ0];rw [loopW_of 9 (y:=.inl 4) (by kernel_rfl)];rfl) e4,e4];rfl
 by_cases e5:w=[117,54,52]
 ·rw [hs _ 5 (by unfold F19;simp only [loopQ0];rw [loopW_of 9 (y:=.inl 5) (by kernel_rfl)];rfl) e5,e5];rfl
 by_cases e6:w=[100,111,117,98,108,101]
 ·rw [hs _ 6 (by unfold F19;simp only [loopQ0];rw [loopW_of 9 (y:=.inl 6) (by kernel_rfl)];rfl) e6,e6];rfl
 by_cases e7:w=[116,101,120,116]
 ·rw [hs _ 7 (by unfold F19;simp only [loopQ0];rw [loopW_of 9 (y:=.inl 7) (by kernel_rfl)];rfl) e7,e7];rfl
 by_cases e8:w=[98,121,116,101,115]
 ·rw [hs _ 8 (by unfold F19;simp only [loopQ0];rw [loopW_of 9 (y:=.inl 8) (by kernel_rfl)];rfl) e8,e8];rfl
 have g:∀ x:List UInt8,w≠x→(w==x)=false:=fun x h=>beq_eq_false_iff_ne.2 h
 rw [g _ e1,g _ e2,g _ e3,g _ e4,g _ e5,g _ e6,g _ e7,g _ e8]
 obtain ⟨m,q1,q2⟩:=kind_none w ⟨e1,e2,e3,e4,e5,e6,e7,e8⟩
 rw [h2] at q1;cases q1
 exact q2
theorem typ_par (t:List PV) (ht:TOk t) (i:Nat) (hi:i≤t.length) (q:QF):Par t q (fun v s=>(v,s)) (typS (ts t i)) (F52 0 () (t,(i:Int),q)):=by
 unfold F52 typS
 rcases typeText_par t ht i hi q with ⟨v,j,hj,hx,hy⟩ | ⟨j,e,hj,he,hx,hy⟩
 ·rw [hx,Rs.bind_ok]
  simp only [hy,Option.bind_some,sumE_inl,(wordK_eq v).1]
  refine .ok (tyOf v) j hj rfl ?_
  unfold tyOf
  cases h:(wordK v==0) with
  | true=>have:(wordK v != 0)=false:=by simp [bne,h]
          simp only [this,cond_true,cond_false]
  | false=>have:(wordK v != 0)=true:=by simp [bne,h]
           simp only [this,cond_true,cond_false]
 ·rw [hx,Rs.bind_er]
  exact .er j e hj he rfl (by simp only [hy,Option.bind_some,sumE_inr])
theorem wordK_rng (w:List UInt8):0≤wordK w∧wordK w≤8:=by
 unfold wordK
 cases (w==[98,111,111,108])<;>cases (w==[105,51,50])<;>cases (w==[105,54,52])<;>cases (w==[117,51,50])<;>cases (w==[117,54,52])<;>cases (w==[100,111,117,98,108,101])<;>cases (w==[116,101,120,116])<;>cases (w==[98,121,116,101,115])<;>decide
theorem tyOf_rng (s:List UInt8):0≤((tyOf s).fld 0).asInt∧((tyOf s).fld 0).asInt≤8:=by
 unfold tyOf
 cases (wordK s==0) with
 | true=>exact ⟨Int.le_refl 0,(by decide:(0:Int)≤8)⟩
 | false=>exact wordK_rng s
theorem typS_rng {r z:List Tk} {ty:PV} (h:typS r=.ok ty z):0≤(ty.fld 0).asInt∧(ty.fld 0).asInt≤8:=by
 unfold typS at h
 cases hx:typeTextS r with
 | ok s q=>rw [hx] at h;simp only [Rs.bind_ok,Rs.ok.injEq] at h;rw [←h.1];exact tyOf_rng s
 | er q e=>rw [hx] at h;cases h
theorem scalar_par (po:ParOk) (k:Int) (s:List UInt8) (hs:Reach k s) (t:List PV) (ht:TOk t) (j:Nat) (hj:j+1≤t.length) (q:QF):
 Par t q (fun v s=>(v,s)) (valS (parV k s) (ts t j) (ts t (j+1))) (F133 0 () k s (t,((j+1:Nat):Int),q)):=by
 have hl:=ht.len
 have w:IntKind.wrap .i64 (((j+1:Nat):Int)-1)=(j:Int):=by rw [wrap64 (by omega) (by omega)];omega
 unfold F133 valS
 rw [po k s hs,Option.bind_some]
 by_cases hz:(parV k s).2=0
 ·have z1:((parV k s).2 != 0)=false:=by rw [hz];rfl
  have z2:((parV k s).2==0)=true:=by rw [hz];rfl
  simp only [z1,z2,cond_true,cond_false]
  exact .ok _ (j+1) hj rfl rfl
 ·simp only [bneI hz,beqI hz,cond_true,cond_false,w]
  exact .er j _ (by omega) hz rfl rfl
theorem anyText_ok {t:List PV} {i j:Nat} {v:List UInt8} (hj:j≤t.length) (h:anyTextS (ts t i)=.ok v (ts t j)):i<t.length∧v=((t.getD i .bad).fld 1).asStr∧j=i+1:=by
 unfold anyTextS takeS at h
 cases hb:(kindS (ts t i)==3) with
 | false=>rw [hb] at h;cases h
 | true=>
  have hlt:=kindS_lt (show ((3:Int)==0)=false from rfl) hb
  rw [hb,textS_at hlt,ts_tail] at h
  simp only [cond_true,Rs.ok.injEq] at h
  exact ⟨hlt,h.1.symm,ts_inj hj hlt h.2.symm⟩
theorem litText_par (po:ParOk) (k:Int) (f:List UInt8→List UInt8) (hf:∀ s:List UInt8,s.length≤16384→Reach k (f s)) (g:List UInt8×Q0→Option (List UInt8)) (hg:∀ (s:List UInt8) z,s.length≤16384→g (s,z)=some (f s)) (t:List PV) (ht:TNum t) (i:Nat) (hi:i≤t.length) (q:QF):
 Par t q (fun v s=>(v,s)) ((anyTextS (ts t i)).bind fun s r=>valS (parV k (f s)) (ts t i) r) ((F95 0 () (t,(i:Int),q)).bind fun z=>sumE (fun y31=>(g y31).bind fun y43=>(F133 0 () k y43 y31.2).bind fun z=>sumE (fun y33=>some (.inl y33)) (fun y34=>some (.inr y34)) z) (fun y32=>some (.inr y32)) z):=by
 rcases anyText_par t ht.toTOk i hi q with ⟨v,j,hj,hx,hy⟩ | ⟨j,e,hj,he,hx,hy⟩
 ·obtain ⟨hlt,rfl,rfl⟩:=anyText_ok hj hx
  have hs:=ht.sml _ (getD_mem hlt .bad)
  simp only [hx,hy,Rs.bind_ok,Option.bind_some,sumE_inl,hg _ _ hs]
  rcases scalar_par po k _ (hf _ hs) t ht.toTOk i hlt q with ⟨v,j,hj,hx,hy⟩ | ⟨j,e,hj,he,hx,hy⟩
  ·exact .ok v j hj hx (by simp only [hy,Option.bind_some,sumE_inl])
  ·exact .er j e hj he hx (by simp only [hy,Option.bind_some,sumE_inr])
 ·simp only [hx,hy,Rs.bind_er,Option.bind_some,sumE_inr]
  exact .er j e hj he rfl rfl
theorem litInt_par (po:ParOk) (k:Int) (hk:2≤k∧k≤5) (t:List PV) (ht:TNum t) (neg:Bool) (pre:List UInt8) (hp:pre=bif neg then [45] else []) (i:Nat) (hi:i≤t.length) (q:QF):Par t q (fun v s=>(v,s)) (intS parV k neg (ts t i))
 ((F117 0 () (t,(i:Int),q)).bind fun y60=>bif (y60.1 != (2:Int)) then some (.inr ((PV.agg [(PV.int y60.2.2.1),(PV.int (2:Int))]),y60.2)) else
   bif inRange (IntKind.wrap .i64 (IntKind.wrap .i64 (y60.2.2.1+(1:Int))-1)) y60.2.1.length then
   (F135 0 (IntKind.wrap .u64 ((y60.2.1.getD (IntKind.wrap .i64 (IntKind.wrap .i64 (y60.2.2.1+(1:Int))-1)).toNat .bad).fld 2).asInt) (10:Int)).bind fun y70=>
   bif decide (pre.length+y70.length≤strMax) then
   (F133 0 () k (pre++y70) (y60.2.1,IntKind.wrap .i64 (y60.2.2.1+(1:Int)),y60.2.2.2)).bind fun z=>sumE (fun y71=>some (.inl y71)) (fun y72=>some (.inr y72)) z
   else none else none):=by
 have hl:=ht.len
 rw [kindP_eq,Option.bind_some]
 unfold intS
 by_cases hb:kindS (ts t i)=2
 ·have e1:(kindS (ts t i) != 2)=false:=by rw [hb];rfl
  have e2:(kindS (ts t i)==2)=true:=by rw [hb];rfl
  have h:i<t.length:=kindS_lt rfl e2
  obtain ⟨u,hu,h1,h2⟩:=wrapN (n:=((t.getD i .bad).fld 2).asInt)
  have hlen:=decB_len u
  have hpl:pre.length≤1:=by subst hp;cases neg<;>simp
  have l1:decide (pre.length+(decB u).length≤strMax)=true:=leStr (by omega)
  have w1:IntKind.wrap .i64 ((i:Int)+1)=((i+1:Nat):Int):=wadd' (by omega)
  have w2:IntKind.wrap .i64 (((i+1:Nat):Int)-1)=(i:Int):=by rw [wrap64 (by omega) (by omega)];omega
  simp only [e1,e2,cond_false,cond_true,w1,w2,inRange_nat,h,decide_true,Int.toNat_natCast,h1,fmtB hu,Option.bind_some,l1,numS_at h,←hp,ts_tail]
  rcases scalar_par po k (pre++decB u) (Or.inr (Or.inr ⟨hk,neg,u,hu,by rw [hp]⟩)) t ht.toTOk i h q with ⟨v,j,hj,hx,hy⟩ | ⟨j,e,hj,he,hx,hy⟩
  ·exact .ok v j hj hx (by simp only [hy,Option.bind_some,sumE_inl])
  ·exact .er j e hj he hx (by simp only [hy,Option.bind_some,sumE_inr])
 ·simp only [bneI hb,beqI hb,cond_true,cond_false]
  exact .er i 2 hi (by decide) rfl rfl
theorem lit_par (po:ParOk) (k:Int) (hk:0≤k∧k≤8) (t:List PV) (ht:TNum t) (i:Nat) (hi:i≤t.length) (q:QF):Par t q (fun v s=>(v,s)) (litS parV k (ts t i)) (F63 0 () k (t,(i:Int),q)):=by
 have hl:=ht.len
 unfold F63 litS
 by_cases k0:k=0
 ·subst k0
  rw [show ((0:Int)==0)=true from rfl,cond_true,cond_true]
  rcases part_par t ht.toTOk i hi q with ⟨v,j,hj,hx,hy⟩ | ⟨j,e,hj,he,hx,hy⟩
  ·simp only [hx,hy,Rs.bind_ok,Option.bind_some,sumE_inl]
   exact .ok (itemVal v) j hj rfl rfl
  ·simp only [hx,hy,Rs.bind_er,Option.bind_some,sumE_inr]
   exact .er j e hj he rfl rfl
 rw [beqI k0,cond_false,cond_false]
 by_cases k1:k=1
 ·subst k1
  rw [show ((1:Int)==1)=true from rfl,cond_true,cond_true]
  have w1:IntKind.wrap .i64 ((i:Int)+1)=((i+1:Nat):Int):=wadd' (by omega)
  have w2:IntKind.wrap .i64 (((i+1:Nat):Int)-1)=(i:Int):=by rw [wrap64 (by omega) (by omega)];omega
  have fin:∀ h:i<t.length,Par t q (fun v s=>(v,s)) (valS (parV 1 (textS (ts t i))) (ts t i) (ts t (i+1))) ((F133 0 () 1 ((t.getD i .bad).fld 1).asStr (t,((i+1:Nat):Int),q)).bind fun z=>sumE (fun y18=>some (.inl y18)) (fun y19=>some (.inr y19)) z):=fun h=>by
   have hs:=ht.sml _ (getD_mem h .bad)
   rw [textS_at h]
   rcases scalar_par po 1 ((t.getD i .bad).fld 1).asStr (Or.inl ⟨Or.inl rfl,hs⟩) t ht.toTOk i h q with ⟨v,j,hj,hx,hy⟩ | ⟨j,e,hj,he,hx,hy⟩
   ·exact .ok v j hj hx (by simp only [hy,Option.bind_some,sumE_inl])
   ·exact .er j e hj he hx (by simp only [hy,Option.bind_some,sumE_inr])
  simp only [sign_k [116,114,117,101] 1 (by decide) t ht.toTOk i hi,sign_k [102,97,108,115,101] 1 (by decide) t ht.toTOk i hi,Option.bind_some]
  cases h1:isS 1 [116,114,117,101] (ts t i) with
  | true=>
   have h:=isS_lt h1
   simp only [Bool.not_true,cond_false,Bool.true_or,cond_true,w1,w2,inRange_nat,h,decide_true,Int.toNat_natCast,ts_tail]
   exact fin h
  | false=>
   cases h2:isS 1 [102,97,108,115,101] (ts t i) with
   | true=>
    have h:=isS_lt h2
    simp only [Bool.not_true,Bool.not_false,cond_false,Bool.or_true,cond_true,w1,w2,inRange_nat,h,decide_true,Int.toNat_natCast,ts_tail]
    exact fin h
   | false=>
    simp only [Bool.not_false,cond_true,Bool.or_false,cond_false]
    exact .er i 2 hi (by decide) rfl rfl
 rw [beqI k1,cond_false,cond_false]
 have id_par:=fun (h:k=6∨k=8)=>litText_par po k (fun s=>s) (fun s hs=>Or.inl ⟨Or.inr h,hs⟩) (fun y=>some y.1) (fun s z h=>rfl) t ht i hi q
 by_cases k6:k=6
 ·subst k6
  rw [show ((6:Int)==6)=true from rfl,cond_true,Bool.true_or,cond_true]
  exact id_par (Or.inl rfl)
 by_cases k8:k=8
 ·subst k8
  rw [show ((8:Int)==6)=false from rfl,show ((8:Int)==8)=true from rfl,cond_false,cond_true,Bool.or_true,cond_true]
  exact id_par (Or.inr rfl)
 rw [beqI k6,beqI k8,cond_false,cond_false,Bool.or_false,cond_false]
 by_cases k7:k=7
 ·subst k7
  rw [show ((7:Int)==7)=true from rfl,cond_true,cond_true]
  exact litText_par po 7 quote (fun s h=>Or.inr (Or.inl ⟨rfl,s,h,rfl⟩)) (fun y=>F134 0 y.1) (fun s z h=>quote_eq s (by omega)) t ht i hi q
 rw [beqI k7,cond_false,cond_false]
 simp only [may_k [45] 4 (by decide) t ht.toTOk i hi,Option.bind_some]
 cases hs:isS 4 [45] (ts t i) with
 | true=>
  simp only [cond_true,ts_tail]
  exact litInt_par po k (by omega) t ht true [45] rfl (i+1) (isS_lt hs) q
 | false=>
  simp only [cond_false]
  exact litInt_par po k (by omega) t ht false [] rfl i hi q
end Go.Ab
namespace Go.Ab
open Go
set_option maxRecDepth 100000
theorem Par.seq {α β R R':Type} {t:List PV} {q:QF} {mk:α→Q0→R} {mk':β→Q0→R'} {x:Rs α} {y:Option (R⊕(PV×Q0))} {f:α→List Tk→Rs β} {g:R→Option (R'⊕(PV×Q0))} (h:Par t q mk x y)
 (hc:∀ v j,j≤t.length→x=.ok v (ts t j)→Par t q mk' (f v (ts t j)) (g (mk v (t,((j:Nat):Int),q)))):Par t q mk' (x.bind f) (y.bind fun z=>sumE g (fun e=>some (.inr e)) z):=by
 rcases h with ⟨v,j,hj,hx,hy⟩ | ⟨j,e,hj,he,hx,hy⟩
 ·have:=hc v j hj hx
  rw [hx,hy]
  exact this
 ·rw [hx,hy]
  exact .er j e hj he rfl rfl
theorem Par.map {α β R R':Type} {t:List PV} {q:QF} {mk:α→Q0→R} {mk':β→Q0→R'} {x:Rs α} {y:Option (R⊕(PV×Q0))} {f:α→β} {g:R→R'} (h:Par t q mk x y)
 (hc:∀ v s,g (mk v s)=mk' (f v) s):Par t q mk' (x.bind fun v r=>.ok (f v) r) (y.bind fun z=>sumE (fun a=>some (.inl (g a))) (fun e=>some (.inr e)) z):=
 h.seq fun v j hj hx=>.ok (f v) j hj rfl (by rw [hc])
def fld0 (card key:Int) (ty:PV) (un:List UInt8):PV:=PV.agg [PV.int 0,PV.str [],PV.int card,PV.int key,ty,PV.str un,PV.bool false,zeroF,PV.slice []]
theorem tail_end (po:ParOk) (card key:Int) (ty:PV) (un nm:List UInt8) (n:Int) (hd:Bool) (df:PV) (t:List PV) (ht:TNum t) (j:Nat) (hj:j≤t.length) (q:QF):
 Par t q (fun v s=>(v,s)) ((notesS parV kindOf (ts t j)).bind fun l r5=>(eatS 4 [59] r5).bind fun _ r6=>.ok (fieldOf n nm card key ty un hd df l) r6)
  ((F205 0 () (t,(j:Int),q)).bind fun z=>sumE (fun y12=>(F94 0 () [59] y12.2).bind fun z=>sumE (fun y14=>
    some (.inl (fieldOf n nm card key ty un hd df y12.1,y14))) (fun y15=>some (.inr y15)) z) (fun y13=>some (.inr y13)) z):=
 (notes_par po t ht.toTNm j hj q).seq fun l k hk _=>(eat_k [59] 4 (by decide) t ht.toTOk k hk q).seq fun _ m hm _=>.ok _ m hm rfl rfl
theorem tail_par (po:ParOk) (card key:Int) (ty:PV) (un:List UInt8) (wd:Bool) (hty:0≤(ty.fld 0).asInt∧(ty.fld 0).asInt≤8) (t:List PV) (ht:TNum t) (i:Nat) (hi:i≤t.length) (q:QF):
 Par t q (fun v s=>(v,s)) (tailS parV kindOf card key ty un wd (ts t i)) (F119 0 () (fld0 card key ty un) wd (t,(i:Int),q)):=by
 unfold F119 tailS
 refine (part_par t ht.toTOk i hi q).seq fun nm j hj _=>(eat_k [61] 4 (by decide) t ht.toTOk j hj q).seq fun _ k hk _=>(num_par t ht.toTOk k hk 65535 (by decide) ht.num q).seq fun n m hm _=>?_
 cases wd with
 | true=>
  simp only [cond_true,may_k [100,101,102,97,117,108,116] 1 (by decide) t ht.toTOk m hm,Option.bind_some,dfltS,Bool.true_and]
  cases hd:isS 1 [100,101,102,97,117,108,116] (ts t m) with
  | true=>
   simp only [cond_true,ts_tail]
   have hlt:=isS_lt hd
   rcases lit_par po ((ty.fld 0).asInt) hty t ht (m+1) hlt q with ⟨v,p,hp,hx,hy⟩ | ⟨p,e,hp,he,hx,hy⟩
   ·rw [hx,show F63 0 () (((fld0 card key ty un).fld 4).fld 0).asInt (t,((m+1:Nat):Int),q)=F63 0 () (ty.fld 0).asInt (t,((m+1:Nat):Int),q) from rfl,hy]
    exact tail_end po card key ty un nm n true v t ht p hp q
   ·rw [hx,show F63 0 () (((fld0 card key ty un).fld 4).fld 0).asInt (t,((m+1:Nat):Int),q)=F63 0 () (ty.fld 0).asInt (t,((m+1:Nat):Int),q) from rfl,hy]
    exact .er p e hp he rfl rfl
  | false=>
   simp only [cond_false,Rs.bind_ok]
   exact tail_end po card key ty un nm n false zeroF t ht m hm q
 | false=>
  simp only [cond_false,dfltS,Bool.false_and,Rs.bind_ok]
  exact tail_end po card key ty un nm n false zeroF t ht m hm q
theorem card_eq (w:List UInt8):F120 0 w=some (cardK w):=by
 unfold F120 cardK
 cases (w==[114,101,113,117,105,114,101,100])<;>cases (w==[111,112,116,105,111,110,97,108])<;>cases (w==[112,108,97,105,110])<;>cases (w==[108,105,115,116])<;>rfl
theorem field_par (po:ParOk) (t:List PV) (ht:TNum t) (i:Nat) (hi:i≤t.length) (q:QF):Par t q (fun v s=>(v,s)) (fieldS parV kindOf (ts t i)) (F55 0 () (t,(i:Int),q)):=by
 have hl:=ht.len
 have o:=ht.toTOk
 unfold F55 fieldS
 simp only [may_k [109,97,112] 1 (by decide) t o i hi,Option.bind_some]
 cases h0:isS 1 [109,97,112] (ts t i) with
 | true=>
  simp only [cond_true,ts_tail]
  refine (eat_k [60] 4 (by decide) t o (i+1) (isS_lt h0) q).seq fun _ j hj _=>?_
  simp only [kindP_eq,Option.bind_some]
  by_cases hb:kindS (ts t j)=1
  ·have e1:(kindS (ts t j) != 1)=false:=by rw [hb];rfl
   have e2:(kindS (ts t j)==1)=true:=by rw [hb];rfl
   have h:j<t.length:=kindS_lt rfl e2
   simp only [e1,e2,imp,inRange_nat,h,decide_true,Bool.not_false,cond_true,cond_false,Int.toNat_natCast,(wordK_eq _).1,Option.bind_some,textS_at h,Bool.true_and,wadd' (show j≤9223372036854775000 by omega),ts_tail]
   cases hk:(wordK ((t.getD j .bad).fld 1).asStr==0) with
   | true=>exact .er j 2 hj (by decide) rfl rfl
   | false=>
    simp only [Bool.not_false,cond_true,cond_false]
    exact (eat_k [44] 4 (by decide) t o (j+1) h q).seq fun _ k hk _=>(typ_par t o k hk q).seq fun ty m hm hty=>(eat_k [62] 4 (by decide) t o m hm q).seq fun _ p hp _=>by
     rcases tail_par po 5 (wordK ((t.getD j .bad).fld 1).asStr) ty [] false (typS_rng hty) t ht p hp q with ⟨v,a,ha,hx,hy⟩ | ⟨a,e,ha,he,hx,hy⟩
     ·exact .ok v a ha hx (by
       have hy:F119 0 () (PV.agg [(PV.int (0:Int)),(PV.str ([]:List UInt8)),(PV.int (5:Int)),(PV.int (wordK ((t.getD j .bad).fld 1).asStr)),ty,(PV.str ([]:List UInt8)),(PV.bool false),(PV.agg [(PV.int (0:Int)),(PV.int (0:Int)),(PV.str ([]:List UInt8)),(PV.slice []),(PV.slice []),(PV.slice []),(PV.slice [])]),(PV.slice [])]) false (t,((p:Nat):Int),q)=_:=hy
       simp only [hy,Option.bind_some,sumE_inl])
     ·exact .er a e ha he hx (by
       have hy:F119 0 () (PV.agg [(PV.int (0:Int)),(PV.str ([]:List UInt8)),(PV.int (5:Int)),(PV.int (wordK ((t.getD j .bad).fld 1).asStr)),ty,(PV.str ([]:List UInt8)),(PV.bool false),(PV.agg [(PV.int (0:Int)),(PV.int (0:Int)),(PV.str ([]:List UInt8)),(PV.slice []),(PV.slice []),(PV.slice []),(PV.slice [])]),(PV.slice [])]) false (t,((p:Nat):Int),q)=_:=hy
       simp only [hy,Option.bind_some,sumE_inr])
  ·have e1:(kindS (ts t j) != 1)=true:=bneI hb
   have e2:(kindS (ts t j)==1)=false:=beqI hb
   simp only [e1,e2,imp,Bool.not_true,Bool.not_false,cond_true,cond_false,cond_same,Option.bind_some,Bool.false_and]
   exact .er j 2 hj (by decide) rfl rfl
 | false=>
  simp only [cond_false,kindP_eq,Option.bind_some]
  by_cases hb:kindS (ts t i)=1
  ·have e1:(kindS (ts t i) != 1)=false:=by rw [hb];rfl
   have e2:(kindS (ts t i)==1)=true:=by rw [hb];rfl
   have h:i<t.length:=kindS_lt rfl e2
   simp only [e1,e2,imp,inRange_nat,h,decide_true,Bool.not_false,cond_true,cond_false,Int.toNat_natCast,card_eq,Option.bind_some,textS_at h,Bool.true_and,wadd' (show i≤9223372036854775000 by omega),ts_tail]
   cases hk:(cardK ((t.getD i .bad).fld 1).asStr==0) with
   | true=>exact .er i 2 hi (by decide) rfl rfl
   | false=>
    simp only [Bool.not_false,cond_true,cond_false]
    exact (typ_par t o (i+1) h q).seq fun ty p hp hty=>by
     rcases tail_par po (cardK ((t.getD i .bad).fld 1).asStr) 0 ty [] true (typS_rng hty) t ht p hp q with ⟨v,a,ha,hx,hy⟩ | ⟨a,e,ha,he,hx,hy⟩
     ·exact .ok v a ha hx (by
       have hy:F119 0 () (PV.agg [(PV.int (0:Int)),(PV.str ([]:List UInt8)),(PV.int (cardK ((t.getD i .bad).fld 1).asStr)),(PV.int (0:Int)),ty,(PV.str ([]:List UInt8)),(PV.bool false),(PV.agg [(PV.int (0:Int)),(PV.int (0:Int)),(PV.str ([]:List UInt8)),(PV.slice []),(PV.slice []),(PV.slice []),(PV.slice [])]),(PV.slice [])]) true (t,((p:Nat):Int),q)=_:=hy
       simp only [hy,Option.bind_some,sumE_inl])
     ·exact .er a e ha he hx (by
       have hy:F119 0 () (PV.agg [(PV.int (0:Int)),(PV.str ([]:List UInt8)),(PV.int (cardK ((t.getD i .bad).fld 1).asStr)),(PV.int (0:Int)),ty,(PV.str ([]:List UInt8)),(PV.bool false),(PV.agg [(PV.int (0:Int)),(PV.int (0:Int)),(PV.str ([]:List UInt8)),(PV.slice []),(PV.slice []),(PV.slice []),(PV.slice [])]),(PV.slice [])]) true (t,((p:Nat):Int),q)=_:=hy
       simp only [hy,Option.bind_some,sumE_inr])
  ·have e1:(kindS (ts t i) != 1)=true:=bneI hb
   have e2:(kindS (ts t i)==1)=false:=beqI hb
   simp only [e1,e2,imp,Bool.not_true,Bool.not_false,cond_true,cond_false,cond_same,Option.bind_some,Bool.false_and]
   exact .er i 2 hi (by decide) rfl rfl
end Go.Ab
namespace Go.Ab
open Go
set_option maxRecDepth 100000
inductive RPar {α R:Type} (t:List PV) (q:QF) (mk:α→Q4→R) (x:Rs α) (y:Option R):Prop
 | ok (v:α) (j:Nat):j≤t.length→x=.ok v (ts t j)→y=some (mk v (t,((j:Nat):Int),0,q))→RPar t q mk x y
 | er (j:Nat) (e:Int) (v:α):j≤t.length→e≠0→x=.er (ts t j) e→y=some (mk v (t,((j:Nat):Int),e,q))→RPar t q mk x y
structure RF {α R:Type} (t:List PV) (q:QF) (mk:α→Q4→R) (c:Prop) (f:List Tk→Rs α) (F:Q4→Option R):Prop where
 rp:c→∀ i:Nat,i≤t.length→RPar t q mk (f (ts t i)) (F (t,(i:Int),0,q))
 st:∀ (j:Nat) (e:Int),j≤t.length→e≠0→∃ v,F (t,(j:Int),e,q)=some (mk v (t,(j:Int),e,q))
section
variable {t:List PV} {q:QF} {c:Prop}
theorem RF.bind {α β R R':Type} {mk:α→Q4→R} {mk':β→Q4→R'} {f:List Tk→Rs α} {F:Q4→Option R} {f2:α→List Tk→Rs β} {g:R→Option R'} (h:RF t q mk c f F)
 (hc:∀ v,RF t q mk' (c∧∃ i j,i≤t.length∧j≤t.length∧f (ts t i)=.ok v (ts t j)) (f2 v) (fun s=>g (mk v s))):RF t q mk' c (fun r=>(f r).bind f2) (fun s=>(F s).bind g):=by
 refine ⟨fun hq i hi=>?_,fun j e hj he=>?_⟩
 ·rcases h.rp hq i hi with ⟨v,j,hj,hx,hy⟩ | ⟨j,e,v,hj,he,hx,hy⟩
  ·simp only [hx,hy,Rs.bind_ok,Option.bind_some]
   exact (hc v).rp ⟨hq,i,j,hi,hj,hx⟩ j hj
  ·simp only [hx,hy,Rs.bind_er,Option.bind_some]
   obtain ⟨w,hw⟩:=(hc v).st j e hj he
   exact .er j e w hj he rfl hw
 ·obtain ⟨v,hv⟩:=h.st j e hj he
  obtain ⟨w,hw⟩:=(hc v).st j e hj he
  exact ⟨w,by simp only [hv,Option.bind_some];exact hw⟩
theorem RF.imp {α R:Type} {mk:α→Q4→R} {c':Prop} {f:List Tk→Rs α} {F:Q4→Option R} (h:RF t q mk c f F) (hc:c'→c):RF t q mk c' f F:=⟨fun x=>h.rp (hc x),h.st⟩
theorem RF.ret {α β R:Type} {mk:α→Q4→R} (v:α):RF t q mk c (fun r=>.ok v r) (fun s=>some (mk v s)):=⟨fun _ i hi=>.ok v i hi rfl rfl,fun j e _ _=>⟨v,rfl⟩⟩
theorem RF.congr {α R:Type} {mk:α→Q4→R} {f f':List Tk→Rs α} {F F':Q4→Option R} (h:RF t q mk c f F) (hf:∀ r,f' r=f r) (hF:∀ s,F' s=F s):RF t q mk c f' F':=
 ⟨fun hc i hi=>by rw [hf,hF];exact h.rp hc i hi,fun j e hj he=>by rw [hF];exact h.st j e hj he⟩
theorem hereR (k:Int) (hk:(k==0)=false) (i:Nat):F105 0 () k (t,(i:Int),0,q)=some (kindS (ts t i)==k,(t,(i:Int),0,q)):=by
 unfold F105
 by_cases h:i<t.length
 ·have e1:decide ((i:Int)<(t.length:Int))=true:=decide_eq_true (by omega)
  simp only [show ((0:Int)==0)=true from rfl,e1,cond_true,imp,inRange_nat,h,decide_true,Int.toNat_natCast,kind_at h]
 ·have e1:decide ((i:Int)<(t.length:Int))=false:=decide_eq_false (by omega)
  have e2:(kindS (ts t i)==k)=false:=by
   rw [ts_end (by omega)]
   have:k≠0:=by simpa using hk
   simp only [kindS,beq_eq_false_iff_ne]
   exact fun x=>this x.symm
  simp only [show ((0:Int)==0)=true from rfl,e1,e2,cond_true,cond_false,imp,Bool.not_false,cond_same]
theorem hereE (k:Int) (a e:Int) (he:e≠0):F105 0 () k (t,a,e,q)=some (false,(t,a,e,q)):=by
 unfold F105
 simp only [beqI he,cond_false,imp,Bool.not_false,cond_true,cond_same]
theorem isR (k:Int) (hk:(k==0)=false) (s:List UInt8) (i:Nat):F107 0 () k s (t,(i:Int),0,q)=some (isS k s (ts t i),(t,(i:Int),0,q)):=by
 unfold F107
 rw [hereR k hk,Option.bind_some]
 cases h:(kindS (ts t i)==k) with
 | true=>
  have hlt:=kindS_lt hk h
  rw [kind_at hlt] at h
  simp only [imp,cond_true,inRange_nat,hlt,decide_true,Int.toNat_natCast,isS_at hlt,h,Bool.true_and]
 | false=>
  have:isS k s (ts t i)=false:=by
   cases hx:ts t i with
   | nil=>rfl
   | cons x r=>rw [hx] at h;simp only [kindS] at h;simp only [isS,h,Bool.false_and]
  simp only [imp,cond_false,Bool.not_false,cond_true,cond_same,this]
theorem isE (k:Int) (s:List UInt8) (a e:Int) (he:e≠0):F107 0 () k s (t,a,e,q)=some (false,(t,a,e,q)):=by
 unfold F107
 rw [hereE k a e he]
 simp only [Option.bind_some,imp,cond_false,Bool.not_false,cond_true,cond_same]
theorem mayR (ht:TOk t) (k:Int) (hk:(k==0)=false) (s:List UInt8) (i:Nat):F102 0 () k s (t,(i:Int),0,q)=some (bif isS k s (ts t i) then (true,(t,((i+1:Nat):Int),0,q)) else (false,(t,(i:Int),0,q))):=by
 have hl:=ht.len
 unfold F102
 rw [isR k hk,Option.bind_some]
 cases h:isS k s (ts t i) with
 | true=>
  have hlt:=isS_lt h
  simp only [Bool.not_true,cond_false,cond_true,wadd' (show i≤9223372036854775000 by omega)]
 | false=>rfl
theorem mayE (k:Int) (s:List UInt8) (a e:Int) (he:e≠0):F102 0 () k s (t,a,e,q)=some (false,(t,a,e,q)):=by
 unfold F102
 rw [isE k s a e he];rfl
theorem RF.may {β R':Type} {mk':β→Q4→R'} (ht:TOk t) (k:Int) (hk:(k==0)=false) (s:List UInt8) {f1 f2:List Tk→Rs β} {g:Bool×Q4→Option R'} (h1:RF t q mk' c f1 (fun z=>g (true,z))) (h2:RF t q mk' c f2 (fun z=>g (false,z))):
 RF t q mk' c (fun r=>bif isS k s r then f1 r.tail else f2 r) (fun z=>(F102 0 () k s z).bind g):=by
 refine ⟨fun hc i hi=>?_,fun j e hj he=>?_⟩
 ·simp only [mayR ht k hk,Option.bind_some,ts_tail]
  cases h:isS k s (ts t i) with
  | true=>exact h1.rp hc (i+1) (isS_lt h)
  | false=>exact h2.rp hc i hi
 ·simp only [mayE k s _ e he,Option.bind_some]
  exact h2.st j e hj he
end
end Go.Ab
namespace Go.Ab
open Go
set_option maxRecDepth 100000
section
variable {t:List PV} {q:QF} {c:Prop}
end
end Go.Ab
