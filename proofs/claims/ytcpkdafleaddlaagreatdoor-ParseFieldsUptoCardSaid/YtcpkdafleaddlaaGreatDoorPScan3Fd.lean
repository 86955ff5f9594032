/- The scanner on texts that are written token by token: texts, the loop. -/
import Derived.Test.YtcpkdafleaddlaaGreatDoorPUtfFd
import Derived.Test.YtcpkdafleaddlaaGreatDoorAbEqL
import Derived.Test.YtcpkdafleaddlaaGreatDoorGenFd
import Derived.Test.YtcpkdafleaddlaaGreatDoorAbPlain
set_option linter.unusedVariables false
set_option linter.unusedSimpArgs false
set_option linter.unnecessarySimpa false
namespace Go.Ab
open Go
set_option maxRecDepth 100000
theorem value_all:((List.range 16).all fun h=>(F305 0 ((hexd h).toNat:Int))==some (h:Int))=true:=by kernel_rfl
theorem value_eq {h:Nat} (hh:h<16):F305 0 ((hexd h).toNat:Int)=some (h:Int):=by
 have:=List.all_eq_true.1 value_all h (List.mem_range.2 hh)
 simpa using this
theorem or_all:((List.range 256).all fun b=>IntKind.wrap .u8 (bitsI .or .i64 (IntKind.wrap .i64 (((b / 16:Nat):Int)*2^(min (4:Int).toNat (IntKind.bits .i64)))) ((b%16:Nat):Int))==(b:Int))=true:=by kernel_rfl
theorem or_eq {b:Nat} (h:b<256):IntKind.wrap .u8 (bitsI .or .i64 (IntKind.wrap .i64 (((b / 16:Nat):Int)*2^(min (4:Int).toNat (IntKind.bits .i64)))) ((b%16:Nat):Int))=(b:Int):=by
 have:=List.all_eq_true.1 or_all b (List.mem_range.2 h)
 simpa using this
theorem esc2 {src:List UInt8} {i:Nat} {e:UInt8} {q:List UInt8} (hl:src.length≤1048576) (h:src.drop i=92::e::q) {v:Int} (hv:F304 0 ((e.toNat:Nat):Int)=some (v,true)):F237 0 src (i:Int)=some (v,2):=by
 obtain ⟨h1,_,h2⟩:=drop_at 0 h
 obtain ⟨h3,h4,_⟩:=drop_at 0 h2
 have w1:IntKind.wrap .i64 ((i:Int)+1)=((i+1:Nat):Int):=wadd' (by omega)
 have d1:decide (((i+1:Nat):Int)≥(src.length:Int))=false:=decide_eq_false (by omega)
 have d2:inRange ((i+1:Nat):Int) src.length=true:=by rw [inRange_nat];exact decide_eq_true h3
 unfold F237
 simp only [w1,d1,d2,cond_true,cond_false,Int.toNat_natCast,h4,hv,Option.bind_some]
theorem escX {src:List UInt8} {i:Nat} {b:UInt8} {q:List UInt8} (hl:src.length≤1048576) (h:src.drop i=92::120::(hex2 b.toNat++q)):F237 0 src (i:Int)=some ((b.toNat:Int),4):=by
 have h:src.drop i=92::120::hexd (b.toNat / 16)::hexd (b.toNat%16)::q:=h
 have hb:=b.toNat_lt
 obtain ⟨h1,_,h2⟩:=drop_at 0 h
 obtain ⟨h3,h4,h5⟩:=drop_at 0 h2
 obtain ⟨h6,h7,h8⟩:=drop_at 0 h5
 obtain ⟨h9,h10,_⟩:=drop_at 0 h8
 have w1:IntKind.wrap .i64 ((i:Int)+1)=((i+1:Nat):Int):=wadd' (by omega)
 have w2:IntKind.wrap .i64 ((i:Int)+2)=((i+1+1:Nat):Int):=by rw [wrap64 (by omega) (by omega)];omega
 have w3:IntKind.wrap .i64 ((i:Int)+3)=((i+1+1+1:Nat):Int):=by rw [wrap64 (by omega) (by omega)];omega
 have d1:decide (((i+1:Nat):Int)≥(src.length:Int))=false:=decide_eq_false (by omega)
 have d3:decide (((i+1+1+1:Nat):Int)≥(src.length:Int))=false:=decide_eq_false (by omega)
 have r1:inRange ((i+1:Nat):Int) src.length=true:=by rw [inRange_nat];exact decide_eq_true h3
 have r2:inRange ((i+1+1:Nat):Int) src.length=true:=by rw [inRange_nat];exact decide_eq_true h6
 have r3:inRange ((i+1+1+1:Nat):Int) src.length=true:=by rw [inRange_nat];exact decide_eq_true h9
 have hp:F304 0 (((120:UInt8).toNat:Nat):Int)=some (0,false):=rfl
 have hx:((((120:UInt8).toNat:Nat):Int) != (120:Int))=false:=rfl
 have v1:=value_eq (h:=b.toNat / 16) (by omega)
 have v2:=value_eq (h:=b.toNat%16) (by omega)
 have n1:decide (((b.toNat / 16:Nat):Int)<0)=false:=decide_eq_false (by omega)
 have n2:decide (((b.toNat%16:Nat):Int)<0)=false:=decide_eq_false (by omega)
 unfold F237
 simp only [w1,w2,w3,d1,d3,r1,r2,r3,cond_true,cond_false,Int.toNat_natCast,h4,h7,h10,hp,hx,v1,v2,n1,n2,imp,Bool.not_false,Bool.true_or,cond_same,Option.bind_some,or_eq hb]
theorem unq_step {src:List UInt8} (hl:src.length≤1048576) {i:Nat} {acc:List PV} (ha:acc.length≤i) {b:UInt8} {c q:List UInt8} (hc:codeOk b c) (h:src.drop i=c++q):S131_6step 0 (src,acc,(i:Int))=some (.inl (src,acc++[PV.int (b.toNat:Int)],((i+c.length:Nat):Int))):=by
 have ne:c≠[]:=by
  rcases hc with ⟨rfl,_⟩ | ⟨_,rfl⟩ | ⟨_,rfl⟩ | ⟨_,rfl⟩ | ⟨_,rfl⟩ | ⟨_,rfl⟩ | rfl<;>simp
 have hi:i<src.length:=by
  have:=congrArg List.length h
  rw [List.length_drop,List.length_append] at this
  have:0<c.length:=List.length_pos_iff.2 ne
  omega
 have e1:decide ((i:Int)<(src.length:Int))=true:=decide_eq_true (by omega)
 have e2:inRange (i:Int) src.length=true:=by rw [inRange_nat];exact decide_eq_true hi
 have ea:∀ x:PV,decide (acc.length+[x].length≤accMax)=true:=fun x=>decide_eq_true (by simp only [List.length_cons,List.length_nil];unfold accMax;omega)
 have esc:∀ (e:UInt8) (r:List UInt8) (v:Int),src.drop i=92::e::r→F237 0 src (i:Int)=some (v,2)→S131_6step 0 (src,acc,(i:Int))=some (.inl (src,acc++[PV.int v],((i+2:Nat):Int))):=fun e r v hd hv=>by
  obtain ⟨_,h4,_⟩:=drop_at 0 hd
  have w:IntKind.wrap .i64 ((i:Int)+2)=((i+2:Nat):Int):=by rw [wrap64 (by omega) (by omega)];omega
  simp only [S131_6step,S131_6,e1,e2,ea,h4,hv,w,imp,cond_true,cond_false,Bool.not_true,Bool.true_or,cond_same,Option.bind_some,Int.toNat_natCast]
  rfl
 rcases hc with ⟨rfl,b1,b2⟩ | ⟨rfl,rfl⟩ | ⟨rfl,rfl⟩ | ⟨rfl,rfl⟩ | ⟨rfl,rfl⟩ | ⟨rfl,rfl⟩ | rfl
 ·obtain ⟨_,h4,_⟩:=drop_at 0 (show src.drop i=b::q from h)
  have w:IntKind.wrap .i64 ((i:Int)+1)=((i+1:Nat):Int):=wadd' (by omega)
  have g1:((b.toNat:Int) != (34:Int))=true:=by
   show (!((b.toNat:Int)==(34:Int)))=true
   rw [bqI (c:=b) (k:=34) (n:=34) rfl,beq_eq_false_iff_ne.2 b1];rfl
  have g2:((b.toNat:Int)==(92:Int))=false:=by rw [bqI (c:=b) (k:=92) (n:=92) rfl];exact beq_eq_false_iff_ne.2 b2
  simp only [S131_6step,S131_6,e1,e2,ea,h4,w,g1,g2,imp,cond_true,cond_false,Bool.not_true,Bool.true_or,cond_same,Option.bind_some,Int.toNat_natCast]
  rfl
 ·exact esc _ _ _ h (esc2 hl h rfl)
 ·exact esc _ _ _ h (esc2 hl h rfl)
 ·exact esc _ _ _ h (esc2 hl h rfl)
 ·exact esc _ _ _ h (esc2 hl h rfl)
 ·exact esc _ _ _ h (esc2 hl h rfl)
 ·have hv:=escX (b:=b) (q:=q) hl h
  obtain ⟨_,h4,_⟩:=drop_at 0 (show src.drop i=92::(120::(hex2 b.toNat++q)) from h)
  have w:IntKind.wrap .i64 ((i:Int)+4)=((i+4:Nat):Int):=by rw [wrap64 (by omega) (by omega)];omega
  simp only [S131_6step,S131_6,e1,e2,ea,h4,hv,w,imp,cond_true,cond_false,Bool.not_true,Bool.true_or,cond_same,Option.bind_some,Int.toNat_natCast]
  rfl
theorem unq_loop {src:List UInt8} (hl:src.length≤1048576) {a x:List UInt8} (hc:Codes a x):∀ (i:Nat) (acc:List PV) (s:List UInt8),src.drop i=x++34::s→acc.length≤i→loopW (S131_6step 0) (src,acc,(i:Int))=some (.inr (src,acc++a.map (fun c=>PV.int (c.toNat:Int)),((i+x.length:Nat):Int))):=by
 induction hc with
 | nil=>
  intro i acc s h ha
  obtain ⟨hi,h4,_⟩:=drop_at 0 (show src.drop i=34::s from h)
  have e1:decide ((i:Int)<(src.length:Int))=true:=decide_eq_true (by omega)
  have e2:inRange (i:Int) src.length=true:=by rw [inRange_nat];exact decide_eq_true hi
  have g1:((((34:UInt8).toNat:Nat):Int) != (34:Int))=false:=rfl
  refine (loopW_end (y:=.inr (src,acc,(i:Int))) ?_).trans (by simp)
  simp only [S131_6step,S131_6,e1,e2,h4,g1,imp,cond_true,cond_false,Bool.not_true,Bool.true_or,cond_same,Option.bind_some,Int.toNat_natCast]
 | @cons b c r q hb hr ih=>
  intro i acc s h ha
  rw [List.append_assoc] at h
  have st:=unq_step hl ha hb h
  have hn:src.drop (i+c.length)=q++34::s:=by
   rw [←List.drop_drop,h,List.drop_left]
  have hp:0<c.length:=by
   rcases hb with ⟨rfl,_⟩ | ⟨_,rfl⟩ | ⟨_,rfl⟩ | ⟨_,rfl⟩ | ⟨_,rfl⟩ | ⟨_,rfl⟩ | rfl<;>simp
  rw [loopW_go st,ih (i+c.length) _ s hn (by simp;omega)]
  simp [Nat.add_assoc]
theorem unquote_eq {a:List UInt8} (ha:a.length≤1048576) (s:List UInt8) (hl:(quote a++s).length≤1048576):F131 0 (quote a++s)=some (a,(((quote a).length:Nat):Int),0):=by
 have hq:quote a=34::(quoteFrom a 0++[34]):=by unfold quote;rfl
 have hlen:(quote a).length=(quoteFrom a 0).length+2:=by rw [hq];simp
 have hc:=quote_codes a a.length 0 (by omega)
 rw [List.drop_zero] at hc
 have hd:(quote a++s).drop 1=quoteFrom a 0++34::s:=by rw [hq];simp
 have lp:loopW (S131_6step 0) (quote a++s,[],(1:Int))=some (.inr (quote a++s,[]++a.map (fun c:UInt8=>PV.int (c.toNat:Int)),((1+(quoteFrom a 0).length:Nat):Int))):=unq_loop hl hc 1 [] s hd (by simp)
 have hall:(quote a++s).length=(quoteFrom a 0).length+2+s.length:=by rw [List.length_append,hlen]
 have e0:((quote a++s)==([]:List UInt8))=false:=by rw [hq];rfl
 have e1:inRange (0:Int) (quote a++s).length=true:=by rw [hq,List.cons_append,in0]
 have e2:((((quote a++s).getD (0:Int).toNat 0).toNat:Int) != (34:Int))=false:=by rw [hq];rfl
 have e3:([]++a.map (fun c:UInt8=>PV.int (c.toNat:Int))).map byteOfPV=a:=by
  rw [List.nil_append,List.map_map]
  refine (List.map_congr_left (g:=id) (fun x _=>byte_back x)).trans (List.map_id _)
 have e4:decide (((1+(quoteFrom a 0).length:Nat):Int)≥((quote a++s).length:Int))=false:=decide_eq_false (by omega)
 have w:IntKind.wrap .i64 (((1+(quoteFrom a 0).length:Nat):Int)+1)=(((quote a).length:Nat):Int):=by rw [wadd' (by omega),hlen];congr 1;omega
 have e5:decide (0≤(0:Int)∧(0:Int)≤(((quote a).length:Nat):Int)∧(((quote a).length:Nat):Int)≤((quote a++s).length:Int))=true:=decide_eq_true (by omega)
 have e6:((quote a++s).take (((quote a).length:Nat):Int).toNat).drop (0:Int).toNat=quote a:=by
  rw [Int.toNat_natCast,List.take_left];rfl
 unfold F131
 rw [loopQ0,lp]
 simp only [e0,e1,e2,imp,Bool.not_false,Bool.true_or,cond_same,cond_true,cond_false,Option.bind_some,sumE_inr,e3,e4,quote_eq a ha,w,e5,e6,beq_self_eq_true,Bool.not_true]
end Go.Ab
namespace Go.Ab
open Go
set_option maxRecDepth 100000
def allD:List UInt8:=[48,49,50,51,52,53,54,55,56,57]
theorem allD_at:∀ d:Nat,d<10→(allD.take (d+1)).drop d=[UInt8.ofNat (48+d)]:=by decide
theorem digits_loop:∀ (k u:Nat) (acc:List UInt8),u<10^(k+1)→u<18446744073709551616→acc.length+k≤1000→loopW (S379_4step 0) ((u:Int),allD,acc)=some (preD u++acc):=by
 intro k
 induction k with
 | zero=>
  intro u acc hu _ _
  have hd:decide ((u:Int)>(9:Int))=false:=decide_eq_false (by omega)
  rw [preD,if_pos (by omega)]
  exact loopW_end (by simp only [S379_4step,S379_4,hd,cond_false];rfl)
 | succ k ih=>
  intro u acc hu h64 hb
  by_cases h:u<10
  ·have hd:decide ((u:Int)>(9:Int))=false:=decide_eq_false (by omega)
   rw [preD,if_pos h]
   exact loopW_end (by simp only [S379_4step,S379_4,hd,cond_false];rfl)
  ·have hd:decide ((u:Int)>(9:Int))=true:=decide_eq_true (by omega)
   have hw:IntKind.wrap .u64 ((u:Int).tdiv (10:Int))=((u / 10:Nat):Int):=by
    rw [show (u:Int).tdiv (10:Int)=((u / 10:Nat):Int) from rfl,IntKind.wrap_u64];omega
   have hm:((u / 10:Nat):Int).tmod (10:Int)=((u / 10%10:Nat):Int):=rfl
   have hm1:IntKind.wrap .u64 (((u / 10%10:Nat):Int)+(1:Int))=((u / 10%10+1:Nat):Int):=by rw [IntKind.wrap_u64];omega
   have hp:preD u++acc=preD (u / 10)++(UInt8.ofNat (48+u / 10%10)::acc):=by
    have:=preD_eq (u / 10)
    rw [show preD u=Lib.decDigits (u / 10) by rw [preD,if_neg h],←this,List.append_assoc];rfl
   rw [hp,←ih (u / 10) (UInt8.ofNat (48+u / 10%10)::acc) (by rw [Nat.pow_succ] at hu;omega) (by omega) (by simp;omega)]
   refine loopW_go ?_
   have hl:decide ([UInt8.ofNat (48+u / 10%10)].length+acc.length≤strMax)=true:=leStr (by simp;omega)
   have hr:decide ((0:Int)≤((u / 10%10:Nat):Int)∧((u / 10%10:Nat):Int)≤((u / 10%10+1:Nat):Int)∧((u / 10%10+1:Nat):Int)≤(allD.length:Int))=true:=decide_eq_true (by have:allD.length=10:=rfl;omega)
   simp only [S379_4step,S379_4,hd,hw,hm,hm1,hr,Int.toNat_natCast,allD_at _ (Nat.mod_lt _ (by decide:0<10)),hl,cond_true]
   rfl
theorem digits_eq (u:Nat) (hu:u<18446744073709551616):F379 0 (u:Int)=some (decB u):=by
 unfold F379
 have hm:((u:Nat):Int).tmod (10:Int)=((u%10:Nat):Int):=rfl
 have hm1:IntKind.wrap .u64 (((u%10:Nat):Int)+(1:Int))=((u%10+1:Nat):Int):=by rw [IntKind.wrap_u64];omega
 have hr:decide ((0:Int)≤((u%10:Nat):Int)∧((u%10:Nat):Int)≤((u%10+1:Nat):Int)∧((u%10+1:Nat):Int)≤(allD.length:Int))=true:=decide_eq_true (by have:allD.length=10:=rfl;omega)
 have e:([48,49,50,51,52,53,54,55,56,57]:List UInt8)=allD:=rfl
 simp only [e,hm,hm1,hr,cond_true,Int.toNat_natCast,allD_at _ (Nat.mod_lt _ (by decide:0<10)),loopQ0]
 rw [digits_loop 19 u _ (by omega) hu (by simp),preD_eq,decB_eq (by omega)]
 rfl
end Go.Ab
namespace Go.Ab
open Go
set_option maxRecDepth 100000
theorem num_loop (s:List UInt8) (neg:Bool) (V:Nat) (hV:V<18446744073709551616) (hd:∀ c,c∈s→isDig c) (hl:s.length≤1048576):∀ (m i acc:Nat),s.length-i≤m→i≤s.length→valD acc (s.drop i)=V→
 loopW (S365_9step 0) (s,neg,(acc:Int),false,(i:Int))=some (.inr (neg,(V:Int),false)):=by
 intro m
 induction m with
 | zero=>
  intro i acc hm hi hv
  have hlt:¬i<s.length:=by omega
  rw [List.drop_eq_nil_of_le (by omega)] at hv
  have e:acc=V:=hv
  subst e
  exact loopW_end (by simp only [S365_9step,S365_9,declt,hlt,decide_false,cond_false])
 | succ m ih=>
  intro i acc hm hi hv
  by_cases hlt:i<s.length
  ·rw [drop_cons hlt 0] at hv
   have hc:isDig (s.getD i 0):=hd _ (by rw [getD_of_lt hlt];exact List.getElem_mem _)
   generalize hx:s.getD i 0=c at hv hc
   have hv':valD (acc*10+(c.toNat-48)) (s.drop (i+1))=V:=hv
   have hs:acc*10+(c.toNat-48)≤V:=by rw [←hv'];exact valD_ge _ _
   unfold isDig at hc
   obtain ⟨d,hdd⟩:∃ d:Nat,c.toNat=48+d:=⟨c.toNat-48,by omega⟩
   rw [←ih (i+1) (acc*10+(c.toNat-48)) (by omega) (by omega) hv']
   rw [hdd] at hs hc ⊢
   have d1:decide (((48+d:Nat):Int)<(48:Int))=false:=decide_eq_false (by omega)
   have d2:decide (((48+d:Nat):Int)>(57:Int))=false:=decide_eq_false (by omega)
   have w1:IntKind.wrap .u64 (IntKind.wrap .u8 (((48+d:Nat):Int)-(48:Int)))=(d:Int):=by rw [IntKind.wrap_u8,IntKind.wrap_u64];omega
   have w2:IntKind.wrap .u64 ((18446744073709551615:Int)-(d:Int))=((18446744073709551615-d:Nat):Int):=by rw [IntKind.wrap_u64];omega
   have w3:IntKind.wrap .u64 (((18446744073709551615-d:Nat):Int).tdiv (10:Int))=(((18446744073709551615-d) / 10:Nat):Int):=by
    rw [show ((18446744073709551615-d:Nat):Int).tdiv (10:Int)=(((18446744073709551615-d) / 10:Nat):Int) from rfl,IntKind.wrap_u64];omega
   have d3:decide ((acc:Int)>(((18446744073709551615-d) / 10:Nat):Int))=false:=decide_eq_false (by omega)
   have w4:IntKind.wrap .u64 ((10:Int)*(acc:Int))=((10*acc:Nat):Int):=by rw [IntKind.wrap_u64];omega
   have w5:IntKind.wrap .u64 (((10*acc:Nat):Int)+(d:Int))=((acc*10+(48+d-48):Nat):Int):=by rw [IntKind.wrap_u64];omega
   refine loopW_go ?_
   simp only [S365_9step,S365_9,declt,inRange_nat,hlt,decide_true,cond_true,Int.toNat_natCast,hx,hdd,d1,d2,d3,w1,w2,w3,w4,w5,imp,Bool.not_false,cond_false,wadd1 (i:=i) (by omega)]
  ·have e:acc=V:=by rw [List.drop_eq_nil_of_le (by omega)] at hv;exact hv
   subst e
   exact loopW_end (by simp only [S365_9step,S365_9,declt,hlt,decide_false,cond_false])
theorem dec_len (u:Nat) (hu:u<18446744073709551616):(Lib.decDigits u).length≤20:=by
 rw [←decB_eq (by omega)];exact decB_len u
theorem num_dec (u:Nat) (hu:u<18446744073709551616):F365 0 (Lib.decDigits u)=some ((u:Int),false,0):=by
 obtain ⟨h1,h2,h3,h4⟩:=dec_facts u
 have hlen:=dec_len u hu
 have hloop:=num_loop (Lib.decDigits u) false u hu h1 (by omega) (Lib.decDigits u).length 0 0 (by omega) (by omega) (by rw [List.drop_zero];exact h2)
 have hz:u=0→Lib.decDigits u=[48]:=fun h=>by subst h;rw [Lib.decDigits];rfl
 generalize Lib.decDigits u=s at*
 match s,h3 with
 | c::r,_=>
  have hc:=h1 c (by simp)
  unfold isDig at hc
  have k45:((c.toNat:Int)==(45:Int))=false:=by simp;omega
  have hp:decide (((c::r).length:Int)>(0:Int))=true:=decide_eq_true (by simp)
  have hi:inRange (0:Int) (c::r).length=true:=by rw [show (0:Int)=((0:Nat):Int) from rfl,inRange_nat];exact decide_eq_true (by simp)
  have hg:((c::r).getD (0:Int).toNat 0)=c:=rfl
  have hn:((c::r)==([]:List UInt8))=false:=rfl
  have ht:(bif ((c.toNat:Int)==(48:Int)) then (!((c::r)==([48]:List UInt8))) else false)=false:=by
   by_cases h0:u=0
   ·rw [hz h0];simp
   ·have:=h4 h0 c rfl
    have:((c.toNat:Int)==(48:Int))=false:=by simp;omega
    rw [this];rfl
  rw [show ((0:Nat):Int)=(0:Int) from rfl] at hloop
  unfold F365
  simp only [hp,imp,hi,cond_true,hg,k45,cond_false,hn,Bool.not_false,ht,loopQ0,hloop,Option.bind_some,sumE_inr]
theorem num_neg (u:Nat) (hu:u<18446744073709551616):F365 0 (45::Lib.decDigits u)=some (if u=0 then (0,false,2) else ((u:Int),true,0)):=by
 obtain ⟨h1,h2,h3,h4⟩:=dec_facts u
 have hlen:=dec_len u hu
 have hloop:=num_loop (Lib.decDigits u) true u hu h1 (by omega) (Lib.decDigits u).length 0 0 (by omega) (by omega) (by rw [List.drop_zero];exact h2)
 have hz:u=0→Lib.decDigits u=[48]:=fun h=>by subst h;rw [Lib.decDigits];rfl
 generalize Lib.decDigits u=s at*
 match s,h3 with
 | c::r,_=>
  have hc:=h1 c (by simp)
  unfold isDig at hc
  have k45:(((45:UInt8).toNat:Int)==(45:Int))=true:=rfl
  have hp:decide (((45::c::r).length:Int)>(0:Int))=true:=decide_eq_true (by simp;omega)
  have hi:inRange (0:Int) (45::c::r).length=true:=by rw [show (0:Int)=((0:Nat):Int) from rfl,inRange_nat];exact decide_eq_true (by simp)
  have hi2:inRange (0:Int) (c::r).length=true:=by rw [show (0:Int)=((0:Nat):Int) from rfl,inRange_nat];exact decide_eq_true (by simp)
  have hg:((45::c::r).getD (0:Int).toNat 0)=45:=rfl
  have hg2:((c::r).getD (0:Int).toNat 0)=c:=rfl
  have hsl:decide ((0:Int)≤(1:Int)∧(1:Int)≤((45::c::r).length:Int)∧((45::c::r).length:Int)≤((45::c::r).length:Int))=true:=decide_eq_true (by simp;omega)
  have htk:((45::c::r).take ((45::c::r).length:Int).toNat).drop (1:Int).toNat=c::r:=by rw [Int.toNat_natCast,List.take_length];rfl
  have hn:((c::r)==([]:List UInt8))=false:=rfl
  have hne:((45::c::r)==([48]:List UInt8))=false:=rfl
  rw [show ((0:Nat):Int)=(0:Int) from rfl] at hloop
  by_cases h0:u=0
  ·have hcc:c=48:=by have:=hz h0;simp at this;exact this.1
   have ht:((c.toNat:Int)==(48:Int))=true:=by rw [hcc];rfl
   unfold F365
   simp only [hp,imp,hi,hi2,cond_true,hg,hg2,k45,hsl,htk,hn,Bool.not_false,cond_false,ht,hne,h0,if_true]
  ·have:=h4 h0 c rfl
   have ht:((c.toNat:Int)==(48:Int))=false:=by simp;omega
   unfold F365
   simp only [hp,imp,hi,hi2,cond_true,hg,hg2,k45,hsl,htk,hn,Bool.not_false,cond_false,ht,loopQ0,hloop,Option.bind_some,sumE_inr,h0,if_false]
end Go.Ab
namespace Go.Ab
open Go
set_option maxRecDepth 100000
def zeroV:PV:=PV.agg [(PV.int (0:Int)),(PV.int (0:Int)),(PV.str ([]:List UInt8)),(PV.slice []),(PV.slice []),(PV.slice []),(PV.slice [])]
def mkV (k b:Int):PV:=PV.agg [(PV.int k),(PV.int b),(PV.str ([]:List UInt8)),(PV.slice []),(PV.slice []),(PV.slice []),(PV.slice [])]
def numV (k:Int) (neg:Bool) (u:Nat):PV×Int:=
 if neg=true∧u=0 then (zeroV,2)
 else if k=4 then (if neg=true∨4294967296≤u then (zeroV,6) else (mkV k u,0))
 else if neg=true then (if 9223372036854775808<u then (zeroV,6) else (mkV k (IntKind.wrap .u64 (0-(u:Int))),0))
 else if 9223372036854775808≤u then (zeroV,6) else (mkV k u,0)
def signed (neg:Bool) (l:List UInt8):List UInt8:=if neg=true then 45::l else l
theorem mkV_small (k:Int) {b:Int} (h0:0≤b) (h1:b<18446744073709551616):smallV (mkV k b):=⟨Nat.zero_le _,Nat.zero_le _,h0,h1⟩
theorem fits3 (b:Int):fitsV 3 (mkV 3 b)=true:=by
 unfold fitsV
 rfl
theorem fits4 (b:Int):fitsV 4 (mkV 4 b)=decide (b<4294967296):=by
 have:fitsV 4 (mkV 4 b)=rangeOk 4 b:=rfl
 rw [this]
 rfl
theorem refNumber_eq (neg:Bool) (u:Nat) (hu:u<18446744073709551616):F365 0 (signed neg (Lib.decDigits u))=some (if neg=true∧u=0 then (0,false,2) else ((u:Int),neg,0)):=by
 cases neg with
 | false=>simp only [signed,Bool.false_eq_true,if_false,false_and];exact num_dec u hu
 | true=>simp only [signed,if_true,true_and];exact num_neg u hu
theorem refWhole_eq (k:Int) (hk:k=3∨k=4) (neg:Bool) (u:Nat) (hu:u<18446744073709551616):F318 0 k (signed neg (Lib.decDigits u))=some (numV k neg u):=by
 unfold F318 numV
 rw [refNumber_eq neg u hu,Option.bind_some]
 by_cases h0:neg=true∧u=0
 ·rw [if_pos h0,if_pos h0];rfl
 ·rw [if_neg h0,if_neg h0]
  have hf:∀ b:Int,0≤b→b<18446744073709551616→F153 0 k (PV.agg [(PV.int k),(PV.int b),(PV.str ([]:List UInt8)),(PV.slice []),(PV.slice []),(PV.slice []),(PV.slice [])])=some (fitsV k (mkV k b)):=fun b h0 h1=>refFitsV_eq k (mkV k b) (mkV_small k h0 h1)
  have hw:IntKind.wrap .u64 (0-(u:Int))=(0-(u:Int))%18446744073709551616:=by rw [IntKind.wrap_u64]
  have hf1:=hf (u:Int) (by omega) (by omega)
  have hf2:=hf (IntKind.wrap .u64 (0-(u:Int))) (by rw [hw];omega) (by rw [hw];omega)
  rcases hk with rfl | rfl
  ·rw [fits3] at hf1 hf2
   cases neg with
   | false=>
    by_cases hg:9223372036854775808≤u
    ·have d:decide ((u:Int)≥(9223372036854775808:Int))=true:=decide_eq_true (by omega)
     simp [F366,d,hg,zeroV]
    ·have d:decide ((u:Int)≥(9223372036854775808:Int))=false:=decide_eq_false (by omega)
     simp [F366,d,hg,hf1,mkV]
   | true=>
    by_cases hg:9223372036854775808<u
    ·have d:decide ((u:Int)>(9223372036854775808:Int))=true:=decide_eq_true (by omega)
     simp [F366,d,hg,zeroV]
    ·have d:decide ((u:Int)>(9223372036854775808:Int))=false:=decide_eq_false (by omega)
     rw [show (0-(u:Int))=-(u:Int) by omega] at hf2
     simp [F366,d,hg,hf2,mkV]
  ·rw [fits4] at hf1
   cases neg with
   | true=>simp [F366,zeroV]
   | false=>
    by_cases hg:4294967296≤u
    ·have d:decide ((u:Int)<(4294967296:Int))=false:=decide_eq_false (by omega)
     rw [d] at hf1
     simp [F366,hg,hf1,zeroV]
    ·have d:decide ((u:Int)<(4294967296:Int))=true:=decide_eq_true (by omega)
     rw [d] at hf1
     simp [F366,hg,hf1,mkV]
end Go.Ab
namespace Go.Ab
open Go
set_option maxRecDepth 100000
theorem trim_neg (l:List UInt8):F141 0 (45::l) [45]=some l:=by
 unfold F141 F245 F297
 have h1:decide (((45::l:List UInt8).length:Int)≥(([45]:List UInt8).length:Int))=true:=decide_eq_true (by simp;omega)
 have h2:decide ((0:Int)≤0∧(0:Int)≤(([45]:List UInt8).length:Int)∧(([45]:List UInt8).length:Int)≤((45::l:List UInt8).length:Int))=true:=decide_eq_true (by simp;omega)
 have h3:decide ((0:Int)≤(([45]:List UInt8).length:Int)∧(([45]:List UInt8).length:Int)≤((45::l:List UInt8).length:Int)∧((45::l:List UInt8).length:Int)≤((45::l:List UInt8).length:Int))=true:=decide_eq_true (by simp;omega)
 have h4:(((45::l:List UInt8).take ((([45]:List UInt8).length:Int)).toNat).drop (0:Int).toNat==([45]:List UInt8))=true:=by
  simp
 have h5:((45::l:List UInt8).take ((45::l:List UInt8).length:Int).toNat).drop ((([45]:List UInt8).length:Int)).toNat=l:=by
  rw [show (((45::l:List UInt8).length:Int)).toNat=(45::l:List UInt8).length from Int.toNat_natCast _,List.take_length];rfl
 simp only [h1,h2,h3,h4,h5,imp,cond_true,Option.bind_some]
theorem trim_pos (c:UInt8) (l:List UInt8) (hc:c≠45):F141 0 (c::l) [45]=some (c::l):=by
 unfold F141 F245 F297
 have h1:decide (((c::l:List UInt8).length:Int)≥(([45]:List UInt8).length:Int))=true:=decide_eq_true (by simp;omega)
 have h2:decide ((0:Int)≤0∧(0:Int)≤(([45]:List UInt8).length:Int)∧(([45]:List UInt8).length:Int)≤((c::l:List UInt8).length:Int))=true:=decide_eq_true (by simp;omega)
 have h4:(((c::l:List UInt8).take ((([45]:List UInt8).length:Int)).toNat).drop (0:Int).toNat==([45]:List UInt8))=false:=by
  simp [hc]
 simp only [h1,h2,h4,imp,cond_true,cond_false,Option.bind_some]
theorem dec_loop (s:List UInt8) (hd:∀ c,c∈s→isDig c) (hl:s.length≤1048576):∀ (m i:Nat),s.length-i≤m→i≤s.length→
 loopW (S357_6step 0) (s,(s.length:Int),(i:Int))=some (.inr ()):=by
 intro m
 induction m with
 | zero=>
  intro i hm hi
  have hlt:¬i<s.length:=by omega
  exact loopW_end (by simp only [S357_6step,S357_6,declt,hlt,decide_false,cond_false])
 | succ m ih=>
  intro i hm hi
  by_cases hlt:i<s.length
  ·have hc:isDig (s.getD i 0):=hd _ (by rw [getD_of_lt hlt];exact List.getElem_mem _)
   generalize hx:s.getD i 0=c at hc
   unfold isDig at hc
   have d1:decide ((c.toNat:Int)<(48:Int))=false:=decide_eq_false (by omega)
   have d2:decide ((c.toNat:Int)>(57:Int))=false:=decide_eq_false (by omega)
   rw [loopW_go (x1:=(s,(s.length:Int),((i+1:Nat):Int))),ih (i+1) (by omega) (by omega)]
   simp only [S357_6step,S357_6,declt,inRange_nat,hlt,decide_true,cond_true,Int.toNat_natCast,hx,d1,d2,imp,Bool.not_false,cond_false,wadd1 (i:=i) (by omega)]
  ·exact loopW_end (by simp only [S357_6step,S357_6,declt,hlt,decide_false,cond_false])
theorem decimal_ok (neg:Bool) (u:Nat) (hu:u<18446744073709551616):F357 0 (signed neg (Lib.decDigits u))=some (!(neg&&decide (u=0))):=by
 obtain ⟨h1,h2,h3,h4⟩:=dec_facts u
 have hlen:=dec_len u hu
 have hloop:=dec_loop (Lib.decDigits u) h1 (by omega) (Lib.decDigits u).length 0 (by omega) (by omega)
 have hz:u=0→Lib.decDigits u=[48]:=fun h=>by subst h;rw [Lib.decDigits];rfl
 generalize Lib.decDigits u=s at*
 match s,h3 with
 | c::r,_=>
  have hc:=h1 c (by simp)
  unfold isDig at hc
  have hne:c≠45:=fun h=>by subst h;simp at hc
  have hi:inRange (0:Int) (c::r).length=true:=by rw [show (0:Int)=((0:Nat):Int) from rfl,inRange_nat];exact decide_eq_true (by simp)
  have hg:((c::r).getD (0:Int).toNat 0)=c:=rfl
  have hn:((c::r)==([]:List UInt8))=false:=rfl
  rw [show ((0:Nat):Int)=(0:Int) from rfl] at hloop
  have ht:F141 0 (signed neg (c::r)) [45]=some (c::r):=by
   cases neg with
   | true=>exact trim_neg _
   | false=>exact trim_pos c r hne
  unfold F357
  rw [ht]
  by_cases h0:u=0
  ·have hz:=hz h0
   simp at hz
   obtain ⟨rfl,rfl⟩:=hz
   cases neg with
   | true=>simp only [signed,if_true,Option.bind_some];rw [h0];rfl
   | false=>
    have e48:((([48]:List UInt8))==[48])=true:=rfl
    simp only [signed,Bool.false_eq_true,if_false,Option.bind_some,hn,hi,imp,Bool.not_false,cond_true,cond_false,hg,e48,Bool.not_true,cond_same,loopQ0,hloop,sumE_inr,Bool.false_and]
  ·have:=h4 h0 c rfl
   have hk:((c.toNat:Int)==(48:Int))=false:=by simp;omega
   simp only [Option.bind_some,hn,hi,imp,Bool.not_false,cond_true,cond_false,hg,hk,loopQ0,hloop,sumE_inr,h0,decide_false,Bool.and_false]
theorem within3 (b:Int):F250 0 3 b=some true:=rfl
theorem within4 (b:Int):F250 0 4 b=some (decide (b≤4294967295)):=rfl
theorem signed_len (neg:Bool) (u:Nat) (hu:u<18446744073709551616):(signed neg (Lib.decDigits u)).length≤21:=by
 have:=dec_len u hu
 unfold signed
 split
 ·simp;omega
 ·omega
theorem lparseInt_ok (s:List UInt8) (hs:s.length≤1048576):LparseInt 0 s 10 64=some (intRes s (Lib.parseIntB 64 s)):=by
 unfold LparseInt
 have:Nat.ble s.length 281474976710656=true:=Nat.ble_eq_true_of_le (by omega)
 simp [this]
theorem lparseUint_ok (s:List UInt8) (hs:s.length≤1048576):LparseUint 0 s 10 64=some (uintRes (Lib.parseUintB 64 s)):=by
 unfold LparseUint
 have:Nat.ble s.length 281474976710656=true:=Nat.ble_eq_true_of_le (by omega)
 simp [this]
theorem number_ok (k:Int) (hk:k=3∨k=4) (neg:Bool) (u:Nat) (hu:u<18446744073709551616):F309 0 k (signed neg (Lib.decDigits u))=some (numV k neg u):=by
 have hl:=signed_len neg u hu
 unfold F309 numV
 rw [decimal_ok neg u hu,lparseInt_ok _ (by omega),lparseUint_ok _ (by omega)]
 by_cases h0:neg=true∧u=0
 ·obtain ⟨rfl,rfl⟩:=h0
  rfl
 ·have hx:(neg&&decide (u=0))=false:=by
   cases neg with
   | false=>rfl
   | true=>simp at h0;simp [h0]
  rw [if_neg h0,hx]
  have hwu:IntKind.wrap .u64 (u:Int)=(u:Int):=by rw [IntKind.wrap_u64];omega
  rcases hk with rfl | rfl
  ·cases neg with
   | false=>
    have e:signed false (Lib.decDigits u)=Lib.decDigits u:=rfl
    rw [e,parseInt_dec hu]
    by_cases hg:9223372036854775808≤u
    ·simp [hg,intRes,zeroV]
    ·simp [hg,intRes,within3,hwu,mkV]
   | true=>
    have e:signed true (Lib.decDigits u)=45::Lib.decDigits u:=rfl
    rw [e,parseInt_neg hu]
    by_cases hg:9223372036854775808<u
    ·simp [hg,intRes,zeroV]
    ·simp [hg,intRes,within3,mkV]
  ·cases neg with
   | true=>
    have e:signed true (Lib.decDigits u)=45::Lib.decDigits u:=rfl
    rw [e,parseUint_neg]
    simp [uintRes,zeroV]
   | false=>
    have e:signed false (Lib.decDigits u)=Lib.decDigits u:=rfl
    rw [e,parseUint_dec hu]
    by_cases hg:4294967296≤u
    ·have d:decide ((u:Int)≤(4294967295:Int))=false:=decide_eq_false (by omega)
     simp [hg,uintRes,within4,d,zeroV]
    ·have d:decide ((u:Int)≤(4294967295:Int))=true:=decide_eq_true (by omega)
     simp [hg,uintRes,within4,d,mkV]
theorem parse_ok (k:Int) (hk:k=3∨k=4) (neg:Bool) (u:Nat) (hu:u<18446744073709551616):F239 0 k (signed neg (Lib.decDigits u))=some (numV k neg u):=by
 have h:=number_ok k hk neg u hu
 unfold F239
 rcases hk with rfl | rfl
 ·have e1:F248 0 3=some true:=rfl
  have e2:F307 0 3=some false:=rfl
  have a1:((3:Int)==1)=false:=rfl
  have a6:((3:Int)==6)=false:=rfl
  simp only [e1,e2,a1,a6,h,Option.bind_some,Bool.not_true,cond_false]
 ·have e1:F248 0 4=some true:=rfl
  have e2:F307 0 4=some false:=rfl
  have a1:((4:Int)==1)=false:=rfl
  have a6:((4:Int)==6)=false:=rfl
  simp only [e1,e2,a1,a6,h,Option.bind_some,Bool.not_true,cond_false]
theorem refParse_ok (k:Int) (hk:k=3∨k=4) (neg:Bool) (u:Nat) (hu:u<18446744073709551616):F242 0 k (signed neg (Lib.decDigits u))=some (numV k neg u):=by
 have h:=refWhole_eq k hk neg u hu
 unfold F242
 rcases hk with rfl | rfl
 ·have e1:F256 0 3=some true:=rfl
  have a1:((3:Int)==1)=false:=rfl
  have a6:((3:Int)==6)=false:=rfl
  have a7:((3:Int)==7)=false:=rfl
  have a8:((3:Int)==8)=false:=rfl
  simp only [e1,a1,a6,a7,a8,h,Option.bind_some,Bool.not_true,cond_false]
 ·have e1:F256 0 4=some true:=rfl
  have a1:((4:Int)==1)=false:=rfl
  have a6:((4:Int)==6)=false:=rfl
  have a7:((4:Int)==7)=false:=rfl
  have a8:((4:Int)==8)=false:=rfl
  simp only [e1,a1,a6,a7,a8,h,Option.bind_some,Bool.not_true,cond_false]
end Go.Ab
namespace Go.Ab
open Go
end Go.Ab
namespace Go.Ab
open Go
set_option maxRecDepth 100000
theorem loopW_two {σ σ' τ:Type} {step1:σ→Option (σ⊕τ)} {step2:σ'→Option (σ'⊕τ)} (m:σ→Nat) (R:σ→σ'→Prop) (Q:τ→Prop)
 (h:∀ x y,R x y→(∃ x' y',step1 x=some (.inl x')∧step2 y=some (.inl y')∧R x' y'∧m x'<m x)∨(∃ r,step1 x=some (.inr r)∧step2 y=some (.inr r)∧Q r)):
 ∀ x y,R x y→∃ r,loopW step1 x=some r∧loopW step2 y=some r∧Q r:=by
 have H:∀ n x y,m x≤n→R x y→∃ r,loopW step1 x=some r∧loopW step2 y=some r∧Q r:=by
  intro n
  induction n with
  | zero=>
   intro x y hm hr
   rcases h x y hr with ⟨x',y',h1,h2,h3,h4⟩ | ⟨r,h1,h2,h3⟩
   ·omega
   ·exact ⟨r,loopW_end h1,loopW_end h2,h3⟩
  | succ n ih=>
   intro x y hm hr
   rcases h x y hr with ⟨x',y',h1,h2,h3,h4⟩ | ⟨r,h1,h2,h3⟩
   ·rw [loopW_go h1,loopW_go h2]
    exact ih x' y' (by omega) h3
   ·exact ⟨r,loopW_end h1,loopW_end h2,h3⟩
 exact fun x y hr=>H (m x) x y (Nat.le_refl _) hr
theorem bneE {α:Type} [BEq α] [LawfulBEq α] {a b:α} (h:a=b):(a != b)=false:=by subst h;simp
def tKind (t:PV):Int:=(t.fld 0).asInt
def tText (t:PV):List UInt8:=(t.fld 1).asStr
def sgn (t:List PV) (i:Nat) (s:List UInt8):Bool:=decide (i<t.length)&&((tKind (t.getD i .bad)==4)&&(tText (t.getD i .bad)==s))
theorem is_nat (t:List PV) (i:Nat) (s:List UInt8):F77 0 t (i:Int) s=some (sgn t i s):=by
 unfold F77 sgn
 have h0:decide ((i:Int)≥0)=true:=decide_eq_true (by omega)
 have e0:((t.getD i .bad).fld 0).asInt=tKind (t.getD i .bad):=rfl
 have e1:((t.getD i .bad).fld 1).asStr=tText (t.getD i .bad):=rfl
 by_cases hlt:i<t.length
 ·simp only [h0,declt,hlt,decide_true,cond_true,imp,inRange_nat,Int.toNat_natCast,e0,e1,Bool.true_and]
  cases (tKind (t.getD i .bad)==4)<;>simp
 ·simp only [h0,declt,hlt,decide_false,cond_true,cond_false,imp,Bool.not_false,Bool.false_and,cond_same]
theorem sign_is (t:List PV) (a:Int) (s:List UInt8):F343 0 t a s=F77 0 t a s:=rfl
theorem sgn_lt {t:List PV} {i:Nat} {s:List UInt8} (h:sgn t i s=true):i<t.length:=by
 unfold sgn at h
 simp only [Bool.and_eq_true,decide_eq_true_eq] at h
 exact h.1
theorem kindAt_nat (t:List PV) (i:Nat):F158 0 t (i:Int)=some (if i<t.length then tKind (t.getD i .bad) else 0):=by
 unfold F158
 have h0:decide ((i:Int)<0)=false:=decide_eq_false (by omega)
 have e0:((t.getD i .bad).fld 0).asInt=tKind (t.getD i .bad):=rfl
 by_cases hlt:i<t.length
 ·have h1:decide ((i:Int)≥(t.length:Int))=false:=decide_eq_false (by omega)
  simp only [h0,h1,cond_false,inRange_nat,hlt,decide_true,cond_true,Int.toNat_natCast,e0,if_true]
 ·have h1:decide ((i:Int)≥(t.length:Int))=true:=decide_eq_true (by omega)
  simp only [h0,h1,cond_false,cond_true,hlt,if_false]
theorem u64nat (n:Int):∃ u:Nat,u<18446744073709551616∧IntKind.wrap .u64 n=(u:Int):=by
 refine ⟨(n%18446744073709551616).toNat,by omega,?_⟩
 rw [IntKind.wrap_u64];omega
theorem fmt_ok (u:Nat) (hu:u<18446744073709551616):F135 0 (u:Int) 10=some (Lib.decDigits u):=by
 have d0:decide ((0:Int)≤(u:Int))=true:=decide_eq_true (by omega)
 have d1:decide ((u:Int)≤18446744073709551615)=true:=decide_eq_true (by omega)
 have hf:Lfmt 0 (u:Int) (10:Int)=some (decB u):=by
  first
   | (unfold Lfmtu;simp [d0,d1])
   | (unfold Lfmt;rw [decide_eq_true rfl,cond_true];unfold Lfmtu;simp [d0,d1])
 unfold F135
 rw [hf,Option.bind_some,decB_eq (by omega)]
def RV (t:List PV) (i:Nat) (x:Option (PV×Int×Int)):Prop:=∃ v q e,x=some (v,q,e)∧(e=0→∃ j:Nat,q=(j:Int)∧i<j∧j≤t.length)
theorem num_at (k:Int) (hk:k=3∨k=4) (t:List PV) (ht:t.length≤100000) (i:Nat) (hi:i≤100100):RV t i (F260 0 k t (i:Int))∧F371 0 t (i:Int) k=F260 0 k t (i:Int):=by
 have tail:∀ (neg:Bool) (j:Nat),j≤100101→i≤j→
  RV t i (bif ((if j<t.length then tKind (t.getD j .bad) else 0) != (2:Int)) then some (zeroV,(j:Int),(2:Int)) else
   bif inRange (j:Int) t.length then
   (F135 0 (IntKind.wrap .u64 ((t.getD (j:Int).toNat .bad).fld 2).asInt) (10:Int)).bind fun y9=>
   bif decide ((if neg=true then [45] else ([]:List UInt8)).length+y9.length≤strMax) then
   (F239 0 k ((if neg=true then [45] else ([]:List UInt8))++y9)).bind fun y10=>
   bif (y10.2 != (0:Int)) then some (zeroV,(j:Int),y10.2) else some (y10.1,(IntKind.wrap .i64 ((j:Int)+(1:Int))),(0:Int))
   else none else none)∧
  (bif imp (!(decide ((j:Int)≥(t.length:Int)))) (inRange (j:Int) t.length) then
   bif (bif (decide ((j:Int)≥(t.length:Int))) then true else (((t.getD (j:Int).toNat .bad).fld 0).asInt != (2:Int))) then some (zeroV,(j:Int),(2:Int)) else
   bif inRange (j:Int) t.length then
   (F379 0 (IntKind.wrap .u64 ((t.getD (j:Int).toNat .bad).fld 2).asInt)).bind fun y9=>
   bif decide ((if neg=true then [45] else ([]:List UInt8)).length+y9.length≤strMax) then
   (F242 0 k ((if neg=true then [45] else ([]:List UInt8))++y9)).bind fun y10=>
   bif (y10.2 != (0:Int)) then some (zeroV,(j:Int),y10.2) else some (y10.1,(IntKind.wrap .i64 ((j:Int)+(1:Int))),(0:Int))
   else none else none else none)=
  (bif ((if j<t.length then tKind (t.getD j .bad) else 0) != (2:Int)) then some (zeroV,(j:Int),(2:Int)) else
   bif inRange (j:Int) t.length then
   (F135 0 (IntKind.wrap .u64 ((t.getD (j:Int).toNat .bad).fld 2).asInt) (10:Int)).bind fun y9=>
   bif decide ((if neg=true then [45] else ([]:List UInt8)).length+y9.length≤strMax) then
   (F239 0 k ((if neg=true then [45] else ([]:List UInt8))++y9)).bind fun y10=>
   bif (y10.2 != (0:Int)) then some (zeroV,(j:Int),y10.2) else some (y10.1,(IntKind.wrap .i64 ((j:Int)+(1:Int))),(0:Int))
   else none else none):=by
  intro neg j hj hij
  by_cases hlt:j<t.length
  ·have h1:decide ((j:Int)≥(t.length:Int))=false:=decide_eq_false (by omega)
   have e0:((t.getD j .bad).fld 0).asInt=tKind (t.getD j .bad):=rfl
   obtain ⟨u,hu,hw⟩:=u64nat ((t.getD j .bad).fld 2).asInt
   have hd:=digits_eq u hu
   rw [decB_eq (by omega)] at hd
   have hlen:=dec_len u hu
   have hs:(if neg=true then [45] else ([]:List UInt8))++Lib.decDigits u=signed neg (Lib.decDigits u):=by cases neg<;>rfl
   have hl:decide ((if neg=true then [45] else ([]:List UInt8)).length+(Lib.decDigits u).length≤strMax)=true:=leStr (by cases neg<;>simp<;>omega)
   simp only [hlt,if_true,h1,Bool.not_false,imp,cond_true,cond_false,inRange_nat,decide_true,Int.toNat_natCast,e0,hw,fmt_ok u hu,hd,Option.bind_some,hl,hs,parse_ok k hk neg u hu,refParse_ok k hk neg u hu,and_true]
   by_cases h2:tKind (t.getD j .bad)=2
   ·have b2:(tKind (t.getD j .bad) != 2)=false:=bneE h2
    simp only [b2,cond_false]
    by_cases h0:(numV k neg u).2=0
    ·have b0:((numV k neg u).2 != 0)=false:=bneE h0
     refine ⟨_,_,_,by rw [b0,cond_false],fun _=>⟨j+1,wadd1 (by omega),by omega,by omega⟩⟩
    ·have b0:((numV k neg u).2 != 0)=true:=bne_iff_ne.2 h0
     exact ⟨_,_,_,by rw [b0,cond_true],fun h=>absurd h h0⟩
   ·have b2:(tKind (t.getD j .bad) != 2)=true:=bne_iff_ne.2 h2
    exact ⟨_,_,_,by rw [b2,cond_true],fun h=>by cases h⟩
  ·have h1:decide ((j:Int)≥(t.length:Int))=true:=decide_eq_true (by omega)
   have b2:((0:Int) != 2)=true:=rfl
   simp only [hlt,if_false,h1,Bool.not_true,imp,cond_true,cond_false,b2,Bool.not_false,cond_same]
   exact ⟨⟨_,_,_,rfl,fun h=>by cases h⟩,by trivial⟩
 unfold F260 F371
 rw [sign_is,is_nat]
 simp only [Option.bind_some]
 cases hs:sgn t i [45] with
 | true=>
  obtain ⟨h1,h2⟩:=tail true (i+1) (by omega) (by omega)
  have hw:IntKind.wrap .i64 ((i:Int)+1)=((i+1:Nat):Int):=wadd1 (by omega)
  simp only [cond_true,hw,kindAt_nat,Option.bind_some]
  exact ⟨h1,h2⟩
 | false=>
  obtain ⟨h1,h2⟩:=tail false i (by omega) (by omega)
  simp only [cond_false,kindAt_nat,Option.bind_some]
  exact ⟨h1,h2⟩
theorem parse_true:F239 0 1 [116,114,117,101]=some (mkV 1 1,0):=rfl
theorem parse_false:F239 0 1 [102,97,108,115,101]=some (mkV 1 0,0):=rfl
theorem text_small (s:List UInt8) (h:s.length≤1048576) (k:Int):smallV (PV.agg [(PV.int k),(PV.int (0:Int)),(PV.str s),(PV.slice []),(PV.slice []),(PV.slice []),(PV.slice [])]):=⟨Nat.zero_le _,h,(by show (0:Int)≤0;decide),(by show (0:Int)<18446744073709551616;decide)⟩
theorem value_at (k:Int) (hk:k=1∨k=7∨k=3∨k=4) (t:List PV) (ht:t.length≤100000) (i:Nat) (hi:i≤100100):
 RV t i (F159 0 k t (i:Int))∧F344 0 t (i:Int) k=F159 0 k t (i:Int):=by
 have e1:((t.getD i .bad).fld 1).asStr=tText (t.getD i .bad):=rfl
 have e0:((t.getD i .bad).fld 0).asInt=tKind (t.getD i .bad):=rfl
 unfold F159 F344
 rcases hk with rfl | rfl | hk
 · -- bool
  have c1:((1:Int)==1)=true:=rfl
  have c4:((1:Int)==4)=false:=rfl
  have c3:((1:Int)==3)=false:=rfl
  have c7:((1:Int)==7)=false:=rfl
  simp only [c1,c4,c3,c7,cond_true,cond_false,kindAt_nat,Option.bind_some]
  by_cases hlt:i<t.length
  ·have h1:decide ((i:Int)≥(t.length:Int))=false:=decide_eq_false (by omega)
   simp only [hlt,if_true,h1,cond_false,inRange_nat,decide_true,cond_true,Int.toNat_natCast,e0,e1,imp,cond_same]
   by_cases hn:tKind (t.getD i .bad)=1
   ·have b1:(tKind (t.getD i .bad)==1)=true:=beq_iff_eq.2 hn
    have b2:(tKind (t.getD i .bad) != 1)=false:=bneE hn
    simp only [b1,b2,cond_true,cond_false]
    have hw:IntKind.wrap .i64 ((i:Int)+1)=((i+1:Nat):Int):=wadd1 (by omega)
    by_cases ht1:tText (t.getD i .bad)=[116,114,117,101]
    ·have b3:(tText (t.getD i .bad)==[116,114,117,101])=true:=beq_iff_eq.2 ht1
     simp only [b3,cond_true,Bool.not_true,cond_false,ht1,parse_true,Option.bind_some,hw,and_true]
     exact ⟨⟨_,_,_,rfl,fun _=>⟨i+1,rfl,by omega,by omega⟩⟩,by trivial⟩
    ·have b3:(tText (t.getD i .bad)==[116,114,117,101])=false:=beq_eq_false_iff_ne.2 ht1
     by_cases ht2:tText (t.getD i .bad)=[102,97,108,115,101]
     ·have b4:(tText (t.getD i .bad)==[102,97,108,115,101])=true:=beq_iff_eq.2 ht2
      simp only [b3,b4,cond_true,Bool.not_true,Bool.not_false,cond_false,ht2,parse_false,Option.bind_some,hw]
      exact ⟨⟨_,_,_,rfl,fun _=>⟨i+1,rfl,by omega,by omega⟩⟩,by trivial⟩
     ·have b4:(tText (t.getD i .bad)==[102,97,108,115,101])=false:=beq_eq_false_iff_ne.2 ht2
      simp only [b3,b4,cond_true,Bool.not_false,cond_false,Option.bind_some]
      exact ⟨⟨_,_,_,rfl,fun h=>by cases h⟩,by trivial⟩
   ·have b1:(tKind (t.getD i .bad)==1)=false:=beq_eq_false_iff_ne.2 hn
    have b2:(tKind (t.getD i .bad) != 1)=true:=bne_iff_ne.2 hn
    simp only [b1,b2,cond_true,cond_false,cond_same,Bool.not_true,Bool.not_false,Option.bind_some]
    exact ⟨⟨_,_,_,rfl,fun h=>by cases h⟩,by trivial⟩
  ·have h1:decide ((i:Int)≥(t.length:Int))=true:=decide_eq_true (by omega)
   have z1:((0:Int)==1)=false:=rfl
   simp only [hlt,if_false,h1,cond_true,cond_false,z1,imp,Bool.not_false,cond_same,Option.bind_some]
   exact ⟨⟨_,_,_,rfl,fun h=>by cases h⟩,by trivial⟩
 · -- text
  have c1:((7:Int)==1)=false:=rfl
  have c4:((7:Int)==4)=false:=rfl
  have c3:((7:Int)==3)=false:=rfl
  have c7:((7:Int)==7)=true:=rfl
  simp only [c1,c4,c3,c7,cond_true,cond_false,kindAt_nat,Option.bind_some,imp,Bool.not_false,cond_same]
  by_cases hlt:i<t.length
  ·have h1:decide ((i:Int)≥(t.length:Int))=false:=decide_eq_false (by omega)
   simp only [hlt,if_true,h1,cond_false,inRange_nat,decide_true,cond_true,Int.toNat_natCast,e0,e1]
   by_cases hn:tKind (t.getD i .bad)=3
   ·have b1:(tKind (t.getD i .bad)==3)=true:=beq_iff_eq.2 hn
    have b2:(tKind (t.getD i .bad) != 3)=false:=bneE hn
    have hw:IntKind.wrap .i64 ((i:Int)+1)=((i+1:Nat):Int):=wadd1 (by omega)
    simp only [b1,b2,cond_true,cond_false]
    by_cases hL:((tText (t.getD i .bad)).length:Int)>4096
    ·have b5:decide (((tText (t.getD i .bad)).length:Int)>4096)=true:=decide_eq_true hL
     simp only [b5,cond_true]
     exact ⟨⟨_,_,_,rfl,fun h=>by cases h⟩,by trivial⟩
    ·have b5:decide (((tText (t.getD i .bad)).length:Int)>4096)=false:=decide_eq_false hL
     have hsm:=text_small (tText (t.getD i .bad)) (by omega) 7
     simp only [b5,cond_false,fitsV_eq _ _ hsm,refFitsV_eq _ _ hsm,Option.bind_some,hw]
     cases fitsV 7 (PV.agg [(PV.int 7),(PV.int (0:Int)),(PV.str (tText (t.getD i .bad))),(PV.slice []),(PV.slice []),(PV.slice []),(PV.slice [])]) with
     | true=>exact ⟨⟨_,_,_,rfl,fun _=>⟨i+1,rfl,by omega,by omega⟩⟩,by trivial⟩
     | false=>exact ⟨⟨_,_,_,rfl,fun h=>by cases h⟩,by trivial⟩
   ·have b1:(tKind (t.getD i .bad)==3)=false:=beq_eq_false_iff_ne.2 hn
    have b2:(tKind (t.getD i .bad) != 3)=true:=bne_iff_ne.2 hn
    simp only [b1,b2,cond_true,cond_false]
    exact ⟨⟨_,_,_,rfl,fun h=>by cases h⟩,by trivial⟩
  ·have h1:decide ((i:Int)≥(t.length:Int))=true:=decide_eq_true (by omega)
   have z1:((0:Int)==3)=false:=rfl
   simp only [hlt,if_false,h1,cond_true,cond_false,z1]
   exact ⟨⟨_,_,_,rfl,fun h=>by cases h⟩,by trivial⟩
 · -- numbers
  obtain ⟨n1,n2⟩:=num_at k hk t ht i hi
  obtain ⟨v,q,e,hn,hq⟩:=n1
  rw [hn] at n2
  have c1:(k==1)=false:=by rcases hk with rfl | rfl<;>rfl
  have c7:(k==7)=false:=by rcases hk with rfl | rfl<;>rfl
  have c43:(bif (k==4) then true else (k==3))=true:=by rcases hk with rfl | rfl<;>rfl
  simp only [c1,c7,c43,cond_true,cond_false,imp,Bool.not_false,cond_same,Option.bind_some,hn,n2,and_true]
  exact ⟨_,_,_,rfl,hq⟩
theorem kind_four {name:List UInt8} (h:kindOf name≠0):kindOf name=1∨kindOf name=7∨kindOf name=3∨kindOf name=4:=by
 by_cases hk:name∈knownNames
 ·simp only [knownNames,List.mem_cons,List.not_mem_nil,or_false] at hk
  have e:∀ k:Int,(k=1∨k=7∨k=3∨k=4)→some (kindOf name)=some k→kindOf name=1∨kindOf name=7∨kindOf name=3∨kindOf name=4:=fun k hk he=>by cases he;exact hk
  rcases hk with rfl | rfl | rfl | rfl | rfl | rfl | rfl | rfl | rfl | rfl | rfl | rfl | rfl
  ·exact e 1 (by decide) (by kernel_rfl)
  ·exact e 1 (by decide) (by kernel_rfl)
  ·exact e 1 (by decide) (by kernel_rfl)
  ·exact e 7 (by decide) (by kernel_rfl)
  ·exact e 7 (by decide) (by kernel_rfl)
  ·exact e 7 (by decide) (by kernel_rfl)
  ·exact e 7 (by decide) (by kernel_rfl)
  ·exact e 4 (by decide) (by kernel_rfl)
  ·exact e 4 (by decide) (by kernel_rfl)
  ·exact e 4 (by decide) (by kernel_rfl)
  ·exact e 4 (by decide) (by kernel_rfl)
  ·exact e 3 (by decide) (by kernel_rfl)
  ·exact e 3 (by decide) (by kernel_rfl)
 ·exact absurd (kindOf_unknown hk) h
def Pace (t:List PV) (x y:List PV×Int×List PV):Prop:=∃ (i:Nat) (acc:List PV),i≤t.length∧acc.length≤i∧x=(t,(i:Int),acc)∧y=(t,((i+1:Nat):Int),acc)
theorem reads_loop (t:List PV) (ht:t.length≤100000):∀ x y,Pace t x y→∃ r,loopW (S36_5step 0) x=some r∧loopW (S296_6step 0) y=some r∧r.1.length≤1048576:=by
 refine loopW_two (fun x=>t.length-x.2.1.toNat) (Pace t) (fun r:List PV×Int×Int=>r.1.length≤1048576) ?_
 rintro _ _ ⟨i,acc,hi,hacc,rfl,rfl⟩
 have hw:IntKind.wrap .i64 ((i:Int)+1)=((i+1:Nat):Int):=wadd1 (by omega)
 have e1:((t.getD (i+1) .bad).fld 1).asStr=tText (t.getD (i+1) .bad):=rfl
 have e0:((t.getD (i+1) .bad).fld 0).asInt=tKind (t.getD (i+1) .bad):=rfl
 simp only [S36_5step,S36_5,S296_6step,S296_6,F78,hw,kindAt_nat,Option.bind_some,sign_is]
 by_cases hlt:i+1<t.length
 ·have h1:decide (((i+1:Nat):Int)≥(t.length:Int))=false:=decide_eq_false (by omega)
  simp only [hlt,if_true,h1,cond_false,inRange_nat,decide_true,cond_true,Int.toNat_natCast,e0,e1,imp,cond_same]
  by_cases hn:tKind (t.getD (i+1) .bad)=1
  ·have b2:(tKind (t.getD (i+1) .bad) != 1)=false:=bneE hn
   simp only [b2,cond_false,kind_eq,refKind_eq,Option.bind_some]
   by_cases hk:kindOf (tText (t.getD (i+1) .bad))=0
   ·have b3:(kindOf (tText (t.getD (i+1) .bad))==0)=true:=beq_iff_eq.2 hk
    simp only [b3,cond_true,Option.bind_some]
    exact .inr ⟨_,rfl,rfl,by simp⟩
   ·have b3:(kindOf (tText (t.getD (i+1) .bad))==0)=false:=beq_eq_false_iff_ne.2 hk
    have hw2:IntKind.wrap .i64 (((i+1:Nat):Int)+1)=((i+2:Nat):Int):=wadd1 (by omega)
    have hw3:IntKind.wrap .i64 (((i+1:Nat):Int)+2)=((i+3:Nat):Int):=by
     rw [show ((i+1:Nat):Int)+2=((i+3:Nat):Int) by omega];exact wrap64_nat (by omega)
    have hw4:IntKind.wrap .i64 (((i+2:Nat):Int)+1)=((i+3:Nat):Int):=wadd1 (by omega)
    simp only [b3,cond_false,hw2,is_nat,Option.bind_some]
    cases hs:sgn t (i+2) [61] with
    | false=>
     have hm:(if (t.length:Int)<((i+2:Nat):Int) then (t.length:Int) else ((i+2:Nat):Int))=((i+2:Nat):Int):=if_neg (by omega)
     simp only [Bool.not_false,cond_true,Option.bind_some,hm]
     exact .inr ⟨_,rfl,rfl,by simp⟩
    | true=>
     have hlt2:=sgn_lt hs
     obtain ⟨⟨v,q,e,hv,hq⟩,hv2⟩:=value_at _ (kind_four hk) t ht (i+3) (by omega)
     rw [hv] at hv2
     simp only [Bool.not_true,cond_false,hw3,hw4,hv,hv2,Option.bind_some]
     by_cases he:e=0
     ·obtain ⟨j,rfl,hj1,hj2⟩:=hq he
      have b5:(e != 0)=false:=bneE he
      have l3:∀ x:PV,decide (acc.length+[x].length≤accMax)=true:=fun x=>decide_eq_true (by unfold accMax;simp;omega)
      have hwj:IntKind.wrap .i64 ((j:Int)+1)=((j+1:Nat):Int):=wadd1 (by omega)
      simp only [b5,cond_false,l3,cond_true,is_nat,Option.bind_some,hwj]
      cases hs1:sgn t j [93] with
      | true=>exact .inr ⟨_,rfl,rfl,by simp;omega⟩
      | false=>
       cases hs2:sgn t j [44] with
       | true=>
        refine .inl ⟨_,_,rfl,rfl,⟨j,acc++[PV.agg [PV.str (tText (t.getD (i+1) .bad)),v]],hj2,by simp;omega,rfl,rfl⟩,?_⟩
        have:=sgn_lt hs2
        simp only [Int.toNat_natCast]
        omega
       | false=>exact .inr ⟨_,rfl,rfl,by simp⟩
     ·have b5:(e != 0)=true:=bne_iff_ne.2 he
      simp only [b5,cond_true]
      exact .inr ⟨_,rfl,rfl,by simp⟩
  ·have b2:(tKind (t.getD (i+1) .bad) != 1)=true:=bne_iff_ne.2 hn
   simp only [b2,cond_true,Option.bind_some]
   exact .inr ⟨_,rfl,rfl,by simp⟩
 ·have h1:decide (((i+1:Nat):Int)≥(t.length:Int))=true:=decide_eq_true (by omega)
  have z1:((0:Int) != 1)=true:=rfl
  simp only [hlt,if_false,h1,cond_true,z1,imp,Bool.not_true,cond_false,Bool.not_false,Option.bind_some,cond_same]
  exact .inr ⟨_,rfl,rfl,by simp⟩
theorem read_eq (t:List PV) (ht:t.length≤100000) (a:Int):∃ r,F36 0 t a=some r∧F296 0 t a=some r∧r.1.length≤1048576:=by
 unfold F36 F296
 rw [sign_is]
 by_cases h0:0≤a
 ·obtain ⟨i,rfl⟩:∃ i:Nat,a=(i:Int):=⟨a.toNat,by omega⟩
  rw [is_nat]
  cases hs:sgn t i [91] with
  | false=>exact ⟨_,rfl,rfl,by simp⟩
  | true=>
   have hlt:=sgn_lt hs
   have hw:IntKind.wrap .i64 ((i:Int)+1)=((i+1:Nat):Int):=wadd1 (by omega)
   obtain ⟨r,h1,h2,h3⟩:=reads_loop t ht _ _ ⟨i,[],by omega,by simp,rfl,rfl⟩
   refine ⟨r,?_,?_,h3⟩
   ·simp only [Option.bind_some,Bool.not_true,cond_false,loopQ0,h1]
   ·simp only [Option.bind_some,Bool.not_true,cond_false,loopQ0,hw,h2]
 ·have hf:F77 0 t a [91]=some false:=by
   unfold F77
   have d:decide (a≥0)=false:=decide_eq_false (by omega)
   simp only [d,cond_false,imp,Bool.not_false,cond_true,cond_same]
  rw [hf]
  exact ⟨_,rfl,rfl,by simp⟩
end Go.Ab
namespace Go.Ab
open Go
set_option maxRecDepth 100000
noncomputable section
structure Tk where
 k:Int
 s:List UInt8
 n:Int
def tkOf (x:PV):Tk:=⟨(x.fld 0).asInt,(x.fld 1).asStr,(x.fld 2).asInt⟩
inductive Rs (α:Type) where
 | ok (v:α) (r:List Tk)
 | er (r:List Tk) (e:Int)
def Rs.bind {α β:Type} (x:Rs α) (f:α→List Tk→Rs β):Rs β:=match x with | .ok v r=>f v r | .er r e=>.er r e
theorem Rs.bind_ok {α β:Type} (v:α) (r:List Tk) (f:α→List Tk→Rs β):(Rs.ok v r).bind f=f v r:=rfl
theorem Rs.bind_er {α β:Type} (r:List Tk) (e:Int) (f:α→List Tk→Rs β):(Rs.er r e:Rs α).bind f=.er r e:=rfl
def isS (k:Int) (s:List UInt8):List Tk→Bool
 | []=>false
 | x::_=>x.k==k&&x.s==s
def kindS:List Tk→Int
 | []=>0
 | x::_=>x.k
def textS:List Tk→List UInt8
 | []=>[]
 | x::_=>x.s
def numS':List Tk→Int
 | []=>0
 | x::_=>x.n
def eatS (k:Int) (s:List UInt8) (ts:List Tk):Rs Unit:=bif isS k s ts then .ok () ts.tail else .er ts 2
def takeS (k:Int) (p:List UInt8→Bool) (ts:List Tk):Rs (List UInt8):=
 bif kindS ts==k then (bif p (textS ts) then .ok (textS ts) ts.tail else .er ts 8) else .er ts 2
def partS (ts:List Tk):Rs (List UInt8):=takeS 1 simpP ts
def typeTextS (ts:List Tk):Rs (List UInt8):=takeS 1 typeP ts
def wordK (w:List UInt8):Int:=
 bif w==[98,111,111,108] then 1 else bif w==[105,51,50] then 2 else bif w==[105,54,52] then 3 else bif w==[117,51,50] then 4 else bif w==[117,54,52] then 5 else bif w==[100,111,117,98,108,101] then 6 else bif w==[116,101,120,116] then 7 else bif w==[98,121,116,101,115] then 8 else 0
def tyOf (s:List UInt8):PV:=bif wordK s==0 then PV.agg [PV.int 0,PV.str s] else PV.agg [PV.int (wordK s),PV.str []]
def typS (ts:List Tk):Rs PV:=(typeTextS ts).bind fun s r=>.ok (tyOf s) r
def anyTextS (ts:List Tk):Rs (List UInt8):=takeS 3 (fun _=>true) ts
def numS (most:Int) (ts:List Tk):Rs Int:=
 bif kindS ts==2 then (bif decide (0≤numS' ts∧numS' ts≤most) then .ok (numS' ts) ts.tail else .er ts 6) else .er ts 2
def valS (pv:PV×Int) (back r:List Tk):Rs PV:=bif pv.2==0 then .ok pv.1 r else .er back pv.2
def itemVal (s:List UInt8):PV:=PV.agg [(PV.int 9),(PV.int 0),(PV.str s),(PV.slice []),(PV.slice []),(PV.slice []),(PV.slice [])]
def intS (pv:Int→List UInt8→PV×Int) (k:Int) (neg:Bool) (ts:List Tk):Rs PV:=
 bif kindS ts==2 then valS (pv k ((bif neg then [45] else [])++decB (IntKind.wrap .u64 (numS' ts)).toNat)) ts ts.tail else .er ts 2
def litS (pv:Int→List UInt8→PV×Int) (k:Int) (ts:List Tk):Rs PV:=
 bif k==0 then (partS ts).bind fun s r=>.ok (itemVal s) r
 else bif k==1 then (bif isS 1 [116,114,117,101] ts||isS 1 [102,97,108,115,101] ts then valS (pv k (textS ts)) ts ts.tail else .er ts 2)
 else bif k==6||k==8 then (anyTextS ts).bind fun s r=>valS (pv k s) ts r
 else bif k==7 then (anyTextS ts).bind fun s r=>valS (pv k (quote s)) ts r
 else bif isS 4 [45] ts then intS pv k true ts.tail else intS pv k false ts
def mkVal (k b:Int) (s:List UInt8):PV:=PV.agg [(PV.int k),(PV.int b),(PV.str s),(PV.slice []),(PV.slice []),(PV.slice []),(PV.slice [])]
def noteValS (pv:Int→List UInt8→PV×Int) (k:Int) (ts:List Tk):Rs PV:=
 bif k==1 then (bif isS 1 [116,114,117,101] ts then .ok (mkVal 1 1 []) ts.tail else bif isS 1 [102,97,108,115,101] ts then .ok (mkVal 1 0 []) ts.tail else .er ts 2)
 else bif k==7 then (bif kindS ts==3 then (bif decide ((textS ts).length>4096) then .er ts 3 else bif valid (textS ts) then .ok (mkVal 7 0 (textS ts)) ts.tail else .er ts 7) else .er ts 2)
 else bif isS 4 [45] ts then intS pv k true ts.tail else intS pv k false ts
def noteS (pv:Int→List UInt8→PV×Int) (kd:List UInt8→Int) (ts:List Tk):Rs PV:=
 bif kindS ts==1 then
  bif kd (textS ts)==0 then .er ts 8
  else (eatS 4 [61] ts.tail).bind fun _ r=>(noteValS pv (kd (textS ts)) r).bind fun v r=>.ok (PV.agg [PV.str (textS ts),v]) r
 else .er ts 2
def restNotesS (pv:Int→List UInt8→PV×Int) (kd:List UInt8→Int) (ts:List Tk) (acc:List PV):Rs (List PV):=
 (noteS pv kd ts).bind fun n r=>
  bif isS 4 [93] r then .ok (acc++[n]) r.tail
  else bif isS 4 [44] r then (if h:r.tail.length<ts.length then restNotesS pv kd r.tail (acc++[n]) else .er r 0)
  else .er r 2
termination_by ts.length
decreasing_by all_goals (simp only [List.length_tail] at *;omega)
def notesS (pv:Int→List UInt8→PV×Int) (kd:List UInt8→Int) (ts:List Tk):Rs (List PV):=
 bif isS 4 [91] ts then restNotesS pv kd ts.tail [] else .ok [] ts
def zeroF:PV:=PV.agg [(PV.int 0),(PV.int 0),(PV.str []),(PV.slice []),(PV.slice []),(PV.slice []),(PV.slice [])]
def fieldOf (num:Int) (nm:List UInt8) (card key:Int) (ty:PV) (un:List UInt8) (hd:Bool) (df:PV) (nts:List PV):PV:=
 PV.agg [PV.int num,PV.str nm,PV.int card,PV.int key,ty,PV.str un,PV.bool hd,df,PV.slice nts]
section
variable (pv:Int→List UInt8→PV×Int) (kd:List UInt8→Int)
def dfltS (wd:Bool) (k:Int) (ts:List Tk):Rs (Bool×PV):=bif wd&&isS 1 [100,101,102,97,117,108,116] ts then (litS pv k ts.tail).bind fun v r=>.ok (true,v) r else .ok (false,zeroF) ts
def tailS (card key:Int) (ty:PV) (un:List UInt8) (wd:Bool) (ts:List Tk):Rs PV:=
 (partS ts).bind fun nm r1=>(eatS 4 [61] r1).bind fun _ r2=>(numS 65535 r2).bind fun n r3=>(dfltS pv wd (ty.fld 0).asInt r3).bind fun d r4=>
 (notesS pv kd r4).bind fun l r5=>(eatS 4 [59] r5).bind fun _ r6=>.ok (fieldOf n nm card key ty un d.1 d.2 l) r6
def cardK (w:List UInt8):Int:=bif w==[114,101,113,117,105,114,101,100] then 1 else bif w==[111,112,116,105,111,110,97,108] then 2 else bif w==[112,108,97,105,110] then 3 else bif w==[108,105,115,116] then 4 else 0
def fieldS (ts:List Tk):Rs PV:=
 bif isS 1 [109,97,112] ts then (eatS 4 [60] ts.tail).bind fun _ r=>
  bif kindS r==1&&!(wordK (textS r)==0) then (eatS 4 [44] r.tail).bind fun _ r2=>(typS r2).bind fun ty r3=>(eatS 4 [62] r3).bind fun _ r4=>tailS pv kd 5 (wordK (textS r)) ty [] false r4
  else .er r 2
 else bif kindS ts==1&&!(cardK (textS ts)==0) then (typS ts.tail).bind fun ty r=>tailS pv kd (cardK (textS ts)) 0 ty [] true r
 else .er ts 2
end
def Sh {α:Type} (x:Rs α) (ts:List Tk):Prop:=∀ v r,x=.ok v r→r.length<ts.length
def Sh0 {α:Type} (x:Rs α) (ts:List Tk):Prop:=∀ v r,x=.ok v r→r.length≤ts.length
theorem Sh.le {α:Type} {x:Rs α} {ts:List Tk} (h:Sh x ts):Sh0 x ts:=fun v r e=>Nat.le_of_lt (h v r e)
theorem sh_bind {α β:Type} {x:Rs α} {f:α→List Tk→Rs β} {ts:List Tk} (hx:Sh x ts) (hf:∀ v r,Sh0 (f v r) r):Sh (x.bind f) ts:=by
 intro v r h
 cases x with
 | ok a q=>have:=hx a q rfl;have:=hf a q v r h;omega
 | er=>cases h
theorem sh0_bind {α β:Type} {x:Rs α} {f:α→List Tk→Rs β} {ts:List Tk} (hx:Sh0 x ts) (hf:∀ v r,Sh0 (f v r) r):Sh0 (x.bind f) ts:=by
 intro v r h
 cases x with
 | ok a q=>have:=hx a q rfl;have:=hf a q v r h;omega
 | er=>cases h
theorem sh0_ok {α:Type} (v:α) (r:List Tk):Sh0 (Rs.ok v r) r:=fun _ _ h=>by cases h;exact Nat.le_refl _
theorem sh_er {α:Type} (q r:List Tk) (e:Int):Sh (Rs.er q e:Rs α) r:=fun _ _ h=>by cases h
theorem isS_tail {k:Int} {s:List UInt8} {ts:List Tk} (h:isS k s ts=true):ts.tail.length<ts.length:=by
 cases ts with
 | nil=>cases h
 | cons x r=>simp
theorem kindS_tail {k:Int} {ts:List Tk} (h:(kindS ts==k)=true) (hk:(k==0)=false):ts.tail.length<ts.length:=by
 cases ts with
 | nil=>simp only [kindS,beq_iff_eq] at h;subst h;simp at hk
 | cons x r=>simp
theorem eat_sh (k:Int) (s:List UInt8) (ts:List Tk):Sh (eatS k s ts) ts:=by
 intro v r h
 unfold eatS at h
 cases hb:isS k s ts with
 | true=>rw [hb] at h;cases h;exact isS_tail hb
 | false=>rw [hb] at h;cases h
theorem take_sh (k:Int) (hk:(k==0)=false) (p:List UInt8→Bool) (ts:List Tk):Sh (takeS k p ts) ts:=by
 intro v r h
 unfold takeS at h
 cases hb:(kindS ts==k) with
 | true=>
  rw [hb] at h
  cases hp:p (textS ts)<;>simp only [hp,cond_true,cond_false] at h
  ·cases h
  ·cases h;exact kindS_tail hb hk
 | false=>rw [hb] at h;cases h
theorem part_sh (ts:List Tk):Sh (partS ts) ts:=take_sh 1 rfl _ ts
theorem anyText_sh (ts:List Tk):Sh (anyTextS ts) ts:=take_sh 3 rfl _ ts
theorem val_sh {x:PV×Int} {back r ts:List Tk} (h:r.length<ts.length):Sh (valS x back r) ts:=by
 intro v q e
 unfold valS at e
 cases hb:(x.2==0)<;>rw [hb] at e<;>cases e
 exact h
theorem int_sh (pv:Int→List UInt8→PV×Int) (k:Int) (neg:Bool) (ts:List Tk):Sh (intS pv k neg ts) ts:=by
 intro v r h
 unfold intS at h
 cases hb:(kindS ts==2) with
 | true=>rw [hb] at h;exact val_sh (kindS_tail hb rfl) v r h
 | false=>rw [hb] at h;cases h
theorem tail_le (ts:List Tk):ts.tail.length≤ts.length:=by simp
theorem sh_tail {α:Type} {x:Rs α} {ts:List Tk} (h:Sh x ts.tail):Sh x ts:=fun v r e=>Nat.lt_of_lt_of_le (h v r e) (tail_le ts)
theorem lit_sh (pv:Int→List UInt8→PV×Int) (k:Int) (ts:List Tk):Sh (litS pv k ts) ts:=by
 unfold litS
 cases (k==0) with
 | true=>exact sh_bind (part_sh ts) fun v r=>sh0_ok _ _
 | false=>
  cases (k==1) with
  | true=>
   cases hb:(isS 1 [116,114,117,101] ts||isS 1 [102,97,108,115,101] ts) with
   | true=>
    refine val_sh ?_
    cases h1:isS 1 [116,114,117,101] ts with
    | true=>exact isS_tail h1
    | false=>rw [h1] at hb;exact isS_tail (by simpa using hb)
   | false=>exact sh_er _ _ _
  | false=>
   cases (k==6||k==8) with
   | true=>
    intro v r h
    cases ha:anyTextS ts with
    | ok s q=>simp only [cond_true,cond_false,ha,Rs.bind] at h;exact val_sh (anyText_sh ts s q ha) v r h
    | er q e=>simp only [cond_true,cond_false,ha,Rs.bind] at h;cases h
   | false=>
    cases (k==7) with
    | true=>
     intro v r h
     cases ha:anyTextS ts with
     | ok s q=>simp only [cond_true,cond_false,ha,Rs.bind] at h;exact val_sh (anyText_sh ts s q ha) v r h
     | er q e=>simp only [cond_true,cond_false,ha,Rs.bind] at h;cases h
    | false=>
     cases isS 4 [45] ts with
     | true=>exact sh_tail (int_sh pv k true ts.tail)
     | false=>exact int_sh pv k false ts
theorem noteVal_sh (pv:Int→List UInt8→PV×Int) (k:Int) (ts:List Tk):Sh (noteValS pv k ts) ts:=by
 unfold noteValS
 cases (k==1) with
 | true=>
  cases h1:isS 1 [116,114,117,101] ts with
  | true=>intro v r e;cases e;exact isS_tail h1
  | false=>
   cases h2:isS 1 [102,97,108,115,101] ts with
   | true=>intro v r e;cases e;exact isS_tail h2
   | false=>exact sh_er _ _ _
 | false=>
  cases (k==7) with
  | true=>
   cases h3:(kindS ts==3) with
   | true=>
    cases decide ((textS ts).length>4096) with
    | true=>exact sh_er _ _ _
    | false=>
     cases valid (textS ts) with
     | true=>intro v r e;cases e;exact kindS_tail h3 rfl
     | false=>exact sh_er _ _ _
   | false=>exact sh_er _ _ _
  | false=>
   cases isS 4 [45] ts with
   | true=>exact sh_tail (int_sh pv k true ts.tail)
   | false=>exact int_sh pv k false ts
theorem note_sh (pv:Int→List UInt8→PV×Int) (kd:List UInt8→Int) (ts:List Tk):Sh (noteS pv kd ts) ts:=by
 unfold noteS
 cases (kindS ts==1) with
 | true=>
  cases (kd (textS ts)==0) with
  | true=>exact sh_er _ _ _
  | false=>exact sh_tail (sh_bind (eat_sh _ _ _) fun _ r=>sh0_bind (noteVal_sh pv _ r).le fun v q=>sh0_ok _ _)
 | false=>exact sh_er _ _ _
theorem restNotes_eq (pv:Int→List UInt8→PV×Int) (kd:List UInt8→Int) (ts:List Tk) (acc:List PV):restNotesS pv kd ts acc=(noteS pv kd ts).bind fun n r=>
 bif isS 4 [93] r then .ok (acc++[n]) r.tail else bif isS 4 [44] r then restNotesS pv kd r.tail (acc++[n]) else .er r 2:=by
 rw [restNotesS]
 cases h:noteS pv kd ts with
 | er r e=>rfl
 | ok n r=>
  have:=note_sh pv kd ts n r h
  have:=tail_le r
  simp only [Rs.bind,show r.tail.length<ts.length by omega,dite_true]
end
end Go.Ab
namespace Go.Ab
open Go
set_option maxRecDepth 100000
section
variable (pv:Int→List UInt8→PV×Int) (kd:List UInt8→Int)
end
end Go.Ab
namespace Go.Ab
open Go
set_option maxRecDepth 100000
def ts (t:List PV) (i:Nat):List Tk:=(t.drop i).map tkOf
structure TOk (t:List PV):Prop where
 len:t.length≤1048576
 txt:∀ x,x∈t→(x.fld 1).asStr.length≤1048576
theorem ts_end {t:List PV} {i:Nat} (h:t.length≤i):ts t i=[]:=by unfold ts;rw [List.drop_eq_nil_of_le h];rfl
theorem ts_cons {t:List PV} {i:Nat} (h:i<t.length):ts t i=tkOf (t.getD i .bad)::ts t (i+1):=by unfold ts;rw [drop_cons h .bad];rfl
theorem ts_tail (t:List PV) (i:Nat):(ts t i).tail=ts t (i+1):=by
 unfold ts
 by_cases h:i<t.length
 ·rw [drop_cons h .bad];rfl
 ·rw [List.drop_eq_nil_of_le (by omega),List.drop_eq_nil_of_le (by omega)];rfl
theorem ts_length (t:List PV) (i:Nat):(ts t i).length=t.length-i:=by unfold ts;simp
theorem isS_lt {k:Int} {s:List UInt8} {t:List PV} {i:Nat} (h:isS k s (ts t i)=true):i<t.length:=by
 by_cases hi:i<t.length
 ·exact hi
 ·rw [ts_end (by omega)] at h;cases h
theorem kindS_lt {k:Int} {t:List PV} {i:Nat} (hk:(k==0)=false) (h:(kindS (ts t i)==k)=true):i<t.length:=by
 by_cases hi:i<t.length
 ·exact hi
 ·rw [ts_end (by omega)] at h
  simp only [kindS,beq_iff_eq] at h
  subst h;simp at hk
abbrev QF:Type:=List UInt8×List UInt8×Unit×Unit×Unit×List PV×List PV×List PV×List PV
inductive Par {α R:Type} (t:List PV) (q:QF) (mk:α→Q0→R) (x:Rs α) (y:Option (R⊕(PV×Q0))):Prop
 | ok (v:α) (j:Nat):j≤t.length→x=.ok v (ts t j)→y=some (.inl (mk v (t,((j:Nat):Int),q)))→Par t q mk x y
 | er (j:Nat) (e:Int):j≤t.length→e≠0→x=.er (ts t j) e→y=some (.inr (PV.agg [PV.int ((j:Nat):Int),PV.int e],(t,((j:Nat):Int),q)))→Par t q mk x y
theorem kindP_eq (t:List PV) (i:Nat) (q:QF):F117 0 () (t,(i:Int),q)=some (kindS (ts t i),(t,(i:Int),q)):=by
 unfold F117
 by_cases h:i<t.length
 ·have e1:decide ((i:Int)≥(t.length:Int))=false:=decide_eq_false (by omega)
  simp only [e1,cond_false,inRange_nat,h,decide_true,cond_true,Int.toNat_natCast,ts_cons h,kindS,tkOf]
 ·have e1:decide ((i:Int)≥(t.length:Int))=true:=decide_eq_true (by omega)
  simp only [e1,cond_true,ts_end (show t.length≤i by omega),kindS]
def isA (s:List UInt8):List Tk→Bool
 | []=>false
 | x::_=>(x.k==4||x.k==1)&&x.s==s
theorem isP_eq (t:List PV) (ht:TOk t) (i:Nat) (hi:i≤t.length) (s:List UInt8) (q:QF):F203 0 () 0 s (t,(i:Int),q)=some (isA s (ts t i),(t,(i:Int),q)):=by
 have hl:=ht.len
 have w:IntKind.wrap .i64 ((i:Int)+0)=(i:Int):=by rw [wrap64 (by omega) (by omega)];omega
 unfold F203
 simp only [w]
 by_cases h:i<t.length
 ·have e1:decide ((i:Int)<(t.length:Int))=true:=decide_eq_true (by omega)
  simp only [e1,imp,inRange_nat,h,decide_true,cond_true,Int.toNat_natCast,F286,Option.bind_some,ts_cons h,isA,tkOf]
  cases (((t.getD i .bad).fld 0).asInt==(4:Int))<;>cases (((t.getD i .bad).fld 0).asInt==(1:Int))<;>simp
 ·have e1:decide ((i:Int)<(t.length:Int))=false:=decide_eq_false (by omega)
  simp only [e1,imp,cond_false,Bool.not_false,cond_same,cond_true,Option.bind_some,ts_end (show t.length≤i by omega),isA]
theorem sign_w {s:List UInt8} (hs:partP s=true) (t:List PV) (ht:TOk t) (i:Nat) (hi:i≤t.length) (q:QF):F96 0 () s (t,(i:Int),q)=some (isS 1 s (ts t i),(t,(i:Int),q)):=by
 unfold F96
 rw [isPart_eq,hs]
 simp only [Option.bind_some,cond_true,isP_eq t ht i hi,kindP_eq]
 cases ts t i with
 | nil=>rfl
 | cons x r=>
  simp only [isA,isS,kindS]
  cases h4:(x.k==4)<;>cases h1:(x.k==1)<;>cases (x.s==s)<;>simp [h1]
theorem sign_s {s:List UInt8} (hs:partP s=false) (t:List PV) (ht:TOk t) (i:Nat) (hi:i≤t.length) (q:QF):F96 0 () s (t,(i:Int),q)=some (isS 4 s (ts t i),(t,(i:Int),q)):=by
 unfold F96
 rw [isPart_eq,hs]
 simp only [Option.bind_some,cond_false,isP_eq t ht i hi,kindP_eq]
 cases ts t i with
 | nil=>rfl
 | cons x r=>
  simp only [isA,isS,kindS]
  cases h4:(x.k==4)<;>cases h1:(x.k==1)<;>cases (x.s==s)<;>simp [h4]
def kOf (s:List UInt8):Int:=bif partP s then 1 else 4
theorem sign_k (s:List UInt8) (k:Int) (hk:kOf s=k) (t:List PV) (ht:TOk t) (i:Nat) (hi:i≤t.length) (q:QF):F96 0 () s (t,(i:Int),q)=some (isS k s (ts t i),(t,(i:Int),q)):=by
 unfold kOf at hk
 cases hp:partP s with
 | true=>rw [hp] at hk;subst hk;exact sign_w hp t ht i hi q
 | false=>rw [hp] at hk;subst hk;exact sign_s hp t ht i hi q
theorem may_k (s:List UInt8) (k:Int) (hk:kOf s=k) (t:List PV) (ht:TOk t) (i:Nat) (hi:i≤t.length) (q:QF):
 F91 0 () s (t,(i:Int),q)=some (bif isS k s (ts t i) then (true,(t,((i+1:Nat):Int),q)) else (false,(t,(i:Int),q))):=by
 have hl:=ht.len
 unfold F91
 simp only [sign_k s k hk t ht i hi,Option.bind_some,wadd' (show i≤9223372036854775000 by omega)]
 cases isS k s (ts t i)<;>rfl
theorem eat_k (s:List UInt8) (k:Int) (hk:kOf s=k) (t:List PV) (ht:TOk t) (i:Nat) (hi:i≤t.length) (q:QF):
 Par t q (fun _ s=>s) (eatS k s (ts t i)) (F94 0 () s (t,(i:Int),q)):=by
 unfold F94 eatS
 simp only [may_k s k hk t ht i hi,Option.bind_some]
 cases h:isS k s (ts t i) with
 | true=>exact .ok () (i+1) (isS_lt h) (by rw [cond_true,ts_tail]) rfl
 | false=>exact .er i 2 hi (by decide) rfl rfl
theorem txt_at {t:List PV} (ht:TOk t) {i:Nat} (h:i<t.length):((t.getD i .bad).fld 1).asStr.length≤1048576:=ht.txt _ (getD_mem h _)
theorem part1_eq (s:List UInt8):F238 0 s=some (simpP s):=by
 unfold F238 simpP
 rw [isPart_eq]
 cases partP s with
 | true=>simp only [Option.bind_some,cond_true,word_eq,Bool.true_and]
 | false=>simp only [Option.bind_some,cond_false,Bool.false_and]
theorem type1_eq (s:List UInt8) (hs:s.length≤1048576):F229 0 s=some (typeP s):=typeBind_eq s hs
theorem take_go {T:List UInt8→Option Bool} {p:List UInt8→Bool} (hT:∀ s,s.length≤1048576→T s=some (p s)) {f:Q0→Option ((List UInt8×Q0)⊕(PV×Q0))} (k:Int) (hk:(k==0)=false)
 (hf:∀ s:Q0,f s=(F117 0 () s).bind fun y1=>bif y1.1 != k then some (.inr (PV.agg [PV.int y1.2.2.1,PV.int 2],y1.2)) else bif inRange y1.2.2.1 y1.2.1.length then (T ((y1.2.1.getD y1.2.2.1.toNat .bad).fld 1).asStr).bind fun y8=>
  bif !y8 then some (.inr (PV.agg [PV.int y1.2.2.1,PV.int 8],y1.2)) else some (.inl (((y1.2.1.getD y1.2.2.1.toNat .bad).fld 1).asStr,y1.2.1,IntKind.wrap .i64 (y1.2.2.1+1),y1.2.2.2)) else none)
 (t:List PV) (ht:TOk t) (i:Nat) (hi:i≤t.length) (q:QF):Par t q (fun v s=>(v,s)) (takeS k p (ts t i)) (f (t,(i:Int),q)):=by
 have hl:=ht.len
 rw [hf,kindP_eq,Option.bind_some]
 unfold takeS
 by_cases hb:kindS (ts t i)=k
 ·have e1:(kindS (ts t i) != k)=false:=by rw [hb];simp
  have e2:(kindS (ts t i)==k)=true:=by rw [hb];simp
  have h:i<t.length:=kindS_lt hk e2
  have hx:textS (ts t i)=((t.getD i .bad).fld 1).asStr:=by rw [ts_cons h];rfl
  simp only [e1,e2,cond_false,cond_true,inRange_nat,h,decide_true,Int.toNat_natCast,hT _ (txt_at ht h),Option.bind_some,hx,wadd' (show i≤9223372036854775000 by omega)]
  cases hp:p ((t.getD i .bad).fld 1).asStr with
  | true=>exact .ok _ (i+1) h (by rw [cond_true,ts_tail]) rfl
  | false=>exact .er i 8 hi (by decide) rfl rfl
 ·have e1:(kindS (ts t i) != k)=true:=bneI hb
  have e2:(kindS (ts t i)==k)=false:=beqI hb
  simp only [e1,e2,cond_true,cond_false]
  exact .er i 2 hi (by decide) rfl rfl
theorem anyText_par (t:List PV) (ht:TOk t) (i:Nat) (hi:i≤t.length) (q:QF):Par t q (fun v s=>(v,s)) (anyTextS (ts t i)) (F95 0 () (t,(i:Int),q)):=by
 have h:=take_go (f:=fun s=>F92_v1 0 () 3 () s) (T:=F201 0) (p:=fun _=>true) (fun s _=>rfl) 3 rfl (fun s=>rfl) t ht i hi q
 unfold F95
 rcases h with ⟨v,j,hj,hx,hy⟩ | ⟨j,e,hj,he,hx,hy⟩
 ·exact .ok v j hj hx (by simp only [hy,Option.bind_some,sumE_inl])
 ·exact .er j e hj he hx (by simp only [hy,Option.bind_some,sumE_inr])
theorem part_par (t:List PV) (ht:TOk t) (i:Nat) (hi:i≤t.length) (q:QF):Par t q (fun v s=>(v,s)) (partS (ts t i)) (F132 0 () (t,(i:Int),q)):=by
 have h:=take_go (f:=fun s=>F92_v3 0 () 1 () s) (T:=F238 0) (p:=simpP) (fun s _=>part1_eq s) 1 rfl (fun s=>rfl) t ht i hi q
 unfold F132
 rcases h with ⟨v,j,hj,hx,hy⟩ | ⟨j,e,hj,he,hx,hy⟩
 ·exact .ok v j hj hx (by simp only [hy,Option.bind_some,sumE_inl])
 ·exact .er j e hj he hx (by simp only [hy,Option.bind_some,sumE_inr])
theorem typeText_par (t:List PV) (ht:TOk t) (i:Nat) (hi:i≤t.length) (q:QF):Par t q (fun v s=>(v,s)) (typeTextS (ts t i)) (F115 0 () (t,(i:Int),q)):=by
 have h:=take_go (f:=fun s=>F92_v4 0 () 1 () s) (T:=F229 0) (p:=typeP) (fun s hs=>type1_eq s hs) 1 rfl (fun s=>rfl) t ht i hi q
 unfold F115
 rcases h with ⟨v,j,hj,hx,hy⟩ | ⟨j,e,hj,he,hx,hy⟩
 ·exact .ok v j hj hx (by simp only [hy,Option.bind_some,sumE_inl])
 ·exact .er j e hj he hx (by simp only [hy,Option.bind_some,sumE_inr])
theorem wrapU_gt {n most:Int} (h:-9223372036854775808≤n∧n≤9223372036854775807) (hm:0≤most∧most≤2147483647):decide (IntKind.wrap .u64 n>most)=!decide (0≤n∧n≤most):=by
 rw [IntKind.wrap_u64]
 by_cases hc:0≤n∧n≤most
 ·rw [decide_eq_true hc,decide_eq_false (by omega)];rfl
 ·rw [decide_eq_false hc,decide_eq_true (by omega)];rfl
theorem num_par (t:List PV) (ht:TOk t) (i:Nat) (hi:i≤t.length) (most:Int) (hm:0≤most∧most≤2147483647) (hn:∀ x,x∈t→-9223372036854775808≤(x.fld 2).asInt∧(x.fld 2).asInt≤9223372036854775807) (q:QF):
 Par t q (fun v s=>(v,s)) (numS most (ts t i)) (F209 0 () most (t,(i:Int),q)):=by
 have hl:=ht.len
 unfold F209 numS
 rw [kindP_eq,Option.bind_some]
 by_cases hb:kindS (ts t i)=2
 ·have e1:(kindS (ts t i) != 2)=false:=by rw [hb];rfl
  have e2:(kindS (ts t i)==2)=true:=by rw [hb];rfl
  have h:i<t.length:=kindS_lt rfl e2
  have hx:numS' (ts t i)=((t.getD i .bad).fld 2).asInt:=by rw [ts_cons h];rfl
  have hr:=hn _ (getD_mem h .bad)
  simp only [e1,e2,cond_false,cond_true,inRange_nat,h,decide_true,Int.toNat_natCast,hx,wadd' (show i≤9223372036854775000 by omega),wrapU_gt hr hm]
  cases hp:decide (0≤((t.getD i .bad).fld 2).asInt∧((t.getD i .bad).fld 2).asInt≤most) with
  | true=>exact .ok _ (i+1) h (by rw [cond_true,ts_tail]) rfl
  | false=>exact .er i 6 hi (by decide) rfl rfl
 ·have e1:(kindS (ts t i) != 2)=true:=bneI hb
  have e2:(kindS (ts t i)==2)=false:=beqI hb
  simp only [e1,e2,cond_true,cond_false]
  exact .er i 2 hi (by decide) rfl rfl
end Go.Ab
namespace Go.Ab
open Go
set_option maxRecDepth 100000
noncomputable def parV (k:Int) (s:List UInt8):PV×Int:=(F239 0 k s).getD (zeroF,0)
def Reach (k:Int) (s:List UInt8):Prop:=((k=1∨k=6∨k=8)∧s.length≤16384)∨(k=7∧∃ x:List UInt8,x.length≤16384∧s=quote x)∨((2≤k∧k≤5)∧∃ (neg:Bool) (u:Nat),u<18446744073709551616∧s=(bif neg then [45] else [])++decB u)
def ParOk:Prop:=∀ (k:Int) (s:List UInt8),Reach k s→F239 0 k s=some (parV k s)
structure TNum (t:List PV):Prop extends TOk t where
 num:∀ x,x∈t→-9223372036854775808≤(x.fld 2).asInt∧(x.fld 2).asInt≤9223372036854775807
 sml:∀ x,x∈t→(x.fld 1).asStr.length≤16384
inductive NP (t:List PV) (x:Rs PV) (y:Option (PV×Int×Int)):Prop
 | ok (v:PV) (j:Nat):j≤t.length→x=.ok v (ts t j)→y=some (v,((j:Nat):Int),0)→NP t x y
 | er (j:Nat) (e:Int) (z:PV):j≤t.length→e≠0→x=.er (ts t j) e→y=some (z,((j:Nat):Int),e)→NP t x y
theorem isN_eq (t:List PV) (i:Nat) (s:List UInt8):F77 0 t (i:Int) s=some (isS 4 s (ts t i)):=by
 rw [is_nat]
 unfold sgn
 by_cases h:i<t.length
 ·rw [ts_cons h];simp [h,isS,tkOf,tKind,tText]
 ·rw [ts_end (by omega)];simp [h,isS]
theorem kindN_eq (t:List PV) (i:Nat):F158 0 t (i:Int)=some (kindS (ts t i)):=by
 rw [kindAt_nat]
 by_cases h:i<t.length
 ·rw [ts_cons h,if_pos h];rfl
 ·rw [ts_end (by omega),if_neg h];rfl
theorem wrapN {n:Int}:∃ u:Nat,u<18446744073709551616∧IntKind.wrap .u64 n=(u:Int)∧(IntKind.wrap .u64 n).toNat=u:=by
 obtain ⟨u,h1,h2⟩:=u64nat n
 exact ⟨u,h1,h2,by rw [h2];rfl⟩
theorem fmtB {u:Nat} (h:u<18446744073709551616):F135 0 (u:Int) 10=some (decB u):=by rw [fmt_ok u h,decB_eq (by omega)]
theorem numS_at {t:List PV} {i:Nat} (h:i<t.length):numS' (ts t i)=((t.getD i .bad).fld 2).asInt:=by rw [ts_cons h];rfl
theorem textS_at {t:List PV} {i:Nat} (h:i<t.length):textS (ts t i)=((t.getD i .bad).fld 1).asStr:=by rw [ts_cons h];rfl
theorem kind_at {t:List PV} {i:Nat} (h:i<t.length):kindS (ts t i)=((t.getD i .bad).fld 0).asInt:=by rw [ts_cons h];rfl
theorem isS_at {k:Int} {s:List UInt8} {t:List PV} {i:Nat} (h:i<t.length):isS k s (ts t i)=((((t.getD i .bad).fld 0).asInt==k)&&(((t.getD i .bad).fld 1).asStr==s)):=by rw [ts_cons h];rfl
theorem int_end (po:ParOk) (k:Int) (hk:2≤k∧k≤5) (t:List PV) (ht:TNum t) (neg:Bool) (pre:List UInt8) (hp:pre=bif neg then [45] else []) (i:Nat) (hi:i≤t.length):NP t (intS parV k neg (ts t i))
 ((F158 0 t (i:Int)).bind fun y3=>bif (y3 != (2:Int)) then some (zeroF,(i:Int),(2:Int)) else
   bif inRange (i:Int) t.length then (F135 0 (IntKind.wrap .u64 ((t.getD (i:Int).toNat .bad).fld 2).asInt) (10:Int)).bind fun y9=>
   bif decide (pre.length+y9.length≤strMax) then (F239 0 k (pre++y9)).bind fun y10=>
   bif (y10.2 != (0:Int)) then some (zeroF,(i:Int),y10.2) else some (y10.1,(IntKind.wrap .i64 ((i:Int)+(1:Int))),(0:Int)) else none else none):=by
 have hl:=ht.len
 rw [kindN_eq,Option.bind_some]
 unfold intS
 by_cases hb:kindS (ts t i)=2
 ·have e1:(kindS (ts t i) != 2)=false:=by rw [hb];rfl
  have e2:(kindS (ts t i)==2)=true:=by rw [hb];rfl
  have h:i<t.length:=kindS_lt rfl e2
  obtain ⟨u,hu,h1,h2⟩:=wrapN (n:=((t.getD i .bad).fld 2).asInt)
  have hlen:=decB_len u
  have hpl:pre.length≤1:=by subst hp;cases neg<;>simp
  have l1:decide (pre.length+(decB u).length≤strMax)=true:=leStr (by omega)
  have hpo:=po k (pre++decB u) (Or.inr (Or.inr ⟨hk,neg,u,hu,by rw [hp]⟩))
  simp only [e1,e2,cond_false,cond_true,inRange_nat,h,decide_true,Int.toNat_natCast,h1,fmtB hu,Option.bind_some,l1,hpo,numS_at h,←hp]
  unfold valS
  by_cases hz:(parV k (pre++decB u)).2=0
  ·have z1:((parV k (pre++decB u)).2 != 0)=false:=by rw [hz];rfl
   have z2:((parV k (pre++decB u)).2==0)=true:=by rw [hz];rfl
   simp only [z1,z2,cond_true,cond_false,wadd' (show i≤9223372036854775000 by omega)]
   exact .ok _ (i+1) h (by rw [ts_tail]) rfl
  ·have z1:((parV k (pre++decB u)).2 != 0)=true:=bneI hz
   have z2:((parV k (pre++decB u)).2==0)=false:=beqI hz
   simp only [z1,z2,cond_true,cond_false]
   exact .er i _ _ hi hz rfl rfl
 ·have e1:(kindS (ts t i) != 2)=true:=bneI hb
  have e2:(kindS (ts t i)==2)=false:=beqI hb
  simp only [e1,e2,cond_true,cond_false]
  exact .er i 2 _ hi (by decide) rfl rfl
theorem number_np (po:ParOk) (k:Int) (hk:2≤k∧k≤5) (t:List PV) (ht:TNum t) (i:Nat) (hi:i≤t.length):NP t (bif isS 4 [45] (ts t i) then intS parV k true (ts t i).tail else intS parV k false (ts t i)) (F260 0 k t (i:Int)):=by
 have hl:=ht.len
 have hw:IntKind.wrap .i64 ((i:Int)+1)=((i+1:Nat):Int):=wadd' (by omega)
 unfold F260
 rw [isN_eq,Option.bind_some]
 cases hs:isS 4 [45] (ts t i) with
 | true=>
  have:=int_end po k hk t ht true [45] rfl (i+1) (isS_lt hs)
  simp only [hw,cond_true,ts_tail]
  exact this
 | false=>
  have:=int_end po k hk t ht false [] rfl i hi
  simp only [cond_false]
  exact this
theorem parB1:F239 0 1 [116,114,117,101]=some (mkVal 1 1 [],0):=by kernel_rfl
theorem parB0:F239 0 1 [102,97,108,115,101]=some (mkVal 1 0 [],0):=by kernel_rfl
theorem fits7 (x:List UInt8) (h:x.length≤4096):F146 0 7 (PV.agg [(PV.int 7),(PV.int (0:Int)),(PV.str x),(PV.slice []),(PV.slice []),(PV.slice []),(PV.slice [])])=some (valid x):=by
 have hsm:smallV (PV.agg [(PV.int 7),(PV.int (0:Int)),(PV.str x),(PV.slice []),(PV.slice []),(PV.slice []),(PV.slice [])]):=⟨Nat.zero_le _,by show x.length≤1048576;omega,by show (0:Int)≤0;omega,by show (0:Int)<18446744073709551616;omega⟩
 have hle:decide (x.length≤4096)=true:=decide_eq_true h
 rw [fitsV_eq _ _ hsm]
 congr 1
 unfold fitsV vKind vBits vText vLists
 simp [PV.fld,PV.parts,PV.asInt,PV.asStr,PV.asList,isKind,textKind,hle]
theorem value_np (po:ParOk) (k:Int) (hk:k=1∨k=7∨k=3∨k=4) (t:List PV) (ht:TNum t) (i:Nat) (hi:i≤t.length):NP t (noteValS parV k (ts t i)) (F159 0 k t (i:Int)):=by
 have hl:=ht.len
 have hw:IntKind.wrap .i64 ((i:Int)+1)=((i+1:Nat):Int):=wadd' (by omega)
 unfold F159 noteValS
 simp only [kindN_eq]
 rcases hk with rfl | rfl | rfl | rfl
 · -- bool
  simp only [show ((1:Int)==1)=true from rfl,cond_true,Option.bind_some,show ((1:Int)==7)=false from rfl,show ((1:Int)==4)=false from rfl,show ((1:Int)==3)=false from rfl,cond_false]
  by_cases hlt:i<t.length
  ·simp only [inRange_nat,hlt,decide_true,imp,cond_true,cond_same,Int.toNat_natCast,kind_at hlt,isS_at hlt]
   cases hn:(((t.getD i .bad).fld 0).asInt==1) with
   | true=>
    cases h1:(((t.getD i .bad).fld 1).asStr==[116,114,117,101]) with
    | true=>
     have e:=eq_of_beq h1
     simp only [cond_true,Bool.and_self,e,parB1,Option.bind_some,hw,Bool.not_true,cond_false,cond_same]
     exact .ok _ (i+1) hlt (by rw [ts_tail]) rfl
    | false=>
     cases h2:(((t.getD i .bad).fld 1).asStr==[102,97,108,115,101]) with
     | true=>
      have e:=eq_of_beq h2
      simp only [cond_true,cond_false,Bool.and_false,Bool.and_self,e,parB0,Option.bind_some,hw,Bool.not_false,cond_same]
      exact .ok _ (i+1) hlt (by rw [ts_tail]) rfl
     | false=>
      simp only [cond_true,cond_false,Bool.and_false,Bool.not_false,cond_same]
      exact .er i 2 _ hi (by decide) rfl rfl
   | false=>
    simp only [cond_false,Bool.false_and,cond_same,Bool.not_false,cond_true]
    exact .er i 2 _ hi (by decide) rfl rfl
  ·have:ts t i=[]:=ts_end (by omega)
   simp only [this,kindS,isS,show ((0:Int)==1)=false from rfl,cond_false,imp,Bool.not_false,cond_true,cond_same]
   exact .er i 2 _ hi (by decide) (by rw [this]) rfl
 · -- text
  simp only [show ((7:Int)==1)=false from rfl,show ((7:Int)==7)=true from rfl,cond_false,cond_true,Option.bind_some,imp,Bool.not_false,cond_same]
  cases hn:(kindS (ts t i)==3) with
  | false=>
   simp only [cond_false,show ((7:Int)==4)=false from rfl,show ((7:Int)==3)=false from rfl]
   exact .er i 2 _ hi (by decide) rfl rfl
  | true=>
   have hlt:=kindS_lt (show ((3:Int)==0)=false from rfl) hn
   simp only [inRange_nat,hlt,decide_true,cond_true,Int.toNat_natCast,textS_at hlt]
   obtain ⟨x,hx⟩:∃ x,((t.getD i .bad).fld 1).asStr=x:=⟨_,rfl⟩
   simp only [hx]
   by_cases hle:x.length>4096
   ·have b3:decide ((x.length:Int)>4096)=true:=decide_eq_true (by omega)
    have b4:decide (x.length>4096)=true:=decide_eq_true hle
    simp only [b3,b4,cond_true]
    exact .er i 3 _ hi (by decide) rfl rfl
   ·have b3:decide ((x.length:Int)>4096)=false:=decide_eq_false (by omega)
    have b4:decide (x.length>4096)=false:=decide_eq_false hle
    simp only [b3,b4,cond_false,fits7 x (by omega),Option.bind_some,hw]
    cases valid x with
    | true=>exact .ok _ (i+1) hlt (by rw [cond_true,ts_tail];rfl) rfl
    | false=>exact .er i 7 _ hi (by decide) rfl rfl
 ·have hn:=number_np po 3 (by decide) t ht i hi
  simp only [show ((3:Int)==1)=false from rfl,show ((3:Int)==7)=false from rfl,show ((3:Int)==4)=false from rfl,show ((3:Int)==3)=true from rfl,cond_false,cond_true,Option.bind_some,imp,Bool.not_false,cond_same]
  rcases hn with ⟨v,j,hj,hx,hy⟩ | ⟨j,e,z,hj,he,hx,hy⟩
  ·exact .ok v j hj hx (by simp only [hy,Option.bind_some])
  ·exact .er j e z hj he hx (by simp only [hy,Option.bind_some])
 ·have hn:=number_np po 4 (by decide) t ht i hi
  simp only [show ((4:Int)==1)=false from rfl,show ((4:Int)==7)=false from rfl,show ((4:Int)==4)=true from rfl,cond_false,cond_true,Option.bind_some,imp,Bool.not_false,cond_same]
  rcases hn with ⟨v,j,hj,hx,hy⟩ | ⟨j,e,z,hj,he,hx,hy⟩
  ·exact .ok v j hj hx (by simp only [hy,Option.bind_some])
  ·exact .er j e z hj he hx (by simp only [hy,Option.bind_some])
theorem note_np (po:ParOk) (t:List PV) (ht:TNum t) (i:Nat) (hi:i≤t.length):NP t (noteS parV kindOf (ts t i)) (F78 0 t (i:Int)):=by
 have hl:=ht.len
 have hw:IntKind.wrap .i64 ((i:Int)+1)=((i+1:Nat):Int):=wadd' (by omega)
 have hw2:IntKind.wrap .i64 ((i:Int)+2)=((i+2:Nat):Int):=by rw [wrap64 (by omega) (by omega)];omega
 unfold F78 noteS
 rw [kindN_eq,Option.bind_some]
 by_cases hb:kindS (ts t i)=1
 ·have e1:(kindS (ts t i) != 1)=false:=by rw [hb];rfl
  have e2:(kindS (ts t i)==1)=true:=by rw [hb];rfl
  have hlt:i<t.length:=kindS_lt rfl e2
  simp only [e1,e2,cond_false,cond_true,inRange_nat,hlt,decide_true,Int.toNat_natCast,kind_eq,Option.bind_some,textS_at hlt,hw,hw2,isN_eq]
  generalize hx:((t.getD i .bad).fld 1).asStr=x
  cases hk:(kindOf x==0) with
  | true=>
   simp only [cond_true]
   exact .er i 8 _ hi (by decide) rfl rfl
  | false=>
   have hne:kindOf x≠0:=by simpa using hk
   simp only [cond_false,ts_tail,eatS]
   cases hs:isS 4 [61] (ts t (i+1)) with
   | false=>
    have hm:(if (t.length:Int)<((i+1:Nat):Int) then (t.length:Int) else ((i+1:Nat):Int))=((i+1:Nat):Int):=if_neg (by omega)
    simp only [cond_false,Rs.bind,Bool.not_false,cond_true,hm]
    exact .er (i+1) 2 _ hlt (by decide) rfl rfl
   | true=>
    have hlt2:=isS_lt hs
    simp only [cond_true,Rs.bind,Bool.not_true,cond_false,ts_tail]
    rcases value_np po (kindOf x) (kind_four hne) t ht (i+1+1) hlt2 with ⟨v,j,hj,hx,hy⟩ | ⟨j,e,z,hj,he,hx,hy⟩
    ·rw [show ((i+2:Nat):Int)=((i+1+1:Nat):Int) from rfl,hx,hy]
     exact .ok _ j hj rfl rfl
    ·rw [show ((i+2:Nat):Int)=((i+1+1:Nat):Int) from rfl,hx,hy]
     exact .er j e _ hj he rfl rfl
 ·have e1:(kindS (ts t i) != 1)=true:=bneI hb
  have e2:(kindS (ts t i)==1)=false:=beqI hb
  simp only [e1,e2,cond_true,cond_false]
  exact .er i 2 _ hi (by decide) rfl rfl
inductive NL (t:List PV) (x:Rs (List PV)) (y:Option (List PV×Int×Int)):Prop
 | ok (v:List PV) (j:Nat):j≤t.length→x=.ok v (ts t j)→y=some (v,((j:Nat):Int),0)→NL t x y
 | er (j:Nat) (e:Int):j≤t.length→e≠0→x=.er (ts t j) e→y=some ([],((j:Nat):Int),e)→NL t x y
theorem reads_np (po:ParOk) (t:List PV) (ht:TNum t):∀ (m i:Nat) (acc:List PV),t.length-i≤m→i<t.length→acc.length≤i→NL t (restNotesS parV kindOf (ts t (i+1)) acc) (loopW (S36_5step 0) (t,(i:Int),acc)):=by
 have hl:=ht.len
 intro m
 induction m with
 | zero=>intro i acc hm hi ha;omega
 | succ m ih=>
  intro i acc hm hi ha
  have hw:IntKind.wrap .i64 ((i:Int)+1)=((i+1:Nat):Int):=wadd' (by omega)
  have acm:∀ x:PV,decide (acc.length+[x].length≤accMax)=true:=fun x=>decide_eq_true (by unfold accMax;simp;omega)
  rw [restNotes_eq]
  have hn:=note_np po t ht (i+1) hi
  have hsh:=note_sh parV kindOf (ts t (i+1))
  rcases hn with ⟨v,j,hj,hx,hy⟩ | ⟨j,e,z,hj,he,hx,hy⟩
  ·have hij:i+1<j:=by
    have:=hsh v _ hx
    rw [ts_length,ts_length] at this
    omega
   have hwj:IntKind.wrap .i64 ((j:Int)+1)=((j+1:Nat):Int):=wadd' (by omega)
   simp only [hx,Rs.bind]
   cases h1:isS 4 [93] (ts t j) with
   | true=>
    refine .ok (acc++[v]) (j+1) (isS_lt h1) (by rw [cond_true,ts_tail]) (loopW_end ?_)
    simp only [S36_5step,S36_5,hw,hy,Option.bind_some,show ((0:Int) != 0)=false from rfl,cond_false,acm,cond_true,isN_eq,h1,hwj]
   | false=>
    cases h2:isS 4 [44] (ts t j) with
    | true=>
     have hjl:=isS_lt h2
     have st:S36_5step 0 (t,(i:Int),acc)=some (.inl (t,((j:Nat):Int),acc++[v])):=by
      simp only [S36_5step,S36_5,hw,hy,Option.bind_some,show ((0:Int) != 0)=false from rfl,cond_false,acm,cond_true,isN_eq,h1,h2,Bool.not_true]
     rw [loopW_go st,cond_false,cond_true,ts_tail]
     exact ih j (acc++[v]) (by omega) hjl (by simp;omega)
    | false=>
     refine .er j 2 hj (by decide) rfl (loopW_end ?_)
     simp only [S36_5step,S36_5,hw,hy,Option.bind_some,show ((0:Int) != 0)=false from rfl,cond_false,acm,cond_true,isN_eq,h1,h2,Bool.not_false]
  ·simp only [hx,Rs.bind]
   refine .er j e hj he rfl (loopW_end ?_)
   simp only [S36_5step,S36_5,hw,hy,Option.bind_some,bneI he,cond_true]
theorem readN_np (po:ParOk) (t:List PV) (ht:TNum t) (i:Nat) (hi:i≤t.length):NL t (notesS parV kindOf (ts t i)) (F36 0 t (i:Int)):=by
 unfold F36 notesS
 rw [isN_eq,Option.bind_some]
 cases h:isS 4 [91] (ts t i) with
 | false=>exact .ok [] i hi rfl rfl
 | true=>
  simp only [Bool.not_true,cond_false,cond_true,loopQ0,ts_tail]
  rcases reads_np po t ht _ i [] (Nat.le_refl _) (isS_lt h) (by simp) with ⟨v,j,hj,hx,hy⟩ | ⟨j,e,hj,he,hx,hy⟩
  ·exact .ok v j hj hx (by rw [hy];rfl)
  ·exact .er j e hj he hx (by rw [hy];rfl)
theorem notes_par (po:ParOk) (t:List PV) (ht:TNum t) (i:Nat) (hi:i≤t.length) (q:QF):Par t q (fun v s=>(v,s)) (notesS parV kindOf (ts t i)) (F205 0 () (t,(i:Int),q)):=by
 unfold F205
 rcases readN_np po t ht i hi with ⟨v,j,hj,hx,hy⟩ | ⟨j,e,hj,he,hx,hy⟩
 ·exact .ok v j hj hx (by simp only [hy,Option.bind_some];rfl)
 ·exact .er j e hj he hx (by simp only [hy,Option.bind_some,bneI he,cond_true])
end Go.Ab
namespace Go.Ab
open Go Go.Proofs
set_option maxRecDepth 100000
theorem kind_none (w:List UInt8) (h:w≠[98,111,111,108]∧w≠[105,51,50]∧w≠[105,54,52]∧w≠[117,51,50]∧w≠[117,54,52]∧w≠[100,111,117,98,108,101]∧w≠[116,101,120,116]∧w≠[98,121,116,101,115]):∃ n,F19 0 w=some n∧n=0:=by
 obtain ⟨h1,h2,h3,h4,h5,h6,h7,h8⟩:=h
 have g1:(([98,111,111,108]:List UInt8)==w)=false:=by rw [beq_eq_false_iff_ne];exact fun h=>h1 h.symm
 have g2:(([105,51,50]:List UInt8)==w)=false:=by rw [beq_eq_false_iff_ne];exact fun h=>h2 h.symm
 have g3:(([105,54,52]:List UInt8)==w)=false:=by rw [beq_eq_false_iff_ne];exact fun h=>h3 h.symm
 have g4:(([117,51,50]:List UInt8)==w)=false:=by rw [beq_eq_false_iff_ne];exact fun h=>h4 h.symm
 have g5:(([117,54,52]:List UInt8)==w)=false:=by rw [beq_eq_false_iff_ne];exact fun h=>h5 h.symm
 have g6:(([100,111,117,98,108,101]:List UInt8)==w)=false:=by rw [beq_eq_false_iff_ne];exact fun h=>h6 h.symm
 have g7:(([116,101,120,116]:List UInt8)==w)=false:=by rw [beq_eq_false_iff_ne];exact fun h=>h7 h.symm
 have g8:(([98,121,116,101,115]:List UInt8)==w)=false:=by rw [beq_eq_false_iff_ne];exact fun h=>h8 h.symm
 refine ⟨0,?_,rfl⟩
 unfold F19
 simp only [loopQ0]
 have e:loopW (S19_3step 0) (w,(1:Int))=some (.inr ()):=by
  refine loopW_of 9 ?_
  simp [loopR,S19_3step,S19_3,F21,g1,g2,g3,g4,g5,g6,g7,g8,(by decide:IntKind.wrap .i64 2=2),(by decide:IntKind.wrap .i64 3=3),(by decide:IntKind.wrap .i64 4=4),(by decide:IntKind.wrap .i64 5=5),(by decide:IntKind.wrap .i64 6=6),(by decide:IntKind.wrap .i64 7=7),(by decide:IntKind.wrap .i64 8=8),(by decide:IntKind.wrap .i64 9=9)]
 rw [e];rfl
theorem kind_words (w:List UInt8):∃ n,F18 0 w=some n∧F19 0 w=some n:=by
 by_cases h1:w=[98,111,111,108]
 ·subst h1
  refine ⟨1,?_,?_⟩
  ·unfold F18 F49;simp only [Option.bind_some,loopQ0];rw [loopW_of 9 (y:=.inl 1) (by kernel_rfl)];rfl
  ·unfold F19;simp only [loopQ0];rw [loopW_of 9 (y:=.inl 1) (by kernel_rfl)];rfl
 by_cases h2:w=[105,51,50]
 ·subst h2
  refine ⟨2,?_,?_⟩
  ·unfold F18 F49;simp only [Option.bind_some,loopQ0];rw [loopW_of 9 (y:=.inl 2) (by kernel_rfl)];rfl
  ·unfold F19;simp only [loopQ0];rw [loopW_of 9 (y:=.inl 2) (by kernel_rfl)];rfl
 by_cases h3:w=[105,54,52]
 ·subst h3
  refine ⟨3,?_,?_⟩
  ·unfold F18 F49;simp only [Option.bind_some,loopQ0];rw [loopW_of 9 (y:=.inl 3) (by kernel_rfl)];rfl
  ·unfold F19;simp only [loopQ0];rw [loopW_of 9 (y:=.inl 3) (by kernel_rfl)];rfl
 by_cases h4:w=[117,51,50]
 ·subst h4
  refine ⟨4,?_,?_⟩
  ·unfold F18 F49;simp only [Option.bind_some,loopQ0];rw [loopW_of 9 (y:=.inl 4) (by kernel_rfl)];rfl
  ·unfold F19;simp only [loopQ0];rw [loopW_of 9 (y:=.inl 4) (by kernel_rfl)];rfl
 by_cases h5:w=[117,54,52]
 ·subst h5
  refine ⟨5,?_,?_⟩
  ·unfold F18 F49;simp only [Option.bind_some,loopQ0];rw [loopW_of 9 (y:=.inl 5) (by kernel_rfl)];rfl
  ·unfold F19;simp only [loopQ0];rw [loopW_of 9 (y:=.inl 5) (by kernel_rfl)];rfl
 by_cases h6:w=[100,111,117,98,108,101]
 ·subst h6
  refine ⟨6,?_,?_⟩
  ·unfold F18 F49;simp only [Option.bind_some,loopQ0];rw [loopW_of 9 (y:=.inl 6) (by kernel_rfl)];rfl
  ·unfold F19;simp only [loopQ0];rw [loopW_of 9 (y:=.inl 6) (by kernel_rfl)];rfl
 by_cases h7:w=[116,101,120,116]
 ·subst h7
  refine ⟨7,?_,?_⟩
  ·unfold F18 F49;simp only [Option.bind_some,loopQ0];rw [loopW_of 9 (y:=.inl 7) (by kernel_rfl)];rfl
  ·unfold F19;simp only [loopQ0];rw [loopW_of 9 (y:=.inl 7) (by kernel_rfl)];rfl
 by_cases h8:w=[98,121,116,101,115]
 ·subst h8
  refine ⟨8,?_,?_⟩
  ·unfold F18 F49;simp only [Option.bind_some,loopQ0];rw [loopW_of 9 (y:=.inl 8) (by kernel_rfl)];rfl
  ·unfold F19;simp only [loopQ0];rw [loopW_of 9 (y:=.inl 8) (by kernel_rfl)];rfl
 have g1:(([98,111,111,108]:List UInt8)==w)=false:=by rw [beq_eq_false_iff_ne];exact fun h=>h1 h.symm
 have g2:(([105,51,50]:List UInt8)==w)=false:=by rw [beq_eq_false_iff_ne];exact fun h=>h2 h.symm
 have g3:(([105,54,52]:List UInt8)==w)=false:=by rw [beq_eq_false_iff_ne];exact fun h=>h3 h.symm
 have g4:(([117,51,50]:List UInt8)==w)=false:=by rw [beq_eq_false_iff_ne];exact fun h=>h4 h.symm
 have g5:(([117,54,52]:List UInt8)==w)=false:=by rw [beq_eq_false_iff_ne];exact fun h=>h5 h.symm
 have g6:(([100,111,117,98,108,101]:List UInt8)==w)=false:=by rw [beq_eq_false_iff_ne];exact fun h=>h6 h.symm
 have g7:(([116,101,120,116]:List UInt8)==w)=false:=by rw [beq_eq_false_iff_ne];exact fun h=>h7 h.symm
 have g8:(([98,121,116,101,115]:List UInt8)==w)=false:=by rw [beq_eq_false_iff_ne];exact fun h=>h8 h.symm
 refine ⟨0,?_,?_⟩
 ·unfold F18 F49
  simp only [Option.bind_some,loopQ0]
  have e:loopW (S18_3step 0) (w,PV.agg [(PV.str ([98,111,111,108]:List UInt8)),(PV.str ([105,51,50]:List UInt8)),(PV.str ([105,54,52]:List UInt8)),(PV.str ([117,51,50]:List UInt8)),(PV.str ([117,54,52]:List UInt8)),(PV.str ([100,111,117,98,108,101]:List UInt8)),(PV.str ([116,101,120,116]:List UInt8)),(PV.str ([98,121,116,101,115]:List UInt8))],(0:Int))=some (.inr ()):=by
   refine loopW_of 9 ?_
   simp [loopR,S18_3step,S18_3,inRange,PV.fld,PV.parts,PV.asStr,g1,g2,g3,g4,g5,g6,g7,g8,(by decide:IntKind.wrap .i64 1=1),(by decide:IntKind.wrap .i64 2=2),(by decide:IntKind.wrap .i64 3=3),(by decide:IntKind.wrap .i64 4=4),(by decide:IntKind.wrap .i64 5=5),(by decide:IntKind.wrap .i64 6=6),(by decide:IntKind.wrap .i64 7=7),(by decide:IntKind.wrap .i64 8=8)]
  rw [e];rfl
 ·unfold F19
  simp only [loopQ0]
  have e:loopW (S19_3step 0) (w,(1:Int))=some (.inr ()):=by
   refine loopW_of 9 ?_
   simp [loopR,S19_3step,S19_3,F21,g1,g2,g3,g4,g5,g6,g7,g8,(by decide:IntKind.wrap .i64 2=2),(by decide:IntKind.wrap .i64 3=3),(by decide:IntKind.wrap .i64 4=4),(by decide:IntKind.wrap .i64 5=5),(by decide:IntKind.wrap .i64 6=6),(by decide:IntKind.wrap .i64 7=7),(by decide:IntKind.wrap .i64 8=8),(by decide:IntKind.wrap .i64 9=9)]
  rw [e];rfl
end Go.Ab
namespace Go.Ab
open Go
set_option maxRecDepth 100000
theorem ts_inj {t:List PV} {j k:Nat} (hj:j≤t.length) (hk:k≤t.length) (h:ts t j=ts t k):j=k:=by
 have:=congrArg List.length h
 rw [ts_length,ts_length] at this
 omega
theorem wordK_eq (w:List UInt8):F18 0 w=some (wordK w)∧F19 0 w=some (wordK w):=by
 obtain ⟨n,h1,h2⟩:=kind_words w
 suffices h:n=wordK w by rw [←h];exact ⟨h1,h2⟩
 have hs:∀ (x:List UInt8) (k:Int),F19 0 x=some k→w=x→n=k:=fun x k hk e=>by
  subst e;rw [h2] at hk;cases hk;rfl
 unfold wordK
 by_cases e1:w=[98,111,111,108]
 ·rw [hs _ 1 (by unfold F19;simp only [loopQ0];rw [loopW_of 9 (y:=.inl 1) (by kernel_rfl)];rfl) e1,e1];rfl
 by_cases e2:w=[105,51,50]
 ·rw [hs _ 2 (by unfold F19;simp only [loopQ0];rw [loopW_of 9 (y:=.inl 2) (by kernel_rfl)];rfl) e2,e2];rfl
 by_cases e3:w=[105,54,52]
 ·rw [hs _ 3 (by unfold F19;simp only [loopQ0];rw [loopW_of 9 (y:=.inl 3) (by kernel_rfl)];rfl) e3,e3];rfl
 by_cases e4:w=[117,51,50]
 ·rw [hs _ 4 (by unfold F19;simp only [loopQ0];rw [loopW_of 9 (y:=.inl 4) (by kernel_rfl)];rfl) e4,e4];rfl
 by_cases e5:w=[117,54,52]
 ·rw [hs _ 5 (by unfold F19;simp only [loopQ0];rw [loopW_of 9 (y:=.inl 5) (by kernel_rfl)];rfl) e5,e5];rfl
 by_cases e6:w=[100,111,117,98,108,101]
 ·rw [hs _ 6 (by unfold F19;simp only [loopQ0];rw [loopW_of 9 (y:=.inl 6) (by kernel_rfl)];rfl) e6,e6];rfl
 by_cases e7:w=[116,101,120,116]
 ·rw [hs _ 7 (by unfold F19;simp only [loopQ0];rw [loopW_of 9 (y:=.inl 7) (by kernel_rfl)];rfl) e7,e7];rfl
 by_cases e8:w=[98,121,116,101,115]
 ·rw [hs _ 8 (by unfold F19;simp only [loopQ0];rw [loopW_of 9 (y:=.inl 8) (by kernel_rfl)];rfl) e8,e8];rfl
 have g:∀ x:List UInt8,w≠x→(w==x)=false:=fun x h=>beq_eq_false_iff_ne.2 h
 rw [g _ e1,g _ e2,g _ e3,g _ e4,g _ e5,g _ e6,g _ e7,g _ e8]
 obtain ⟨m,q1,q2⟩:=kind_none w ⟨e1,e2,e3,e4,e5,e6,e7,e8⟩
 rw [h2] at q1;cases q1
 exact q2
theorem typ_par (t:List PV) (ht:TOk t) (i:Nat) (hi:i≤t.length) (q:QF):Par t q (fun v s=>(v,s)) (typS (ts t i)) (F52 0 () (t,(i:Int),q)):=by
 unfold F52 typS
 rcases typeText_par t ht i hi q with ⟨v,j,hj,hx,hy⟩ | ⟨j,e,hj,he,hx,hy⟩
 ·rw [hx,Rs.bind_ok]
  simp only [hy,Option.bind_some,sumE_inl,(wordK_eq v).1]
  refine .ok (tyOf v) j hj rfl ?_
  unfold tyOf
  cases h:(wordK v==0) with
  | true=>have:(wordK v != 0)=false:=by simp [bne,h]
          simp only [this,cond_true,cond_false]
  | false=>have:(wordK v != 0)=true:=by simp [bne,h]
           simp only [this,cond_true,cond_false]
 ·rw [hx,Rs.bind_er]
  exact .er j e hj he rfl (by simp only [hy,Option.bind_some,sumE_inr])
theorem wordK_rng (w:List UInt8):0≤wordK w∧wordK w≤8:=by
 unfold wordK
 cases (w==[98,111,111,108])<;>cases (w==[105,51,50])<;>cases (w==[105,54,52])<;>cases (w==[117,51,50])<;>cases (w==[117,54,52])<;>cases (w==[100,111,117,98,108,101])<;>cases (w==[116,101,120,116])<;>cases (w==[98,121,116,101,115])<;>decide
theorem tyOf_rng (s:List UInt8):0≤((tyOf s).fld 0).asInt∧((tyOf s).fld 0).asInt≤8:=by
 unfold tyOf
 cases (wordK s==0) with
 | true=>exact ⟨Int.le_refl 0,(by decide:(0:Int)≤8)⟩
 | false=>exact wordK_rng s
theorem typS_rng {r z:List Tk} {ty:PV} (h:typS r=.ok ty z):0≤(ty.fld 0).asInt∧(ty.fld 0).asInt≤8:=by
 unfold typS at h
 cases hx:typeTextS r with
 | ok s q=>rw [hx] at h;simp only [Rs.bind_ok,Rs.ok.injEq] at h;rw [←h.1];exact tyOf_rng s
 | er q e=>rw [hx] at h;cases h
theorem scalar_par (po:ParOk) (k:Int) (s:List UInt8) (hs:Reach k s) (t:List PV) (ht:TOk t) (j:Nat) (hj:j+1≤t.length) (q:QF):
 Par t q (fun v s=>(v,s)) (valS (parV k s) (ts t j) (ts t (j+1))) (F133 0 () k s (t,((j+1:Nat):Int),q)):=by
 have hl:=ht.len
 have w:IntKind.wrap .i64 (((j+1:Nat):Int)-1)=(j:Int):=by rw [wrap64 (by omega) (by omega)];omega
 unfold F133 valS
 rw [po k s hs,Option.bind_some]
 by_cases hz:(parV k s).2=0
 ·have z1:((parV k s).2 != 0)=false:=by rw [hz];rfl
  have z2:((parV k s).2==0)=true:=by rw [hz];rfl
  simp only [z1,z2,cond_true,cond_false]
  exact .ok _ (j+1) hj rfl rfl
 ·simp only [bneI hz,beqI hz,cond_true,cond_false,w]
  exact .er j _ (by omega) hz rfl rfl
theorem anyText_ok {t:List PV} {i j:Nat} {v:List UInt8} (hj:j≤t.length) (h:anyTextS (ts t i)=.ok v (ts t j)):i<t.length∧v=((t.getD i .bad).fld 1).asStr∧j=i+1:=by
 unfold anyTextS takeS at h
 cases hb:(kindS (ts t i)==3) with
 | false=>rw [hb] at h;cases h
 | true=>
  have hlt:=kindS_lt (show ((3:Int)==0)=false from rfl) hb
  rw [hb,textS_at hlt,ts_tail] at h
  simp only [cond_true,Rs.ok.injEq] at h
  exact ⟨hlt,h.1.symm,ts_inj hj hlt h.2.symm⟩
theorem litText_par (po:ParOk) (k:Int) (f:List UInt8→List UInt8) (hf:∀ s:List UInt8,s.length≤16384→Reach k (f s)) (g:List UInt8×Q0→Option (List UInt8)) (hg:∀ (s:List UInt8) z,s.length≤16384→g (s,z)=some (f s)) (t:List PV) (ht:TNum t) (i:Nat) (hi:i≤t.length) (q:QF):
 Par t q (fun v s=>(v,s)) ((anyTextS (ts t i)).bind fun s r=>valS (parV k (f s)) (ts t i) r) ((F95 0 () (t,(i:Int),q)).bind fun z=>sumE (fun y31=>(g y31).bind fun y43=>(F133 0 () k y43 y31.2).bind fun z=>sumE (fun y33=>some (.inl y33)) (fun y34=>some (.inr y34)) z) (fun y32=>some (.inr y32)) z):=by
 rcases anyText_par t ht.toTOk i hi q with ⟨v,j,hj,hx,hy⟩ | ⟨j,e,hj,he,hx,hy⟩
 ·obtain ⟨hlt,rfl,rfl⟩:=anyText_ok hj hx
  have hs:=ht.sml _ (getD_mem hlt .bad)
  simp only [hx,hy,Rs.bind_ok,Option.bind_some,sumE_inl,hg _ _ hs]
  rcases scalar_par po k _ (hf _ hs) t ht.toTOk i hlt q with ⟨v,j,hj,hx,hy⟩ | ⟨j,e,hj,he,hx,hy⟩
  ·exact .ok v j hj hx (by simp only [hy,Option.bind_some,sumE_inl])
  ·exact .er j e hj he hx (by simp only [hy,Option.bind_some,sumE_inr])
 ·simp only [hx,hy,Rs.bind_er,Option.bind_some,sumE_inr]
  exact .er j e hj he rfl rfl
theorem litInt_par (po:ParOk) (k:Int) (hk:2≤k∧k≤5) (t:List PV) (ht:TNum t) (neg:Bool) (pre:List UInt8) (hp:pre=bif neg then [45] else []) (i:Nat) (hi:i≤t.length) (q:QF):Par t q (fun v s=>(v,s)) (intS parV k neg (ts t i))
 ((F117 0 () (t,(i:Int),q)).bind fun y60=>bif (y60.1 != (2:Int)) then some (.inr ((PV.agg [(PV.int y60.2.2.1),(PV.int (2:Int))]),y60.2)) else
   bif inRange (IntKind.wrap .i64 (IntKind.wrap .i64 (y60.2.2.1+(1:Int))-1)) y60.2.1.length then
   (F135 0 (IntKind.wrap .u64 ((y60.2.1.getD (IntKind.wrap .i64 (IntKind.wrap .i64 (y60.2.2.1+(1:Int))-1)).toNat .bad).fld 2).asInt) (10:Int)).bind fun y70=>
   bif decide (pre.length+y70.length≤strMax) then
   (F133 0 () k (pre++y70) (y60.2.1,IntKind.wrap .i64 (y60.2.2.1+(1:Int)),y60.2.2.2)).bind fun z=>sumE (fun y71=>some (.inl y71)) (fun y72=>some (.inr y72)) z
   else none else none):=by
 have hl:=ht.len
 rw [kindP_eq,Option.bind_some]
 unfold intS
 by_cases hb:kindS (ts t i)=2
 ·have e1:(kindS (ts t i) != 2)=false:=by rw [hb];rfl
  have e2:(kindS (ts t i)==2)=true:=by rw [hb];rfl
  have h:i<t.length:=kindS_lt rfl e2
  obtain ⟨u,hu,h1,h2⟩:=wrapN (n:=((t.getD i .bad).fld 2).asInt)
  have hlen:=decB_len u
  have hpl:pre.length≤1:=by subst hp;cases neg<;>simp
  have l1:decide (pre.length+(decB u).length≤strMax)=true:=leStr (by omega)
  have w1:IntKind.wrap .i64 ((i:Int)+1)=((i+1:Nat):Int):=wadd' (by omega)
  have w2:IntKind.wrap .i64 (((i+1:Nat):Int)-1)=(i:Int):=by rw [wrap64 (by omega) (by omega)];omega
  simp only [e1,e2,cond_false,cond_true,w1,w2,inRange_nat,h,decide_true,Int.toNat_natCast,h1,fmtB hu,Option.bind_some,l1,numS_at h,←hp,ts_tail]
  rcases scalar_par po k (pre++decB u) (Or.inr (Or.inr ⟨hk,neg,u,hu,by rw [hp]⟩)) t ht.toTOk i h q with ⟨v,j,hj,hx,hy⟩ | ⟨j,e,hj,he,hx,hy⟩
  ·exact .ok v j hj hx (by simp only [hy,Option.bind_some,sumE_inl])
  ·exact .er j e hj he hx (by simp only [hy,Option.bind_some,sumE_inr])
 ·simp only [bneI hb,beqI hb,cond_true,cond_false]
  exact .er i 2 hi (by decide) rfl rfl
theorem lit_par (po:ParOk) (k:Int) (hk:0≤k∧k≤8) (t:List PV) (ht:TNum t) (i:Nat) (hi:i≤t.length) (q:QF):Par t q (fun v s=>(v,s)) (litS parV k (ts t i)) (F63 0 () k (t,(i:Int),q)):=by
 have hl:=ht.len
 unfold F63 litS
 by_cases k0:k=0
 ·subst k0
  rw [show ((0:Int)==0)=true from rfl,cond_true,cond_true]
  rcases part_par t ht.toTOk i hi q with ⟨v,j,hj,hx,hy⟩ | ⟨j,e,hj,he,hx,hy⟩
  ·simp only [hx,hy,Rs.bind_ok,Option.bind_some,sumE_inl]
   exact .ok (itemVal v) j hj rfl rfl
  ·simp only [hx,hy,Rs.bind_er,Option.bind_some,sumE_inr]
   exact .er j e hj he rfl rfl
 rw [beqI k0,cond_false,cond_false]
 by_cases k1:k=1
 ·subst k1
  rw [show ((1:Int)==1)=true from rfl,cond_true,cond_true]
  have w1:IntKind.wrap .i64 ((i:Int)+1)=((i+1:Nat):Int):=wadd' (by omega)
  have w2:IntKind.wrap .i64 (((i+1:Nat):Int)-1)=(i:Int):=by rw [wrap64 (by omega) (by omega)];omega
  have fin:∀ h:i<t.length,Par t q (fun v s=>(v,s)) (valS (parV 1 (textS (ts t i))) (ts t i) (ts t (i+1))) ((F133 0 () 1 ((t.getD i .bad).fld 1).asStr (t,((i+1:Nat):Int),q)).bind fun z=>sumE (fun y18=>some (.inl y18)) (fun y19=>some (.inr y19)) z):=fun h=>by
   have hs:=ht.sml _ (getD_mem h .bad)
   rw [textS_at h]
   rcases scalar_par po 1 ((t.getD i .bad).fld 1).asStr (Or.inl ⟨Or.inl rfl,hs⟩) t ht.toTOk i h q with ⟨v,j,hj,hx,hy⟩ | ⟨j,e,hj,he,hx,hy⟩
   ·exact .ok v j hj hx (by simp only [hy,Option.bind_some,sumE_inl])
   ·exact .er j e hj he hx (by simp only [hy,Option.bind_some,sumE_inr])
  simp only [sign_k [116,114,117,101] 1 (by decide) t ht.toTOk i hi,sign_k [102,97,108,115,101] 1 (by decide) t ht.toTOk i hi,Option.bind_some]
  cases h1:isS 1 [116,114,117,101] (ts t i) with
  | true=>
   have h:=isS_lt h1
   simp only [Bool.not_true,cond_false,Bool.true_or,cond_true,w1,w2,inRange_nat,h,decide_true,Int.toNat_natCast,ts_tail]
   exact fin h
  | false=>
   cases h2:isS 1 [102,97,108,115,101] (ts t i) with
   | true=>
    have h:=isS_lt h2
    simp only [Bool.not_true,Bool.not_false,cond_false,Bool.or_true,cond_true,w1,w2,inRange_nat,h,decide_true,Int.toNat_natCast,ts_tail]
    exact fin h
   | false=>
    simp only [Bool.not_false,cond_true,Bool.or_false,cond_false]
    exact .er i 2 hi (by decide) rfl rfl
 rw [beqI k1,cond_false,cond_false]
 have id_par:=fun (h:k=6∨k=8)=>litText_par po k (fun s=>s) (fun s hs=>Or.inl ⟨Or.inr h,hs⟩) (fun y=>some y.1) (fun s z h=>rfl) t ht i hi q
 by_cases k6:k=6
 ·subst k6
  rw [show ((6:Int)==6)=true from rfl,cond_true,Bool.true_or,cond_true]
  exact id_par (Or.inl rfl)
 by_cases k8:k=8
 ·subst k8
  rw [show ((8:Int)==6)=false from rfl,show ((8:Int)==8)=true from rfl,cond_false,cond_true,Bool.or_true,cond_true]
  exact id_par (Or.inr rfl)
 rw [beqI k6,beqI k8,cond_false,cond_false,Bool.or_false,cond_false]
 by_cases k7:k=7
 ·subst k7
  rw [show ((7:Int)==7)=true from rfl,cond_true,cond_true]
  exact litText_par po 7 quote (fun s h=>Or.inr (Or.inl ⟨rfl,s,h,rfl⟩)) (fun y=>F134 0 y.1) (fun s z h=>quote_eq s (by omega)) t ht i hi q
 rw [beqI k7,cond_false,cond_false]
 simp only [may_k [45] 4 (by decide) t ht.toTOk i hi,Option.bind_some]
 cases hs:isS 4 [45] (ts t i) with
 | true=>
  simp only [cond_true,ts_tail]
  exact litInt_par po k (by omega) t ht true [45] rfl (i+1) (isS_lt hs) q
 | false=>
  simp only [cond_false]
  exact litInt_par po k (by omega) t ht false [] rfl i hi q
end Go.Ab
namespace Go.Ab
open Go
set_option maxRecDepth 100000
theorem Par.seq {α β R R':Type} {t:List PV} {q:QF} {mk:α→Q0→R} {mk':β→Q0→R'} {x:Rs α} {y:Option (R⊕(PV×Q0))} {f:α→List Tk→Rs β} {g:R→Option (R'⊕(PV×Q0))} (h:Par t q mk x y)
 (hc:∀ v j,j≤t.length→x=.ok v (ts t j)→Par t q mk' (f v (ts t j)) (g (mk v (t,((j:Nat):Int),q)))):Par t q mk' (x.bind f) (y.bind fun z=>sumE g (fun e=>some (.inr e)) z):=by
 rcases h with ⟨v,j,hj,hx,hy⟩ | ⟨j,e,hj,he,hx,hy⟩
 ·have:=hc v j hj hx
  rw [hx,hy]
  exact this
 ·rw [hx,hy]
  exact .er j e hj he rfl rfl
theorem Par.map {α β R R':Type} {t:List PV} {q:QF} {mk:α→Q0→R} {mk':β→Q0→R'} {x:Rs α} {y:Option (R⊕(PV×Q0))} {f:α→β} {g:R→R'} (h:Par t q mk x y)
 (hc:∀ v s,g (mk v s)=mk' (f v) s):Par t q mk' (x.bind fun v r=>.ok (f v) r) (y.bind fun z=>sumE (fun a=>some (.inl (g a))) (fun e=>some (.inr e)) z):=
 h.seq fun v j hj hx=>.ok (f v) j hj rfl (by rw [hc])
def fld0 (card key:Int) (ty:PV) (un:List UInt8):PV:=PV.agg [PV.int 0,PV.str [],PV.int card,PV.int key,ty,PV.str un,PV.bool false,zeroF,PV.slice []]
theorem tail_end (po:ParOk) (card key:Int) (ty:PV) (un nm:List UInt8) (n:Int) (hd:Bool) (df:PV) (t:List PV) (ht:TNum t) (j:Nat) (hj:j≤t.length) (q:QF):
 Par t q (fun v s=>(v,s)) ((notesS parV kindOf (ts t j)).bind fun l r5=>(eatS 4 [59] r5).bind fun _ r6=>.ok (fieldOf n nm card key ty un hd df l) r6)
  ((F205 0 () (t,(j:Int),q)).bind fun z=>sumE (fun y12=>(F94 0 () [59] y12.2).bind fun z=>sumE (fun y14=>
    some (.inl (fieldOf n nm card key ty un hd df y12.1,y14))) (fun y15=>some (.inr y15)) z) (fun y13=>some (.inr y13)) z):=
 (notes_par po t ht j hj q).seq fun l k hk _=>(eat_k [59] 4 (by decide) t ht.toTOk k hk q).seq fun _ m hm _=>.ok _ m hm rfl rfl
theorem tail_par (po:ParOk) (card key:Int) (ty:PV) (un:List UInt8) (wd:Bool) (hty:0≤(ty.fld 0).asInt∧(ty.fld 0).asInt≤8) (t:List PV) (ht:TNum t) (i:Nat) (hi:i≤t.length) (q:QF):
 Par t q (fun v s=>(v,s)) (tailS parV kindOf card key ty un wd (ts t i)) (F119 0 () (fld0 card key ty un) wd (t,(i:Int),q)):=by
 unfold F119 tailS
 refine (part_par t ht.toTOk i hi q).seq fun nm j hj _=>(eat_k [61] 4 (by decide) t ht.toTOk j hj q).seq fun _ k hk _=>(num_par t ht.toTOk k hk 65535 (by decide) ht.num q).seq fun n m hm _=>?_
 cases wd with
 | true=>
  simp only [cond_true,may_k [100,101,102,97,117,108,116] 1 (by decide) t ht.toTOk m hm,Option.bind_some,dfltS,Bool.true_and]
  cases hd:isS 1 [100,101,102,97,117,108,116] (ts t m) with
  | true=>
   simp only [cond_true,ts_tail]
   have hlt:=isS_lt hd
   rcases lit_par po ((ty.fld 0).asInt) hty t ht (m+1) hlt q with ⟨v,p,hp,hx,hy⟩ | ⟨p,e,hp,he,hx,hy⟩
   ·rw [hx,show F63 0 () (((fld0 card key ty un).fld 4).fld 0).asInt (t,((m+1:Nat):Int),q)=F63 0 () (ty.fld 0).asInt (t,((m+1:Nat):Int),q) from rfl,hy]
    exact tail_end po card key ty un nm n true v t ht p hp q
   ·rw [hx,show F63 0 () (((fld0 card key ty un).fld 4).fld 0).asInt (t,((m+1:Nat):Int),q)=F63 0 () (ty.fld 0).asInt (t,((m+1:Nat):Int),q) from rfl,hy]
    exact .er p e hp he rfl rfl
  | false=>
   simp only [cond_false,Rs.bind_ok]
   exact tail_end po card key ty un nm n false zeroF t ht m hm q
 | false=>
  simp only [cond_false,dfltS,Bool.false_and,Rs.bind_ok]
  exact tail_end po card key ty un nm n false zeroF t ht m hm q
theorem card_eq (w:List UInt8):F120 0 w=some (cardK w):=by
 unfold F120 cardK
 cases (w==[114,101,113,117,105,114,101,100])<;>cases (w==[111,112,116,105,111,110,97,108])<;>cases (w==[112,108,97,105,110])<;>cases (w==[108,105,115,116])<;>rfl
theorem field_par (po:ParOk) (t:List PV) (ht:TNum t) (i:Nat) (hi:i≤t.length) (q:QF):Par t q (fun v s=>(v,s)) (fieldS parV kindOf (ts t i)) (F55 0 () (t,(i:Int),q)):=by
 have hl:=ht.len
 have o:=ht.toTOk
 unfold F55 fieldS
 simp only [may_k [109,97,112] 1 (by decide) t o i hi,Option.bind_some]
 cases h0:isS 1 [109,97,112] (ts t i) with
 | true=>
  simp only [cond_true,ts_tail]
  refine (eat_k [60] 4 (by decide) t o (i+1) (isS_lt h0) q).seq fun _ j hj _=>?_
  simp only [kindP_eq,Option.bind_some]
  by_cases hb:kindS (ts t j)=1
  ·have e1:(kindS (ts t j) != 1)=false:=by rw [hb];rfl
   have e2:(kindS (ts t j)==1)=true:=by rw [hb];rfl
   have h:j<t.length:=kindS_lt rfl e2
   simp only [e1,e2,imp,inRange_nat,h,decide_true,Bool.not_false,cond_true,cond_false,Int.toNat_natCast,(wordK_eq _).1,Option.bind_some,textS_at h,Bool.true_and,wadd' (show j≤9223372036854775000 by omega),ts_tail]
   cases hk:(wordK ((t.getD j .bad).fld 1).asStr==0) with
   | true=>exact .er j 2 hj (by decide) rfl rfl
   | false=>
    simp only [Bool.not_false,cond_true,cond_false]
    exact (eat_k [44] 4 (by decide) t o (j+1) h q).seq fun _ k hk _=>(typ_par t o k hk q).seq fun ty m hm hty=>(eat_k [62] 4 (by decide) t o m hm q).seq fun _ p hp _=>by
     rcases tail_par po 5 (wordK ((t.getD j .bad).fld 1).asStr) ty [] false (typS_rng hty) t ht p hp q with ⟨v,a,ha,hx,hy⟩ | ⟨a,e,ha,he,hx,hy⟩
     ·exact .ok v a ha hx (by
       have hy:F119 0 () (PV.agg [(PV.int (0:Int)),(PV.str ([]:List UInt8)),(PV.int (5:Int)),(PV.int (wordK ((t.getD j .bad).fld 1).asStr)),ty,(PV.str ([]:List UInt8)),(PV.bool false),(PV.agg [(PV.int (0:Int)),(PV.int (0:Int)),(PV.str ([]:List UInt8)),(PV.slice []),(PV.slice []),(PV.slice []),(PV.slice [])]),(PV.slice [])]) false (t,((p:Nat):Int),q)=_:=hy
       simp only [hy,Option.bind_some,sumE_inl])
     ·exact .er a e ha he hx (by
       have hy:F119 0 () (PV.agg [(PV.int (0:Int)),(PV.str ([]:List UInt8)),(PV.int (5:Int)),(PV.int (wordK ((t.getD j .bad).fld 1).asStr)),ty,(PV.str ([]:List UInt8)),(PV.bool false),(PV.agg [(PV.int (0:Int)),(PV.int (0:Int)),(PV.str ([]:List UInt8)),(PV.slice []),(PV.slice []),(PV.slice []),(PV.slice [])]),(PV.slice [])]) false (t,((p:Nat):Int),q)=_:=hy
       simp only [hy,Option.bind_some,sumE_inr])
  ·have e1:(kindS (ts t j) != 1)=true:=bneI hb
   have e2:(kindS (ts t j)==1)=false:=beqI hb
   simp only [e1,e2,imp,Bool.not_true,Bool.not_false,cond_true,cond_false,cond_same,Option.bind_some,Bool.false_and]
   exact .er j 2 hj (by decide) rfl rfl
 | false=>
  simp only [cond_false,kindP_eq,Option.bind_some]
  by_cases hb:kindS (ts t i)=1
  ·have e1:(kindS (ts t i) != 1)=false:=by rw [hb];rfl
   have e2:(kindS (ts t i)==1)=true:=by rw [hb];rfl
   have h:i<t.length:=kindS_lt rfl e2
   simp only [e1,e2,imp,inRange_nat,h,decide_true,Bool.not_false,cond_true,cond_false,Int.toNat_natCast,card_eq,Option.bind_some,textS_at h,Bool.true_and,wadd' (show i≤9223372036854775000 by omega),ts_tail]
   cases hk:(cardK ((t.getD i .bad).fld 1).asStr==0) with
   | true=>exact .er i 2 hi (by decide) rfl rfl
   | false=>
    simp only [Bool.not_false,cond_true,cond_false]
    exact (typ_par t o (i+1) h q).seq fun ty p hp hty=>by
     rcases tail_par po (cardK ((t.getD i .bad).fld 1).asStr) 0 ty [] true (typS_rng hty) t ht p hp q with ⟨v,a,ha,hx,hy⟩ | ⟨a,e,ha,he,hx,hy⟩
     ·exact .ok v a ha hx (by
       have hy:F119 0 () (PV.agg [(PV.int (0:Int)),(PV.str ([]:List UInt8)),(PV.int (cardK ((t.getD i .bad).fld 1).asStr)),(PV.int (0:Int)),ty,(PV.str ([]:List UInt8)),(PV.bool false),(PV.agg [(PV.int (0:Int)),(PV.int (0:Int)),(PV.str ([]:List UInt8)),(PV.slice []),(PV.slice []),(PV.slice []),(PV.slice [])]),(PV.slice [])]) true (t,((p:Nat):Int),q)=_:=hy
       simp only [hy,Option.bind_some,sumE_inl])
     ·exact .er a e ha he hx (by
       have hy:F119 0 () (PV.agg [(PV.int (0:Int)),(PV.str ([]:List UInt8)),(PV.int (cardK ((t.getD i .bad).fld 1).asStr)),(PV.int (0:Int)),ty,(PV.str ([]:List UInt8)),(PV.bool false),(PV.agg [(PV.int (0:Int)),(PV.int (0:Int)),(PV.str ([]:List UInt8)),(PV.slice []),(PV.slice []),(PV.slice []),(PV.slice [])]),(PV.slice [])]) true (t,((p:Nat):Int),q)=_:=hy
       simp only [hy,Option.bind_some,sumE_inr])
  ·have e1:(kindS (ts t i) != 1)=true:=bneI hb
   have e2:(kindS (ts t i)==1)=false:=beqI hb
   simp only [e1,e2,imp,Bool.not_true,Bool.not_false,cond_true,cond_false,cond_same,Option.bind_some,Bool.false_and]
   exact .er i 2 hi (by decide) rfl rfl
def outS {α:Type} (t:List PV) (dflt:α) (x:Rs α):α×Int×Int:=
 match x with
 | .ok v r=>(v,((t.length-r.length:Nat):Int),0)
 | .er r e=>(dflt,((t.length-r.length:Nat):Int),e)
theorem outS_ok {α:Type} {t:List PV} {d v:α} {j:Nat} (hj:j≤t.length):outS t d (.ok v (ts t j))=(v,(j:Int),0):=by
 show (v,((t.length-(ts t j).length:Nat):Int),(0:Int))=_
 rw [ts_length,show t.length-(t.length-j)=j by omega]
theorem outS_er {α:Type} {t:List PV} {d:α} {j:Nat} {e:Int} (hj:j≤t.length):outS t d (.er (ts t j) e:Rs α)=(d,(j:Int),e):=by
 show (d,((t.length-(ts t j).length:Nat):Int),e)=_
 rw [ts_length,show t.length-(t.length-j)=j by omega]
def badPlace (t:List PV) (a:Int):Bool:=bif decide (a<0) then true else decide (a>(t.length:Int))
theorem place_nat {t:List PV} {a:Int} (h:badPlace t a=false):∃ i:Nat,a=(i:Int)∧i≤t.length:=by
 unfold badPlace at h
 by_cases h0:a<0
 ·simp [h0] at h
 ·simp only [h0,decide_false,cond_false,decide_eq_false_iff_not] at h
  exact ⟨a.toNat,by omega,by omega⟩
def zeroFld:PV:=PV.agg [PV.int 0,PV.str [],PV.int 0,PV.int 0,PV.agg [PV.int 0,PV.str []],PV.str [],PV.bool false,zeroF,PV.slice []]
theorem fieldF_eq (po:ParOk) (t:List PV) (ht:TNum t) (a:Int):F25 0 t a=some (bif badPlace t a then (zeroFld,0,1) else outS t zeroFld (fieldS parV kindOf (ts t a.toNat))):=by
 unfold F25 F50_v2
 rw [show (bif decide (a<0) then true else decide (a>(t.length:Int)))=badPlace t a from rfl]
 cases hb:badPlace t a with
 | true=>rfl
 | false=>
  obtain ⟨i,rfl,hi⟩:=place_nat hb
  rw [Int.toNat_natCast]
  unfold F43_v3 F114_v2 F54
  rcases field_par po t ht i hi ([],[],(),(),(),[],[],[],[]) with ⟨v,j,hj,hx,hy⟩ | ⟨j,e,hj,he,hx,hy⟩
  ·simp only [hy,Option.bind_some,sumE_inl,cond_false,hx,outS_ok hj]
   rfl
  ·simp only [hy,Option.bind_some,sumE_inr,cond_false,hx,outS_er hj]
   have:((((PV.agg [PV.int ((j:Nat):Int),PV.int e]).fld 1).asInt) != (0:Int))=true:=bneI he
   rw [this];rfl
end Go.Ab
namespace Go.Ab
open Go
set_option maxRecDepth 100000
inductive RPar {α R:Type} (t:List PV) (q:QF) (mk:α→Q4→R) (x:Rs α) (y:Option R):Prop
 | ok (v:α) (j:Nat):j≤t.length→x=.ok v (ts t j)→y=some (mk v (t,((j:Nat):Int),0,q))→RPar t q mk x y
 | er (j:Nat) (e:Int) (v:α):j≤t.length→e≠0→x=.er (ts t j) e→y=some (mk v (t,((j:Nat):Int),e,q))→RPar t q mk x y
structure RF {α R:Type} (t:List PV) (q:QF) (mk:α→Q4→R) (c:Prop) (f:List Tk→Rs α) (F:Q4→Option R):Prop where
 rp:c→∀ i:Nat,i≤t.length→RPar t q mk (f (ts t i)) (F (t,(i:Int),0,q))
 st:∀ (j:Nat) (e:Int),j≤t.length→e≠0→∃ v,F (t,(j:Int),e,q)=some (mk v (t,(j:Int),e,q))
section
variable {t:List PV} {q:QF} {c:Prop}
theorem RF.bind {α β R R':Type} {mk:α→Q4→R} {mk':β→Q4→R'} {f:List Tk→Rs α} {F:Q4→Option R} {f2:α→List Tk→Rs β} {g:R→Option R'} (h:RF t q mk c f F)
 (hc:∀ v,RF t q mk' (c∧∃ i j,i≤t.length∧j≤t.length∧f (ts t i)=.ok v (ts t j)) (f2 v) (fun s=>g (mk v s))):RF t q mk' c (fun r=>(f r).bind f2) (fun s=>(F s).bind g):=by
 refine ⟨fun hq i hi=>?_,fun j e hj he=>?_⟩
 ·rcases h.rp hq i hi with ⟨v,j,hj,hx,hy⟩ | ⟨j,e,v,hj,he,hx,hy⟩
  ·simp only [hx,hy,Rs.bind_ok,Option.bind_some]
   exact (hc v).rp ⟨hq,i,j,hi,hj,hx⟩ j hj
  ·simp only [hx,hy,Rs.bind_er,Option.bind_some]
   obtain ⟨w,hw⟩:=(hc v).st j e hj he
   exact .er j e w hj he rfl hw
 ·obtain ⟨v,hv⟩:=h.st j e hj he
  obtain ⟨w,hw⟩:=(hc v).st j e hj he
  exact ⟨w,by simp only [hv,Option.bind_some];exact hw⟩
theorem RF.imp {α R:Type} {mk:α→Q4→R} {c':Prop} {f:List Tk→Rs α} {F:Q4→Option R} (h:RF t q mk c f F) (hc:c'→c):RF t q mk c' f F:=⟨fun x=>h.rp (hc x),h.st⟩
theorem RF.ret {α β R:Type} {mk:α→Q4→R} (v:α):RF t q mk c (fun r=>.ok v r) (fun s=>some (mk v s)):=⟨fun _ i hi=>.ok v i hi rfl rfl,fun j e _ _=>⟨v,rfl⟩⟩
theorem RF.ret' {α R:Type} {mk:α→Q4→R} {g:Q4→Option R} (v:α) (hg:∀ s,g s=some (mk v s)):RF t q mk c (fun r=>.ok v r) g:=⟨fun _ i hi=>.ok v i hi rfl (hg _),fun j e _ _=>⟨v,hg _⟩⟩
theorem RF.congr {α R:Type} {mk:α→Q4→R} {f f':List Tk→Rs α} {F F':Q4→Option R} (h:RF t q mk c f F) (hf:∀ r,f' r=f r) (hF:∀ s,F' s=F s):RF t q mk c f' F':=
 ⟨fun hc i hi=>by rw [hf,hF];exact h.rp hc i hi,fun j e hj he=>by rw [hF];exact h.st j e hj he⟩
theorem hereR (k:Int) (hk:(k==0)=false) (i:Nat):F105 0 () k (t,(i:Int),0,q)=some (kindS (ts t i)==k,(t,(i:Int),0,q)):=by
 unfold F105
 by_cases h:i<t.length
 ·have e1:decide ((i:Int)<(t.length:Int))=true:=decide_eq_true (by omega)
  simp only [show ((0:Int)==0)=true from rfl,e1,cond_true,imp,inRange_nat,h,decide_true,Int.toNat_natCast,kind_at h]
 ·have e1:decide ((i:Int)<(t.length:Int))=false:=decide_eq_false (by omega)
  have e2:(kindS (ts t i)==k)=false:=by
   rw [ts_end (by omega)]
   have:k≠0:=by simpa using hk
   simp only [kindS,beq_eq_false_iff_ne]
   exact fun x=>this x.symm
  simp only [show ((0:Int)==0)=true from rfl,e1,e2,cond_true,cond_false,imp,Bool.not_false,cond_same]
theorem hereE (k:Int) (a e:Int) (he:e≠0):F105 0 () k (t,a,e,q)=some (false,(t,a,e,q)):=by
 unfold F105
 simp only [beqI he,cond_false,imp,Bool.not_false,cond_true,cond_same]
theorem failR (e' a:Int):F106 0 () e' (t,a,0,q)=some (t,a,e',q):=rfl
theorem failE (e' a e:Int) (he:e≠0):F106 0 () e' (t,a,e,q)=some (t,a,e,q):=by
 unfold F106
 simp only [beqI he,cond_false]
theorem isR (k:Int) (hk:(k==0)=false) (s:List UInt8) (i:Nat):F107 0 () k s (t,(i:Int),0,q)=some (isS k s (ts t i),(t,(i:Int),0,q)):=by
 unfold F107
 rw [hereR k hk,Option.bind_some]
 cases h:(kindS (ts t i)==k) with
 | true=>
  have hlt:=kindS_lt hk h
  rw [kind_at hlt] at h
  simp only [imp,cond_true,inRange_nat,hlt,decide_true,Int.toNat_natCast,isS_at hlt,h,Bool.true_and]
 | false=>
  have:isS k s (ts t i)=false:=by
   cases hx:ts t i with
   | nil=>rfl
   | cons x r=>rw [hx] at h;simp only [kindS] at h;simp only [isS,h,Bool.false_and]
  simp only [imp,cond_false,Bool.not_false,cond_true,cond_same,this]
theorem isE (k:Int) (s:List UInt8) (a e:Int) (he:e≠0):F107 0 () k s (t,a,e,q)=some (false,(t,a,e,q)):=by
 unfold F107
 rw [hereE k a e he]
 simp only [Option.bind_some,imp,cond_false,Bool.not_false,cond_true,cond_same]
theorem mayR (ht:TOk t) (k:Int) (hk:(k==0)=false) (s:List UInt8) (i:Nat):F102 0 () k s (t,(i:Int),0,q)=some (bif isS k s (ts t i) then (true,(t,((i+1:Nat):Int),0,q)) else (false,(t,(i:Int),0,q))):=by
 have hl:=ht.len
 unfold F102
 rw [isR k hk,Option.bind_some]
 cases h:isS k s (ts t i) with
 | true=>
  have hlt:=isS_lt h
  simp only [Bool.not_true,cond_false,cond_true,wadd' (show i≤9223372036854775000 by omega)]
 | false=>rfl
theorem mayE (k:Int) (s:List UInt8) (a e:Int) (he:e≠0):F102 0 () k s (t,a,e,q)=some (false,(t,a,e,q)):=by
 unfold F102
 rw [isE k s a e he];rfl
theorem RF.may {β R':Type} {mk':β→Q4→R'} (ht:TOk t) (k:Int) (hk:(k==0)=false) (s:List UInt8) {f1 f2:List Tk→Rs β} {g:Bool×Q4→Option R'} (h1:RF t q mk' c f1 (fun z=>g (true,z))) (h2:RF t q mk' c f2 (fun z=>g (false,z))):
 RF t q mk' c (fun r=>bif isS k s r then f1 r.tail else f2 r) (fun z=>(F102 0 () k s z).bind g):=by
 refine ⟨fun hc i hi=>?_,fun j e hj he=>?_⟩
 ·simp only [mayR ht k hk,Option.bind_some,ts_tail]
  cases h:isS k s (ts t i) with
  | true=>exact h1.rp hc (i+1) (isS_lt h)
  | false=>exact h2.rp hc i hi
 ·simp only [mayE k s _ e he,Option.bind_some]
  exact h2.st j e hj he
theorem RF.fail {β R:Type} {mk:β→Q4→R} {g:Q4→Option R} (e:Int) (he:e≠0) (hg:∃ v,∀ s,g s=some (mk v s)):RF t q mk c (fun r=>.er r e) (fun s=>(F106 0 () e s).bind g):=by
 obtain ⟨v,hv⟩:=hg
 refine ⟨fun _ i hi=>.er i e v hi he rfl (by simp only [failR,Option.bind_some,hv]),fun j e2 hj he2=>⟨v,by simp only [failE e _ e2 he2,Option.bind_some,hv]⟩⟩
theorem signRF (ht:TOk t) (k:Int) (hk:(k==0)=false) (s:List UInt8) {g:Q4→Option Q4} (hg:∀ z,g z=(F102 0 () k s z).bind fun y1=>bif !y1.1 then (F106 0 () 2 y1.2).bind fun y3=>some y3 else some y1.2):RF t q (fun _ z=>z) c (eatS k s) g:=by
 refine RF.congr (RF.may (f1:=fun r=>.ok () r) (f2:=fun r=>.er r 2) (g:=fun y1=>bif !y1.1 then (F106 0 () 2 y1.2).bind fun y3=>some y3 else some y1.2) ht k hk s (RF.ret' () fun s=>rfl) ?_) (fun r=>rfl) hg
 exact RF.fail 2 (by decide) ⟨(),fun s=>rfl⟩
theorem signR (ht:TOk t) (s:List UInt8):RF t q (fun _ z=>z) c (eatS 4 s) (F104 0 () s):=signRF ht 4 rfl s fun z=>rfl
theorem takeRF (ht:TOk t) (k:Int) (hk:(k==0)=false) {p:List UInt8→Bool} {T:List UInt8→Option Bool} (hT:∀ s,s.length≤1048576→T s=some (!p s)) {g:Q4→Option (List UInt8×Q4)}
 (hg:∀ z:Q4,g z=(F105 0 () k z).bind fun y1=>bif !y1.1 then (F106 0 () 2 y1.2).bind fun y3=>some ([],y3) else
  bif inRange y1.2.2.1 y1.2.1.length then (T ((y1.2.1.getD y1.2.2.1.toNat .bad).fld 1).asStr).bind fun y9=>bif y9 then (F106 0 () 8 y1.2).bind fun y11=>some ([],y11) else
   some (((y1.2.1.getD y1.2.2.1.toNat .bad).fld 1).asStr,y1.2.1,IntKind.wrap .i64 (y1.2.2.1+1),y1.2.2.2) else none):RF t q (fun v z=>(v,z)) c (takeS k p) g:=by
 have hl:=ht.len
 refine ⟨fun _ i hi=>?_,fun j e hj he=>?_⟩
 ·rw [hg,hereR k hk,Option.bind_some]
  unfold takeS
  cases hb:(kindS (ts t i)==k) with
  | false=>exact .er i 2 [] hi (by decide) rfl rfl
  | true=>
   have h:=kindS_lt hk hb
   simp only [Bool.not_true,cond_false,cond_true,inRange_nat,h,decide_true,Int.toNat_natCast,hT _ (txt_at ht h),Option.bind_some,textS_at h,wadd' (show i≤9223372036854775000 by omega)]
   cases hp:p ((t.getD i .bad).fld 1).asStr with
   | true=>exact .ok _ (i+1) h (by rw [cond_true,ts_tail]) rfl
   | false=>exact .er i 8 [] hi (by decide) rfl rfl
 ·refine ⟨[],?_⟩
  rw [hg,hereE k _ e he]
  simp only [Option.bind_some,Bool.not_false,cond_true,failE 2 _ e he]
theorem usable_eq (s:List UInt8) (hs:s.length≤1048576):F218 0 s=some (simpP s):=by
 unfold F218 simpP
 rw [refPart_eq s (by omega)]
 cases partP s with
 | true=>simp only [Option.bind_some,cond_true,refWord_eq,Bool.true_and]
 | false=>simp only [Option.bind_some,cond_false,Bool.false_and]
theorem partR (ht:TOk t):RF t q (fun v z=>(v,z)) c partS (F136 0 ()):=
 takeRF ht 1 rfl (p:=simpP) (T:=fun s=>(F218 0 s).bind fun y=>some (!y)) (fun s hs=>by rw [usable_eq s hs];rfl) fun z=>by
  unfold F136
  simp only [Option.bind_assoc,Option.bind_some]
noncomputable def writE (s:List UInt8):Option Bool:=(F219 0 s).bind (fun y9=>
 let x10:=!y9
 let x12:=(s.length:Int)==(0:Int)
 bif imp (bif !x12 then x10 else false) (inRange (0:Int) s.length) then
 let x15:=bif x12 then true else (((s.getD (0:Int).toNat 0).toNat:Int) != (46:Int))
 bif imp (bif !x15 then x10 else false) (decide (0≤(1:Int)∧(1:Int)≤(s.length:Int)∧(s.length:Int)≤(s.length:Int))) then
 (bif bif !x15 then x10 else false then F219 0 ((s.take (s.length:Int).toNat).drop (1:Int).toNat) else some false).bind fun y17=>some (bif x10 then (bif x15 then true else (!y17)) else false)
 else none else none)
theorem writ_eq (s:List UInt8) (hs:s.length≤1048576):writE s=some (!typeP s):=by
 unfold writE
 rw [refFull_eq s hs,Option.bind_some]
 cases s with
 | nil=>decide
 | cons b r=>
  have e0:(((b::r).length:Int)==(0:Int))=false:=by rw [beq_eq_false_iff_ne];simp only [List.length_cons];omega
  have e1:inRange (0:Int) (b::r).length=true:=in0 b r
  have e2:decide (0≤(1:Int)∧(1:Int)≤((b::r).length:Int)∧((b::r).length:Int)≤((b::r).length:Int))=true:=decide_eq_true (by simp only [List.length_cons];omega)
  have e3:(((b::r).take ((b::r).length:Int).toNat).drop (1:Int).toNat)=r:=by rw [Int.toNat_natCast,List.take_length];rfl
  have e4:(((((b::r).getD (0:Int).toNat 0).toNat:Nat):Int) != (46:Int))=!(b==46):=by
   show ((b.toNat:Int) != (46:Int))=!(b==46)
   unfold bne
   rw [bqI (c:=b) (k:=46) (n:=46) rfl]
  have hf:(b==46)=true→fullP (b::r)=false:=fun hb=>by
   cases h:fullP (b::r) with
   | false=>rfl
   | true=>
    obtain ⟨c,z,e,hc⟩:=full_first h
    simp only [List.cons.injEq] at e
    have hb:b=46:=by simpa using hb
    rw [←e.1,hb] at hc
    exact absurd hc (by decide)
  have hr:F219 0 r=some (fullP r):=refFull_eq r (by simp only [List.length_cons] at hs;omega)
  show _=some (!(bif b==46 then fullP r else fullP (b::r)))
  simp only [e0,e1,e2,e3,e4,imp,Bool.not_false,cond_true,cond_false,cond_same,hr,Bool.not_not]
  cases hb:(b==46) with
  | true=>rw [hf hb];simp
  | false=>cases fullP (b::r)<;>simp
theorem cbn {α β:Type} (b:Bool) (x:Option α) (K:α→Option β):(bif b then x else none).bind K=bif b then x.bind K else none:=by cases b<;>rfl
theorem writtenR (ht:TOk t):RF t q (fun v z=>(v,z)) c typeTextS (F116 0 ()):=
 takeRF ht 1 rfl (p:=typeP) (T:=writE) (fun s hs=>writ_eq s hs) fun z=>by
  unfold F116 writE
  simp only [Option.bind_assoc,cbn,Option.bind_some]
theorem typR (ht:TOk t):RF t q (fun v z=>(v,z)) c typS (F53 0 ()):=by
 refine RF.congr (F:=fun s=>(F116 0 () s).bind fun y1=>some (tyOf y1.1,y1.2)) (RF.bind (f2:=fun s r=>.ok (tyOf s) r) (writtenR ht) fun v=>RF.ret' (tyOf v) fun s=>rfl) (fun r=>rfl) fun z=>?_
 unfold F53
 congr 1
 funext y1
 simp only [(wordK_eq _).2,Option.bind_some]
 unfold tyOf
 cases h:(wordK y1.1==0) with
 | true=>have:(wordK y1.1 != 0)=false:=by simp [bne,h]
         simp only [this,cond_true,cond_false]
 | false=>have:(wordK y1.1 != 0)=true:=by simp [bne,h]
          simp only [this,cond_true,cond_false]
end
theorem smallT_eq (t:List PV) (hl:t.length≤1048576):∃ b,F22 0 t=some b∧(b=true→t.length≤80∧∀ x,x∈t→(x.fld 1).asStr.length≤300):=by
 unfold F22
 by_cases h:t.length>80
 ·have e:decide ((t.length:Int)>80)=true:=decide_eq_true (by omega)
  exact ⟨false,by rw [e];rfl,fun h=>by cases h⟩
 ·have e:decide ((t.length:Int)>80)=false:=decide_eq_false (by omega)
  have hlp:=loopW_all (step:=S22_5step 0) (fun i=>(t,(i:Int))) t.length (fun i=>decide (((t.getD i .bad).fld 1).asStr.length≤300)) (.inl false) (.inr ())
   (fun i hi=>by
    simp only [S22_5step,S22_5,declt,hi,decide_true,cond_true,inRange_nat,Int.toNat_natCast,wadd' (show i≤9223372036854775000 by omega)]
    by_cases h3:((t.getD i .bad).fld 1).asStr.length≤300
    ·rw [decide_eq_true h3,decide_eq_false (by omega)];rfl
    ·rw [decide_eq_false h3,decide_eq_true (by omega)];rfl)
   (by simp only [S22_5step,S22_5,declt,Nat.lt_irrefl,decide_false,cond_false]) t.length 0 (by omega)
  rw [allF_of (fun x:PV=>decide ((x.fld 1).asStr.length≤300)) .bad t] at hlp
  rw [e,cond_false,loopQ0,show (0:Int)=((0:Nat):Int) from rfl,hlp]
  cases ha:t.all (fun x=>decide ((x.fld 1).asStr.length≤300)) with
  | true=>exact ⟨true,rfl,fun _=>⟨by omega,fun x hx=>by simpa using List.all_eq_true.1 ha x hx⟩⟩
  | false=>exact ⟨false,rfl,fun h=>by cases h⟩
end Go.Ab
namespace Go.Ab
open Go
set_option maxRecDepth 100000
def RefOk:Prop:=∀ (k:Int) (s:List UInt8),Reach k s→F242 0 k s=some (parV k s)
theorem dec09_loop:∀ (k u i:Nat) (acc:List UInt8),u<10^(k+1)→u<18446744073709551616→acc.length+k≤1000→i+k≤19→loopW (S138_4step 0) ((u:Int),acc,(i:Int))=some (preD u++acc):=by
 intro k
 induction k with
 | zero=>
  intro u i acc hu _ _ hi
  have hd:decide ((u:Int)≥(10:Int))=false:=decide_eq_false (by omega)
  rw [preD,if_pos (by omega)]
  exact loopW_end (by simp only [S138_4step,S138_4,hd,cond_same,cond_false];rfl)
 | succ k ih=>
  intro u i acc hu h64 hb hi
  by_cases h:u<10
  ·have hd:decide ((u:Int)≥(10:Int))=false:=decide_eq_false (by omega)
   rw [preD,if_pos h]
   exact loopW_end (by simp only [S138_4step,S138_4,hd,cond_same,cond_false];rfl)
  ·have hd:decide ((u:Int)≥(10:Int))=true:=decide_eq_true (by omega)
   have hi2:decide ((i:Int)<(20:Int))=true:=decide_eq_true (by omega)
   have hw:IntKind.wrap .u64 ((u:Int).tdiv (10:Int))=((u / 10:Nat):Int):=by
    rw [show (u:Int).tdiv (10:Int)=((u / 10:Nat):Int) from rfl,IntKind.wrap_u64];omega
   have hm:((u / 10:Nat):Int).tmod (10:Int)=((u / 10%10:Nat):Int):=rfl
   have hp:preD u++acc=preD (u / 10)++(UInt8.ofNat (48+u / 10%10)::acc):=by
    have:=preD_eq (u / 10)
    rw [show preD u=Lib.decDigits (u / 10) by rw [preD,if_neg h],←this,List.append_assoc];rfl
   rw [hp,←ih (u / 10) (i+1) (UInt8.ofNat (48+u / 10%10)::acc) (by rw [Nat.pow_succ] at hu;omega) (by omega) (by simp;omega) (by omega)]
   refine loopW_go ?_
   have hl:decide ([UInt8.ofNat (48+u / 10%10)].length+acc.length≤strMax)=true:=leStr (by simp;omega)
   have hwi:IntKind.wrap .i64 ((i:Int)+1)=((i+1:Nat):Int):=wadd' (by omega)
   simp only [S138_4step,S138_4,hd,hi2,hw,hm,hwi,cond_true,dig _ (Nat.mod_lt _ (by decide:0<10)),hl]
   rfl
theorem dec09_eq (u:Nat) (hu:u<18446744073709551616):F138 0 (u:Int)=some (decB u):=by
 unfold F138
 have hm:((u:Nat):Int).tmod (10:Int)=((u%10:Nat):Int):=rfl
 rw [hm,dig _ (Nat.mod_lt _ (by decide:0<10)),loopQ0,show (0:Int)=((0:Nat):Int) from rfl,dec09_loop 19 u 0 _ (by omega) hu (by simp) (by omega),preD_eq,decB_eq (by omega)]
 rfl
section
variable {t:List PV} {q:QF} {c:Prop}
theorem numR (ht:TNum t) (most:Int):RF t q (fun v z=>(v,z)) c (numS most) (F226 0 () most):=by
 have hl:=ht.len
 refine ⟨fun _ i hi=>?_,fun j e hj he=>⟨0,?_⟩⟩
 ·unfold F226 numS
  rw [hereR 2 rfl,Option.bind_some]
  cases hb:(kindS (ts t i)==2) with
  | false=>exact .er i 2 0 hi (by decide) rfl rfl
  | true=>
   have h:=kindS_lt (show ((2:Int)==0)=false from rfl) hb
   have e3:∀ n:Int,(bif decide (n<0) then true else decide (n>most))=!decide (0≤n∧n≤most):=fun n=>by
    by_cases hc:0≤n∧n≤most
    ·rw [decide_eq_true hc,decide_eq_false (by omega),decide_eq_false (by omega)];rfl
    ·rw [decide_eq_false hc]
     by_cases h0:n<0
     ·rw [decide_eq_true h0];rfl
     ·rw [decide_eq_false h0,decide_eq_true (by omega)];rfl
   simp only [Bool.not_true,cond_false,cond_true,inRange_nat,h,decide_true,Int.toNat_natCast,numS_at h,e3,wadd' (show i≤9223372036854775000 by omega)]
   cases hp:decide (0≤((t.getD i .bad).fld 2).asInt∧((t.getD i .bad).fld 2).asInt≤most) with
   | true=>exact .ok _ (i+1) h (by rw [cond_true,ts_tail]) rfl
   | false=>exact .er i 6 0 hi (by decide) rfl rfl
 ·unfold F226
  rw [hereE 2 _ e he]
  simp only [Option.bind_some,Bool.not_false,cond_true,failE 2 _ e he]
theorem notesR (po:ParOk) (ht:TNum t) (h5:t.length≤100000):RF t q (fun v z=>(v,z)) c (notesS parV kindOf) (F222 0 ()):=by
 refine ⟨fun _ i hi=>?_,fun j e hj he=>⟨[],?_⟩⟩
 ·unfold F222
  obtain ⟨r,h1,h2,_⟩:=read_eq t h5 (i:Int)
  rcases readN_np po t ht i hi with ⟨v,j,hj,hx,hy⟩ | ⟨j,e,hj,he,hx,hy⟩
  ·rw [h1] at hy
   cases hy
   exact .ok v j hj hx (by simp only [show ((0:Int) != 0)=false from rfl,cond_false,h2,Option.bind_some,failR])
  ·rw [h1] at hy
   cases hy
   exact .er j e [] hj he hx (by simp only [show ((0:Int) != 0)=false from rfl,cond_false,h2,Option.bind_some,failR])
 ·unfold F222
  simp only [bneI he,cond_true]
theorem scalR (ro:RefOk) (ht:TNum t) (k:Int) (s:List UInt8) (hs:Reach k s) (i:Nat) (hi:i<t.length):RPar t q (fun v z=>(v,z)) (valS (parV k s) (ts t i) (ts t (i+1))) ((F137 0 () k s (t,(i:Int),0,q)).bind fun y=>some y):=by
 have hl:=ht.len
 unfold F137 valS
 rw [ro k s hs,Option.bind_some]
 by_cases hz:(parV k s).2=0
 ·have z1:((parV k s).2 != 0)=false:=by rw [hz];rfl
  have z2:((parV k s).2==0)=true:=by rw [hz];rfl
  simp only [z1,z2,cond_true,cond_false,wadd' (show i≤9223372036854775000 by omega)]
  exact .ok _ (i+1) hi rfl rfl
 ·simp only [bneI hz,beqI hz,cond_true,cond_false]
  exact .er i _ zeroF (by omega) hz rfl rfl
theorem intR (ro:RefOk) (ht:TNum t) (k:Int) (hk:2≤k∧k≤5) (neg:Bool) (pre:List UInt8) (hp:pre=bif neg then [45] else []) (i:Nat) (hi:i≤t.length):RPar t q (fun v z=>(v,z)) (intS parV k neg (ts t i))
 ((F105 0 () 2 (t,(i:Int),0,q)).bind fun y27=>bif !y27.1 then (F106 0 () 2 y27.2).bind fun y29=>some (zeroF,y29) else
   bif inRange y27.2.2.1 y27.2.1.length then (F138 0 (IntKind.wrap .u64 ((y27.2.1.getD y27.2.2.1.toNat .bad).fld 2).asInt)).bind fun y36=>
   bif decide (pre.length+y36.length≤strMax) then (F137 0 () k (pre++y36) y27.2).bind fun y37=>some y37 else none else none):=by
 rw [hereR 2 rfl,Option.bind_some]
 unfold intS
 cases hb:(kindS (ts t i)==2) with
 | false=>exact .er i 2 zeroF hi (by decide) rfl rfl
 | true=>
  have h:=kindS_lt (show ((2:Int)==0)=false from rfl) hb
  obtain ⟨u,hu,h1,h2⟩:=wrapN (n:=((t.getD i .bad).fld 2).asInt)
  have hlen:=decB_len u
  have hpl:pre.length≤1:=by subst hp;cases neg<;>simp
  have l1:decide (pre.length+(decB u).length≤strMax)=true:=leStr (by omega)
  simp only [Bool.not_true,cond_false,cond_true,inRange_nat,h,decide_true,Int.toNat_natCast,h1,dec09_eq u hu,Option.bind_some,l1,numS_at h,←hp,ts_tail]
  exact scalR ro ht k (pre++decB u) (Or.inr (Or.inr ⟨hk,neg,u,hu,by rw [hp]⟩)) i h
theorem intE (k:Int) (pre:List UInt8) (a e:Int) (he:e≠0):((F105 0 () 2 (t,a,e,q)).bind fun y27=>bif !y27.1 then (F106 0 () 2 y27.2).bind fun y29=>some (zeroF,y29) else
 bif inRange y27.2.2.1 y27.2.1.length then (F138 0 (IntKind.wrap .u64 ((y27.2.1.getD y27.2.2.1.toNat .bad).fld 2).asInt)).bind fun y36=>
 bif decide (pre.length+y36.length≤strMax) then (F137 0 () k (pre++y36) y27.2).bind fun y37=>some y37 else none else none)=some (zeroF,(t,a,e,q)):=by
 rw [hereE 2 a e he]
 simp only [Option.bind_some,Bool.not_false,cond_true,failE 2 _ e he]
theorem signedR (ro:RefOk) (ht:TNum t) (k:Int) (hk:2≤k∧k≤5) {g:Q4→Option (PV×Q4)}
 (hg:∀ s,g s=(F102 0 () 4 [45] s).bind fun y26=>bif y26.1 then
  ((F105 0 () 2 y26.2).bind fun y27=>bif !y27.1 then (F106 0 () 2 y27.2).bind fun y29=>some (zeroF,y29) else
  bif inRange y27.2.2.1 y27.2.1.length then (F138 0 (IntKind.wrap .u64 ((y27.2.1.getD y27.2.2.1.toNat .bad).fld 2).asInt)).bind fun y36=>
  bif decide (([45]:List UInt8).length+y36.length≤strMax) then (F137 0 () k ([45]++y36) y27.2).bind fun y37=>some y37 else none else none)
  else ((F105 0 () 2 y26.2).bind fun y27=>bif !y27.1 then (F106 0 () 2 y27.2).bind fun y29=>some (zeroF,y29) else
  bif inRange y27.2.2.1 y27.2.1.length then (F138 0 (IntKind.wrap .u64 ((y27.2.1.getD y27.2.2.1.toNat .bad).fld 2).asInt)).bind fun y36=>
  bif decide (([]:List UInt8).length+y36.length≤strMax) then (F137 0 () k ([]++y36) y27.2).bind fun y37=>some y37 else none else none)):
 RF t q (fun v z=>(v,z)) c (fun r=>bif isS 4 [45] r then intS parV k true r.tail else intS parV k false r) g:=by
 refine ⟨fun _ i hi=>?_,fun j e hj he=>⟨zeroF,?_⟩⟩
 ·rw [hg,mayR ht.toTOk 4 rfl,Option.bind_some]
  cases hs:isS 4 [45] (ts t i) with
  | true=>
   simp only [cond_true,ts_tail]
   exact intR ro ht k hk true [45] rfl (i+1) (isS_lt hs)
  | false=>
   simp only [cond_false]
   exact intR ro ht k hk false [] rfl i hi
 ·rw [hg,mayE 4 _ _ e he,Option.bind_some]
  simp only [cond_false]
  exact intE k [] _ e he
theorem textR (ro:RefOk) (ht:TNum t) (k:Int) (f:List UInt8→List UInt8) (hf:∀ s:List UInt8,s.length≤16384→Reach k (f s)) {T:List UInt8→Option (List UInt8)} (hT:∀ s:List UInt8,s.length≤16384→T s=some (f s)) {g:Q4→Option (PV×Q4)}
 (hg:∀ s,g s=(F105 0 () 3 s).bind fun y121=>bif !y121.1 then (F106 0 () 2 y121.2).bind fun y123=>some (zeroF,y123) else
  bif inRange y121.2.2.1 y121.2.1.length then (T ((y121.2.1.getD y121.2.2.1.toNat .bad).fld 1).asStr).bind fun y130=>(F137 0 () k y130 y121.2).bind fun y131=>some y131 else none):
 RF t q (fun v z=>(v,z)) c (fun r=>(anyTextS r).bind fun s z=>valS (parV k (f s)) r z) g:=by
 refine ⟨fun _ i hi=>?_,fun j e hj he=>⟨zeroF,?_⟩⟩
 ·rw [hg,hereR 3 rfl,Option.bind_some]
  unfold anyTextS takeS
  cases hb:(kindS (ts t i)==3) with
  | false=>exact .er i 2 zeroF hi (by decide) rfl rfl
  | true=>
   have h:=kindS_lt (show ((3:Int)==0)=false from rfl) hb
   have hs:=ht.sml _ (getD_mem h .bad)
   simp only [Bool.not_true,cond_false,cond_true,inRange_nat,h,decide_true,Int.toNat_natCast,hT _ hs,Option.bind_some,textS_at h,ts_tail,Rs.bind_ok]
   exact scalR ro ht k _ (hf _ hs) i h
 ·rw [hg,hereE 3 _ e he]
  simp only [Option.bind_some,Bool.not_false,cond_true,failE 2 _ e he]
theorem boolR (ro:RefOk) (ht:TNum t) {g:Q4→Option (PV×Q4)} (hg:∀ s,g s=F64 0 () 1 s):
 RF t q (fun v z=>(v,z)) c (fun r=>bif isS 1 [116,114,117,101] r||isS 1 [102,97,108,115,101] r then valS (parV 1 (textS r)) r r.tail else .er r 2) g:=by
 refine ⟨fun _ i hi=>?_,fun j e hj he=>⟨zeroF,?_⟩⟩
 ·rw [hg]
  unfold F64
  simp only [show ((1:Int)==0)=false from rfl,show ((1:Int)==1)=true from rfl,cond_false,cond_true,isR 1 rfl,Option.bind_some]
  cases h1:isS 1 [116,114,117,101] (ts t i) with
  | true=>
   have h:=isS_lt h1
   have hs:=ht.sml _ (getD_mem h .bad)
   simp only [Bool.not_true,cond_false,Bool.true_or,cond_true,inRange_nat,h,decide_true,Int.toNat_natCast,ts_tail,textS_at h]
   exact scalR ro ht 1 ((t.getD i .bad).fld 1).asStr (Or.inl ⟨Or.inl rfl,hs⟩) i h
  | false=>
   cases h2:isS 1 [102,97,108,115,101] (ts t i) with
   | true=>
    have h:=isS_lt h2
    have hs:=ht.sml _ (getD_mem h .bad)
    simp only [Bool.not_true,Bool.not_false,cond_false,Bool.or_true,cond_true,inRange_nat,h,decide_true,Int.toNat_natCast,ts_tail,textS_at h]
    exact scalR ro ht 1 ((t.getD i .bad).fld 1).asStr (Or.inl ⟨Or.inl rfl,hs⟩) i h
   | false=>
    simp only [Bool.not_false,cond_true,Bool.or_false,cond_false]
    exact .er i 2 zeroF hi (by decide) rfl rfl
 ·rw [hg]
  unfold F64
  simp only [show ((1:Int)==0)=false from rfl,show ((1:Int)==1)=true from rfl,cond_false,cond_true,isE 1 _ _ e he,Option.bind_some,Bool.not_false,failE 2 _ e he]
  rfl
theorem litR (ro:RefOk) (ht:TNum t) (k:Int) (hk:c→0≤k∧k≤8):RF t q (fun v z=>(v,z)) c (litS parV k) (F64 0 () k):=by
 have idf:∀ s:List UInt8,s.length≤16384→(fun s:List UInt8=>s) s=s:=fun s _=>rfl
 have h0:RF t q (fun v z=>(v,z)) c (litS parV 0) (F64 0 () 0):=
  RF.bind (f2:=fun s r=>.ok (itemVal s) r) (g:=fun y2=>some (itemVal y2.1,y2.2)) (partR ht.toTOk) fun v=>RF.ret' (itemVal v) fun s=>rfl
 have h1:RF t q (fun v z=>(v,z)) c (litS parV 1) (F64 0 () 1):=boolR ro ht fun s=>rfl
 have h2:RF t q (fun v z=>(v,z)) c (litS parV 2) (F64 0 () 2):=signedR ro ht 2 (by decide) fun s=>rfl
 have h3:RF t q (fun v z=>(v,z)) c (litS parV 3) (F64 0 () 3):=signedR ro ht 3 (by decide) fun s=>rfl
 have h4:RF t q (fun v z=>(v,z)) c (litS parV 4) (F64 0 () 4):=signedR ro ht 4 (by decide) fun s=>rfl
 have h5:RF t q (fun v z=>(v,z)) c (litS parV 5) (F64 0 () 5):=signedR ro ht 5 (by decide) fun s=>rfl
 have h6:RF t q (fun v z=>(v,z)) c (litS parV 6) (F64 0 () 6):=textR ro ht 6 (fun s=>s) (fun s h=>Or.inl ⟨Or.inr (Or.inl rfl),h⟩) (T:=fun s=>some s) (fun s h=>rfl) fun s=>rfl
 have h7:RF t q (fun v z=>(v,z)) c (litS parV 7) (F64 0 () 7):=textR ro ht 7 quote (fun s h=>Or.inr (Or.inl ⟨rfl,s,h,rfl⟩)) (T:=F139 0) (fun s h=>refQuote_eq s (by omega)) fun s=>rfl
 have h8:RF t q (fun v z=>(v,z)) c (litS parV 8) (F64 0 () 8):=textR ro ht 8 (fun s=>s) (fun s h=>Or.inl ⟨Or.inr (Or.inr rfl),h⟩) (T:=fun s=>some s) (fun s h=>rfl) fun s=>rfl
 refine ⟨fun hc i hi=>?_,fun j e hj he=>?_⟩
 ·obtain ⟨k0,k8⟩:=hk hc
  rcases (show k=0∨k=1∨k=2∨k=3∨k=4∨k=5∨k=6∨k=7∨k=8 by omega) with rfl | rfl | rfl | rfl | rfl | rfl | rfl | rfl | rfl
  ·exact h0.rp hc i hi
  ·exact h1.rp hc i hi
  ·exact h2.rp hc i hi
  ·exact h3.rp hc i hi
  ·exact h4.rp hc i hi
  ·exact h5.rp hc i hi
  ·exact h6.rp hc i hi
  ·exact h7.rp hc i hi
  ·exact h8.rp hc i hi
 ·by_cases k0:k=0
  ·subst k0;exact h0.st j e hj he
  by_cases k1:k=1
  ·subst k1;exact h1.st j e hj he
  by_cases k2:k=2
  ·subst k2;exact h2.st j e hj he
  by_cases k3:k=3
  ·subst k3;exact h3.st j e hj he
  by_cases k4:k=4
  ·subst k4;exact h4.st j e hj he
  by_cases k5:k=5
  ·subst k5;exact h5.st j e hj he
  refine ⟨zeroF,?_⟩
  unfold F64
  simp only [beqI k0,beqI k1,beqI k2,beqI k3,beqI k4,beqI k5,cond_false,hereE 3 _ e he,Option.bind_some,Bool.not_false,cond_true,failE 2 _ e he]
  rfl
end
end Go.Ab
