/- The scanner on texts that are written token by token: texts, the loop. -/
import Derived.Test.YtcpkdafleaddlaaGreatDoorPUtfNr
import Derived.Test.YtcpkdafleaddlaaGreatDoorAbEqL
import Derived.Test.YtcpkdafleaddlaaGreatDoorGenNr
import Derived.Test.YtcpkdafleaddlaaGreatDoorAbPlain
set_option linter.unusedVariables false
set_option linter.unusedSimpArgs false
set_option linter.unnecessarySimpa false
namespace Go.Ab
open Go
set_option maxRecDepth 100000
theorem value_all:((List.range 16).all fun h=>(F305 0 ((hexd h).toNat:Int))==some (h:Int))=true:=by kernel_rfl
theorem value_eq {h:Nat} (hh:h<16):F305 0 ((hexd h).toNat:Int)=some (h:Int):=by
 have:=List.all_eq_true.1 value_all h (List.mem_range.2 hh)
 simpa using this
theorem or_all:((List.range 256).all fun b=>IntKind.wrap .u8 (bitsI .or .i64 (IntKind.wrap .i64 (((b / 16:Nat):Int)*2^(min (4:Int).toNat (IntKind.bits .i64)))) ((b%16:Nat):Int))==(b:Int))=true:=by kernel_rfl
theorem or_eq {b:Nat} (h:b<256):IntKind.wrap .u8 (bitsI .or .i64 (IntKind.wrap .i64 (((b / 16:Nat):Int)*2^(min (4:Int).toNat (IntKind.bits .i64)))) ((b%16:Nat):Int))=(b:Int):=by
 have:=List.all_eq_true.1 or_all b (List.mem_range.2 h)
 simpa using this
theorem esc2 {src:List UInt8} {i:Nat} {e:UInt8} {q:List UInt8} (hl:src.length≤1048576) (h:src.drop i=92::e::q) {v:Int} (hv:F304 0 ((e.toNat:Nat):Int)=some (v,true)):F237 0 src (i:Int)=some (v,2):=by
 obtain ⟨h1,_,h2⟩:=drop_at 0 h
 obtain ⟨h3,h4,_⟩:=drop_at 0 h2
 have w1:IntKind.wrap .i64 ((i:Int)+1)=((i+1:Nat):Int):=wadd' (by omega)
 have d1:decide (((i+1:Nat):Int)≥(src.length:Int))=false:=decide_eq_false (by omega)
 have d2:inRange ((i+1:Nat):Int) src.length=true:=by rw [inRange_nat];exact decide_eq_true h3
 unfold F237
 simp only [w1,d1,d2,cond_true,cond_false,Int.toNat_natCast,h4,hv,Option.bind_some]
theorem escX {src:List UInt8} {i:Nat} {b:UInt8} {q:List UInt8} (hl:src.length≤1048576) (h:src.drop i=92::120::(hex2 b.toNat++q)):F237 0 src (i:Int)=some ((b.toNat:Int),4):=by
 have h:src.drop i=92::120::hexd (b.toNat / 16)::hexd (b.toNat%16)::q:=h
 have hb:=b.toNat_lt
 obtain ⟨h1,_,h2⟩:=drop_at 0 h
 obtain ⟨h3,h4,h5⟩:=drop_at 0 h2
 obtain ⟨h6,h7,h8⟩:=drop_at 0 h5
 obtain ⟨h9,h10,_⟩:=drop_at 0 h8
 have w1:IntKind.wrap .i64 ((i:Int)+1)=((i+1:Nat):Int):=wadd' (by omega)
 have w2:IntKind.wrap .i64 ((i:Int)+2)=((i+1+1:Nat):Int):=by rw [wrap64 (by omega) (by omega)];omega
 have w3:IntKind.wrap .i64 ((i:Int)+3)=((i+1+1+1:Nat):Int):=by rw [wrap64 (by omega) (by omega)];omega
 have d1:decide (((i+1:Nat):Int)≥(src.length:Int))=false:=decide_eq_false (by omega)
 have d3:decide (((i+1+1+1:Nat):Int)≥(src.length:Int))=false:=decide_eq_false (by omega)
 have r1:inRange ((i+1:Nat):Int) src.length=true:=by rw [inRange_nat];exact decide_eq_true h3
 have r2:inRange ((i+1+1:Nat):Int) src.length=true:=by rw [inRange_nat];exact decide_eq_true h6
 have r3:inRange ((i+1+1+1:Nat):Int) src.length=true:=by rw [inRange_nat];exact decide_eq_true h9
 have hp:F304 0 (((120:UInt8).toNat:Nat):Int)=some (0,false):=rfl
 have hx:((((120:UInt8).toNat:Nat):Int) != (120:Int))=false:=rfl
 have v1:=value_eq (h:=b.toNat / 16) (by omega)
 have v2:=value_eq (h:=b.toNat%16) (by omega)
 have n1:decide (((b.toNat / 16:Nat):Int)<0)=false:=decide_eq_false (by omega)
 have n2:decide (((b.toNat%16:Nat):Int)<0)=false:=decide_eq_false (by omega)
 unfold F237
 simp only [w1,w2,w3,d1,d3,r1,r2,r3,cond_true,cond_false,Int.toNat_natCast,h4,h7,h10,hp,hx,v1,v2,n1,n2,imp,Bool.not_false,Bool.true_or,cond_same,Option.bind_some,or_eq hb]
theorem unq_step {src:List UInt8} (hl:src.length≤1048576) {i:Nat} {acc:List PV} (ha:acc.length≤i) {b:UInt8} {c q:List UInt8} (hc:codeOk b c) (h:src.drop i=c++q):S131_6step 0 (src,acc,(i:Int))=some (.inl (src,acc++[PV.int (b.toNat:Int)],((i+c.length:Nat):Int))):=by
 have ne:c≠[]:=by
  rcases hc with ⟨rfl,_⟩ | ⟨_,rfl⟩ | ⟨_,rfl⟩ | ⟨_,rfl⟩ | ⟨_,rfl⟩ | ⟨_,rfl⟩ | rfl<;>simp
 have hi:i<src.length:=by
  have:=congrArg List.length h
  rw [List.length_drop,List.length_append] at this
  have:0<c.length:=List.length_pos_iff.2 ne
  omega
 have e1:decide ((i:Int)<(src.length:Int))=true:=decide_eq_true (by omega)
 have e2:inRange (i:Int) src.length=true:=by rw [inRange_nat];exact decide_eq_true hi
 have ea:∀ x:PV,decide (acc.length+[x].length≤accMax)=true:=fun x=>decide_eq_true (by simp only [List.length_cons,List.length_nil];unfold accMax;omega)
 have esc:∀ (e:UInt8) (r:List UInt8) (v:Int),src.drop i=92::e::r→F237 0 src (i:Int)=some (v,2)→S131_6step 0 (src,acc,(i:Int))=some (.inl (src,acc++[PV.int v],((i+2:Nat):Int))):=fun e r v hd hv=>by
  obtain ⟨_,h4,_⟩:=drop_at 0 hd
  have w:IntKind.wrap .i64 ((i:Int)+2)=((i+2:Nat):Int):=by rw [wrap64 (by omega) (by omega)];omega
  simp only [S131_6step,S131_6,e1,e2,ea,h4,hv,w,imp,cond_true,cond_false,Bool.not_true,Bool.true_or,cond_same,Option.bind_some,Int.toNat_natCast]
  rfl
 rcases hc with ⟨rfl,b1,b2⟩ | ⟨rfl,rfl⟩ | ⟨rfl,rfl⟩ | ⟨rfl,rfl⟩ | ⟨rfl,rfl⟩ | ⟨rfl,rfl⟩ | rfl
 ·obtain ⟨_,h4,_⟩:=drop_at 0 (show src.drop i=b::q from h)
  have w:IntKind.wrap .i64 ((i:Int)+1)=((i+1:Nat):Int):=wadd' (by omega)
  have g1:((b.toNat:Int) != (34:Int))=true:=by
   show (!((b.toNat:Int)==(34:Int)))=true
   rw [bqI (c:=b) (k:=34) (n:=34) rfl,beq_eq_false_iff_ne.2 b1];rfl
  have g2:((b.toNat:Int)==(92:Int))=false:=by rw [bqI (c:=b) (k:=92) (n:=92) rfl];exact beq_eq_false_iff_ne.2 b2
  simp only [S131_6step,S131_6,e1,e2,ea,h4,w,g1,g2,imp,cond_true,cond_false,Bool.not_true,Bool.true_or,cond_same,Option.bind_some,Int.toNat_natCast]
  rfl
 ·exact esc _ _ _ h (esc2 hl h rfl)
 ·exact esc _ _ _ h (esc2 hl h rfl)
 ·exact esc _ _ _ h (esc2 hl h rfl)
 ·exact esc _ _ _ h (esc2 hl h rfl)
 ·exact esc _ _ _ h (esc2 hl h rfl)
 ·have hv:=escX (b:=b) (q:=q) hl h
  obtain ⟨_,h4,_⟩:=drop_at 0 (show src.drop i=92::(120::(hex2 b.toNat++q)) from h)
  have w:IntKind.wrap .i64 ((i:Int)+4)=((i+4:Nat):Int):=by rw [wrap64 (by omega) (by omega)];omega
  simp only [S131_6step,S131_6,e1,e2,ea,h4,hv,w,imp,cond_true,cond_false,Bool.not_true,Bool.true_or,cond_same,Option.bind_some,Int.toNat_natCast]
  rfl
theorem unq_loop {src:List UInt8} (hl:src.length≤1048576) {a x:List UInt8} (hc:Codes a x):∀ (i:Nat) (acc:List PV) (s:List UInt8),src.drop i=x++34::s→acc.length≤i→loopW (S131_6step 0) (src,acc,(i:Int))=some (.inr (src,acc++a.map (fun c=>PV.int (c.toNat:Int)),((i+x.length:Nat):Int))):=by
 induction hc with
 | nil=>
  intro i acc s h ha
  obtain ⟨hi,h4,_⟩:=drop_at 0 (show src.drop i=34::s from h)
  have e1:decide ((i:Int)<(src.length:Int))=true:=decide_eq_true (by omega)
  have e2:inRange (i:Int) src.length=true:=by rw [inRange_nat];exact decide_eq_true hi
  have g1:((((34:UInt8).toNat:Nat):Int) != (34:Int))=false:=rfl
  refine (loopW_end (y:=.inr (src,acc,(i:Int))) ?_).trans (by simp)
  simp only [S131_6step,S131_6,e1,e2,h4,g1,imp,cond_true,cond_false,Bool.not_true,Bool.true_or,cond_same,Option.bind_some,Int.toNat_natCast]
 | @cons b c r q hb hr ih=>
  intro i acc s h ha
  rw [List.append_assoc] at h
  have st:=unq_step hl ha hb h
  have hn:src.drop (i+c.length)=q++34::s:=by
   rw [←List.drop_drop,h,List.drop_left]
  have hp:0<c.length:=by
   rcases hb with ⟨rfl,_⟩ | ⟨_,rfl⟩ | ⟨_,rfl⟩ | ⟨_,rfl⟩ | ⟨_,rfl⟩ | ⟨_,rfl⟩ | rfl<;>simp
  rw [loopW_go st,ih (i+c.length) _ s hn (by simp;omega)]
  simp [Nat.add_assoc]
theorem unquote_eq {a:List UInt8} (ha:a.length≤1048576) (s:List UInt8) (hl:(quote a++s).length≤1048576):F131 0 (quote a++s)=some (a,(((quote a).length:Nat):Int),0):=by
 have hq:quote a=34::(quoteFrom a 0++[34]):=by unfold quote;rfl
 have hlen:(quote a).length=(quoteFrom a 0).length+2:=by rw [hq];simp
 have hc:=quote_codes a a.length 0 (by omega)
 rw [List.drop_zero] at hc
 have hd:(quote a++s).drop 1=quoteFrom a 0++34::s:=by rw [hq];simp
 have lp:loopW (S131_6step 0) (quote a++s,[],(1:Int))=some (.inr (quote a++s,[]++a.map (fun c:UInt8=>PV.int (c.toNat:Int)),((1+(quoteFrom a 0).length:Nat):Int))):=unq_loop hl hc 1 [] s hd (by simp)
 have hall:(quote a++s).length=(quoteFrom a 0).length+2+s.length:=by rw [List.length_append,hlen]
 have e0:((quote a++s)==([]:List UInt8))=false:=by rw [hq];rfl
 have e1:inRange (0:Int) (quote a++s).length=true:=by rw [hq,List.cons_append,in0]
 have e2:((((quote a++s).getD (0:Int).toNat 0).toNat:Int) != (34:Int))=false:=by rw [hq];rfl
 have e3:([]++a.map (fun c:UInt8=>PV.int (c.toNat:Int))).map byteOfPV=a:=by
  rw [List.nil_append,List.map_map]
  refine (List.map_congr_left (g:=id) (fun x _=>byte_back x)).trans (List.map_id _)
 have e4:decide (((1+(quoteFrom a 0).length:Nat):Int)≥((quote a++s).length:Int))=false:=decide_eq_false (by omega)
 have w:IntKind.wrap .i64 (((1+(quoteFrom a 0).length:Nat):Int)+1)=(((quote a).length:Nat):Int):=by rw [wadd' (by omega),hlen];congr 1;omega
 have e5:decide (0≤(0:Int)∧(0:Int)≤(((quote a).length:Nat):Int)∧(((quote a).length:Nat):Int)≤((quote a++s).length:Int))=true:=decide_eq_true (by omega)
 have e6:((quote a++s).take (((quote a).length:Nat):Int).toNat).drop (0:Int).toNat=quote a:=by
  rw [Int.toNat_natCast,List.take_left];rfl
 unfold F131
 rw [loopQ0,lp]
 simp only [e0,e1,e2,imp,Bool.not_false,Bool.true_or,cond_same,cond_true,cond_false,Option.bind_some,sumE_inr,e3,e4,quote_eq a ha,w,e5,e6,beq_self_eq_true,Bool.not_true]
inductive Tok:List UInt8→List UInt8→Prop
 | name {t s:List UInt8}:typeP t=true→endN s→Tok t s
 | int {u:Nat} {s:List UInt8}:u<18446744073709551616→endI s→Tok (decB u) s
 | text {t s:List UInt8}:t.length≤1048576→Tok (quote t) s
 | sign {c:UInt8} {s:List UInt8}:signC c=true→Tok [c] s
theorem sign_all:((List.range 256).all fun n=>!signC (UInt8.ofNat n)||(!(n==32)&&!(n==9)&&!(n==13)&&!(n==10)&&!(n==47)&&!(n==46)&&!(n==34)&&!letB (UInt8.ofNat n)&&!digC (UInt8.ofNat n)))=true:=by kernel_rfl
theorem sign_facts {c:UInt8} (h:signC c=true):noSp c∧letB c=false∧(c==46)=false∧(c==34)=false∧digC c=false:=by
 have:=List.all_eq_true.1 sign_all c.toNat (List.mem_range.2 c.toNat_lt)
 rw [show UInt8.ofNat c.toNat=c by simp] at this
 rw [h] at this
 simp only [Bool.not_true,Bool.false_or,Bool.and_eq_true,Bool.not_eq_true',beq_eq_false_iff_ne] at this
 obtain ⟨⟨⟨⟨⟨⟨⟨⟨h1,h2⟩,h3⟩,h4⟩,h5⟩,h6⟩,h7⟩,h8⟩,h9⟩:=this
 refine ⟨⟨?_,?_,?_,?_,?_⟩,h8,?_,?_,h9⟩
 all_goals first | (rintro rfl;contradiction) | (rw [beq_eq_false_iff_ne];rintro rfl;contradiction)
theorem state_text (t s:List UInt8):F123 0 (quote t++s)=some 5:=by
 have hq:quote t++s=34::(quoteFrom t 0++[34]++s):=by unfold quote;rfl
 rw [hq,state_eq _ _ ⟨by decide,by decide,by decide,by decide,by decide⟩];rfl
theorem state_sign {c:UInt8} (h:signC c=true) (s:List UInt8):F123 0 ([c]++s)=some 6:=by
 obtain ⟨h1,h2,h3,h4,h5⟩:=sign_facts h
 rw [List.singleton_append,state_eq _ _ h1]
 unfold startN
 rw [h2,h3,h4,h5,h];rfl
theorem tok_state {t s:List UInt8} (h:Tok t s):∃ k:Int,F123 0 (t++s)=some k∧(k==1)=false∧(k==2)=false:=by
 cases h with
 | name h1 h2=>exact ⟨3,state_name h1 s,rfl,rfl⟩
 | int h1 h2=>exact ⟨4,state_int h1 s,rfl,rfl⟩
 | text h1=>exact ⟨5,state_text _ s,rfl,rfl⟩
 | sign h1=>exact ⟨6,state_sign h1 s,rfl,rfl⟩
theorem tok_ne {t s:List UInt8} (h:Tok t s):t≠[]:=by
 cases h with
 | name h1 h2=>rintro rfl;exact absurd h1 (by decide)
 | int h1 h2=>exact decB_ne _
 | text h1=>unfold quote;simp
 | sign h1=>simp
end Go.Ab
namespace Go.Ab
open Go
set_option maxRecDepth 100000
end Go.Ab
namespace Go.Ab
open Go
set_option maxRecDepth 100000
theorem num_loop (s:List UInt8) (neg:Bool) (V:Nat) (hV:V<18446744073709551616) (hd:∀ c,c∈s→isDig c) (hl:s.length≤1048576):∀ (m i acc:Nat),s.length-i≤m→i≤s.length→valD acc (s.drop i)=V→
 loopW (S365_9step 0) (s,neg,(acc:Int),false,(i:Int))=some (.inr (neg,(V:Int),false)):=by
 intro m
 induction m with
 | zero=>
  intro i acc hm hi hv
  have hlt:¬i<s.length:=by omega
  rw [List.drop_eq_nil_of_le (by omega)] at hv
  have e:acc=V:=hv
  subst e
  exact loopW_end (by simp only [S365_9step,S365_9,declt,hlt,decide_false,cond_false])
 | succ m ih=>
  intro i acc hm hi hv
  by_cases hlt:i<s.length
  ·rw [drop_cons hlt 0] at hv
   have hc:isDig (s.getD i 0):=hd _ (by rw [getD_of_lt hlt];exact List.getElem_mem _)
   generalize hx:s.getD i 0=c at hv hc
   have hv':valD (acc*10+(c.toNat-48)) (s.drop (i+1))=V:=hv
   have hs:acc*10+(c.toNat-48)≤V:=by rw [←hv'];exact valD_ge _ _
   unfold isDig at hc
   obtain ⟨d,hdd⟩:∃ d:Nat,c.toNat=48+d:=⟨c.toNat-48,by omega⟩
   rw [←ih (i+1) (acc*10+(c.toNat-48)) (by omega) (by omega) hv']
   rw [hdd] at hs hc ⊢
   have d1:decide (((48+d:Nat):Int)<(48:Int))=false:=decide_eq_false (by omega)
   have d2:decide (((48+d:Nat):Int)>(57:Int))=false:=decide_eq_false (by omega)
   have w1:IntKind.wrap .u64 (IntKind.wrap .u8 (((48+d:Nat):Int)-(48:Int)))=(d:Int):=by rw [IntKind.wrap_u8,IntKind.wrap_u64];omega
   have w2:IntKind.wrap .u64 ((18446744073709551615:Int)-(d:Int))=((18446744073709551615-d:Nat):Int):=by rw [IntKind.wrap_u64];omega
   have w3:IntKind.wrap .u64 (((18446744073709551615-d:Nat):Int).tdiv (10:Int))=(((18446744073709551615-d) / 10:Nat):Int):=by
    rw [show ((18446744073709551615-d:Nat):Int).tdiv (10:Int)=(((18446744073709551615-d) / 10:Nat):Int) from rfl,IntKind.wrap_u64];omega
   have d3:decide ((acc:Int)>(((18446744073709551615-d) / 10:Nat):Int))=false:=decide_eq_false (by omega)
   have w4:IntKind.wrap .u64 ((10:Int)*(acc:Int))=((10*acc:Nat):Int):=by rw [IntKind.wrap_u64];omega
   have w5:IntKind.wrap .u64 (((10*acc:Nat):Int)+(d:Int))=((acc*10+(48+d-48):Nat):Int):=by rw [IntKind.wrap_u64];omega
   refine loopW_go ?_
   simp only [S365_9step,S365_9,declt,inRange_nat,hlt,decide_true,cond_true,Int.toNat_natCast,hx,hdd,d1,d2,d3,w1,w2,w3,w4,w5,imp,Bool.not_false,cond_false,wadd1 (i:=i) (by omega)]
  ·have e:acc=V:=by rw [List.drop_eq_nil_of_le (by omega)] at hv;exact hv
   subst e
   exact loopW_end (by simp only [S365_9step,S365_9,declt,hlt,decide_false,cond_false])
theorem dec_len (u:Nat) (hu:u<18446744073709551616):(Lib.decDigits u).length≤20:=by
 rw [←decB_eq (by omega)];exact decB_len u
theorem num_dec (u:Nat) (hu:u<18446744073709551616):F365 0 (Lib.decDigits u)=some ((u:Int),false,0):=by
 obtain ⟨h1,h2,h3,h4⟩:=dec_facts u
 have hlen:=dec_len u hu
 have hloop:=num_loop (Lib.decDigits u) false u hu h1 (by omega) (Lib.decDigits u).length 0 0 (by omega) (by omega) (by rw [List.drop_zero];exact h2)
 have hz:u=0→Lib.decDigits u=[48]:=fun h=>by subst h;rw [Lib.decDigits];rfl
 generalize Lib.decDigits u=s at*
 match s,h3 with
 | c::r,_=>
  have hc:=h1 c (by simp)
  unfold isDig at hc
  have k45:((c.toNat:Int)==(45:Int))=false:=by simp;omega
  have hp:decide (((c::r).length:Int)>(0:Int))=true:=decide_eq_true (by simp)
  have hi:inRange (0:Int) (c::r).length=true:=by rw [show (0:Int)=((0:Nat):Int) from rfl,inRange_nat];exact decide_eq_true (by simp)
  have hg:((c::r).getD (0:Int).toNat 0)=c:=rfl
  have hn:((c::r)==([]:List UInt8))=false:=rfl
  have ht:(bif ((c.toNat:Int)==(48:Int)) then (!((c::r)==([48]:List UInt8))) else false)=false:=by
   by_cases h0:u=0
   ·rw [hz h0];simp
   ·have:=h4 h0 c rfl
    have:((c.toNat:Int)==(48:Int))=false:=by simp;omega
    rw [this];rfl
  rw [show ((0:Nat):Int)=(0:Int) from rfl] at hloop
  unfold F365
  simp only [hp,imp,hi,cond_true,hg,k45,cond_false,hn,Bool.not_false,ht,loopQ0,hloop,Option.bind_some,sumE_inr]
theorem num_neg (u:Nat) (hu:u<18446744073709551616):F365 0 (45::Lib.decDigits u)=some (if u=0 then (0,false,2) else ((u:Int),true,0)):=by
 obtain ⟨h1,h2,h3,h4⟩:=dec_facts u
 have hlen:=dec_len u hu
 have hloop:=num_loop (Lib.decDigits u) true u hu h1 (by omega) (Lib.decDigits u).length 0 0 (by omega) (by omega) (by rw [List.drop_zero];exact h2)
 have hz:u=0→Lib.decDigits u=[48]:=fun h=>by subst h;rw [Lib.decDigits];rfl
 generalize Lib.decDigits u=s at*
 match s,h3 with
 | c::r,_=>
  have hc:=h1 c (by simp)
  unfold isDig at hc
  have k45:(((45:UInt8).toNat:Int)==(45:Int))=true:=rfl
  have hp:decide (((45::c::r).length:Int)>(0:Int))=true:=decide_eq_true (by simp;omega)
  have hi:inRange (0:Int) (45::c::r).length=true:=by rw [show (0:Int)=((0:Nat):Int) from rfl,inRange_nat];exact decide_eq_true (by simp)
  have hi2:inRange (0:Int) (c::r).length=true:=by rw [show (0:Int)=((0:Nat):Int) from rfl,inRange_nat];exact decide_eq_true (by simp)
  have hg:((45::c::r).getD (0:Int).toNat 0)=45:=rfl
  have hg2:((c::r).getD (0:Int).toNat 0)=c:=rfl
  have hsl:decide ((0:Int)≤(1:Int)∧(1:Int)≤((45::c::r).length:Int)∧((45::c::r).length:Int)≤((45::c::r).length:Int))=true:=decide_eq_true (by simp;omega)
  have htk:((45::c::r).take ((45::c::r).length:Int).toNat).drop (1:Int).toNat=c::r:=by rw [Int.toNat_natCast,List.take_length];rfl
  have hn:((c::r)==([]:List UInt8))=false:=rfl
  have hne:((45::c::r)==([48]:List UInt8))=false:=rfl
  rw [show ((0:Nat):Int)=(0:Int) from rfl] at hloop
  by_cases h0:u=0
  ·have hcc:c=48:=by have:=hz h0;simp at this;exact this.1
   have ht:((c.toNat:Int)==(48:Int))=true:=by rw [hcc];rfl
   unfold F365
   simp only [hp,imp,hi,hi2,cond_true,hg,hg2,k45,hsl,htk,hn,Bool.not_false,cond_false,ht,hne,h0,if_true]
  ·have:=h4 h0 c rfl
   have ht:((c.toNat:Int)==(48:Int))=false:=by simp;omega
   unfold F365
   simp only [hp,imp,hi,hi2,cond_true,hg,hg2,k45,hsl,htk,hn,Bool.not_false,cond_false,ht,loopQ0,hloop,Option.bind_some,sumE_inr,h0,if_false]
end Go.Ab
namespace Go.Ab
open Go
set_option maxRecDepth 100000
def zeroV:PV:=PV.agg [(PV.int (0:Int)),(PV.int (0:Int)),(PV.str ([]:List UInt8)),(PV.slice []),(PV.slice []),(PV.slice []),(PV.slice [])]
def mkV (k b:Int):PV:=PV.agg [(PV.int k),(PV.int b),(PV.str ([]:List UInt8)),(PV.slice []),(PV.slice []),(PV.slice []),(PV.slice [])]
def numV (k:Int) (neg:Bool) (u:Nat):PV×Int:=
 if neg=true∧u=0 then (zeroV,2)
 else if k=4 then (if neg=true∨4294967296≤u then (zeroV,6) else (mkV k u,0))
 else if neg=true then (if 9223372036854775808<u then (zeroV,6) else (mkV k (IntKind.wrap .u64 (0-(u:Int))),0))
 else if 9223372036854775808≤u then (zeroV,6) else (mkV k u,0)
def signed (neg:Bool) (l:List UInt8):List UInt8:=if neg=true then 45::l else l
theorem mkV_small (k:Int) {b:Int} (h0:0≤b) (h1:b<18446744073709551616):smallV (mkV k b):=⟨Nat.zero_le _,Nat.zero_le _,h0,h1⟩
theorem refNumber_eq (neg:Bool) (u:Nat) (hu:u<18446744073709551616):F365 0 (signed neg (Lib.decDigits u))=some (if neg=true∧u=0 then (0,false,2) else ((u:Int),neg,0)):=by
 cases neg with
 | false=>simp only [signed,Bool.false_eq_true,if_false,false_and];exact num_dec u hu
 | true=>simp only [signed,if_true,true_and];exact num_neg u hu
end Go.Ab
namespace Go.Ab
open Go
set_option maxRecDepth 100000
theorem trim_neg (l:List UInt8):F141 0 (45::l) [45]=some l:=by
 unfold F141 F245 F297
 have h1:decide (((45::l:List UInt8).length:Int)≥(([45]:List UInt8).length:Int))=true:=decide_eq_true (by simp;omega)
 have h2:decide ((0:Int)≤0∧(0:Int)≤(([45]:List UInt8).length:Int)∧(([45]:List UInt8).length:Int)≤((45::l:List UInt8).length:Int))=true:=decide_eq_true (by simp;omega)
 have h3:decide ((0:Int)≤(([45]:List UInt8).length:Int)∧(([45]:List UInt8).length:Int)≤((45::l:List UInt8).length:Int)∧((45::l:List UInt8).length:Int)≤((45::l:List UInt8).length:Int))=true:=decide_eq_true (by simp;omega)
 have h4:(((45::l:List UInt8).take ((([45]:List UInt8).length:Int)).toNat).drop (0:Int).toNat==([45]:List UInt8))=true:=by
  simp
 have h5:((45::l:List UInt8).take ((45::l:List UInt8).length:Int).toNat).drop ((([45]:List UInt8).length:Int)).toNat=l:=by
  rw [show (((45::l:List UInt8).length:Int)).toNat=(45::l:List UInt8).length from Int.toNat_natCast _,List.take_length];rfl
 simp only [h1,h2,h3,h4,h5,imp,cond_true,Option.bind_some]
theorem trim_pos (c:UInt8) (l:List UInt8) (hc:c≠45):F141 0 (c::l) [45]=some (c::l):=by
 unfold F141 F245 F297
 have h1:decide (((c::l:List UInt8).length:Int)≥(([45]:List UInt8).length:Int))=true:=decide_eq_true (by simp;omega)
 have h2:decide ((0:Int)≤0∧(0:Int)≤(([45]:List UInt8).length:Int)∧(([45]:List UInt8).length:Int)≤((c::l:List UInt8).length:Int))=true:=decide_eq_true (by simp;omega)
 have h4:(((c::l:List UInt8).take ((([45]:List UInt8).length:Int)).toNat).drop (0:Int).toNat==([45]:List UInt8))=false:=by
  simp [hc]
 simp only [h1,h2,h4,imp,cond_true,cond_false,Option.bind_some]
theorem dec_loop (s:List UInt8) (hd:∀ c,c∈s→isDig c) (hl:s.length≤1048576):∀ (m i:Nat),s.length-i≤m→i≤s.length→
 loopW (S357_6step 0) (s,(s.length:Int),(i:Int))=some (.inr ()):=by
 intro m
 induction m with
 | zero=>
  intro i hm hi
  have hlt:¬i<s.length:=by omega
  exact loopW_end (by simp only [S357_6step,S357_6,declt,hlt,decide_false,cond_false])
 | succ m ih=>
  intro i hm hi
  by_cases hlt:i<s.length
  ·have hc:isDig (s.getD i 0):=hd _ (by rw [getD_of_lt hlt];exact List.getElem_mem _)
   generalize hx:s.getD i 0=c at hc
   unfold isDig at hc
   have d1:decide ((c.toNat:Int)<(48:Int))=false:=decide_eq_false (by omega)
   have d2:decide ((c.toNat:Int)>(57:Int))=false:=decide_eq_false (by omega)
   rw [loopW_go (x1:=(s,(s.length:Int),((i+1:Nat):Int))),ih (i+1) (by omega) (by omega)]
   simp only [S357_6step,S357_6,declt,inRange_nat,hlt,decide_true,cond_true,Int.toNat_natCast,hx,d1,d2,imp,Bool.not_false,cond_false,wadd1 (i:=i) (by omega)]
  ·exact loopW_end (by simp only [S357_6step,S357_6,declt,hlt,decide_false,cond_false])
theorem decimal_ok (neg:Bool) (u:Nat) (hu:u<18446744073709551616):F357 0 (signed neg (Lib.decDigits u))=some (!(neg&&decide (u=0))):=by
 obtain ⟨h1,h2,h3,h4⟩:=dec_facts u
 have hlen:=dec_len u hu
 have hloop:=dec_loop (Lib.decDigits u) h1 (by omega) (Lib.decDigits u).length 0 (by omega) (by omega)
 have hz:u=0→Lib.decDigits u=[48]:=fun h=>by subst h;rw [Lib.decDigits];rfl
 generalize Lib.decDigits u=s at*
 match s,h3 with
 | c::r,_=>
  have hc:=h1 c (by simp)
  unfold isDig at hc
  have hne:c≠45:=fun h=>by subst h;simp at hc
  have hi:inRange (0:Int) (c::r).length=true:=by rw [show (0:Int)=((0:Nat):Int) from rfl,inRange_nat];exact decide_eq_true (by simp)
  have hg:((c::r).getD (0:Int).toNat 0)=c:=rfl
  have hn:((c::r)==([]:List UInt8))=false:=rfl
  rw [show ((0:Nat):Int)=(0:Int) from rfl] at hloop
  have ht:F141 0 (signed neg (c::r)) [45]=some (c::r):=by
   cases neg with
   | true=>exact trim_neg _
   | false=>exact trim_pos c r hne
  unfold F357
  rw [ht]
  by_cases h0:u=0
  ·have hz:=hz h0
   simp at hz
   obtain ⟨rfl,rfl⟩:=hz
   cases neg with
   | true=>simp only [signed,if_true,Option.bind_some];rw [h0];rfl
   | false=>
    have e48:((([48]:List UInt8))==[48])=true:=rfl
    simp only [signed,Bool.false_eq_true,if_false,Option.bind_some,hn,hi,imp,Bool.not_false,cond_true,cond_false,hg,e48,Bool.not_true,cond_same,loopQ0,hloop,sumE_inr,Bool.false_and]
  ·have:=h4 h0 c rfl
   have hk:((c.toNat:Int)==(48:Int))=false:=by simp;omega
   simp only [Option.bind_some,hn,hi,imp,Bool.not_false,cond_true,cond_false,hg,hk,loopQ0,hloop,sumE_inr,h0,decide_false,Bool.and_false]
theorem within3 (b:Int):F250 0 3 b=some true:=rfl
theorem within4 (b:Int):F250 0 4 b=some (decide (b≤4294967295)):=rfl
theorem signed_len (neg:Bool) (u:Nat) (hu:u<18446744073709551616):(signed neg (Lib.decDigits u)).length≤21:=by
 have:=dec_len u hu
 unfold signed
 split
 ·simp;omega
 ·omega
theorem lparseInt_ok (s:List UInt8) (hs:s.length≤1048576):LparseInt 0 s 10 64=some (intRes s (Lib.parseIntB 64 s)):=by
 unfold LparseInt
 have:Nat.ble s.length 281474976710656=true:=Nat.ble_eq_true_of_le (by omega)
 simp [this]
theorem lparseUint_ok (s:List UInt8) (hs:s.length≤1048576):LparseUint 0 s 10 64=some (uintRes (Lib.parseUintB 64 s)):=by
 unfold LparseUint
 have:Nat.ble s.length 281474976710656=true:=Nat.ble_eq_true_of_le (by omega)
 simp [this]
theorem number_ok (k:Int) (hk:k=3∨k=4) (neg:Bool) (u:Nat) (hu:u<18446744073709551616):F309 0 k (signed neg (Lib.decDigits u))=some (numV k neg u):=by
 have hl:=signed_len neg u hu
 unfold F309 numV
 rw [decimal_ok neg u hu,lparseInt_ok _ (by omega),lparseUint_ok _ (by omega)]
 by_cases h0:neg=true∧u=0
 ·obtain ⟨rfl,rfl⟩:=h0
  rfl
 ·have hx:(neg&&decide (u=0))=false:=by
   cases neg with
   | false=>rfl
   | true=>simp at h0;simp [h0]
  rw [if_neg h0,hx]
  have hwu:IntKind.wrap .u64 (u:Int)=(u:Int):=by rw [IntKind.wrap_u64];omega
  rcases hk with rfl | rfl
  ·cases neg with
   | false=>
    have e:signed false (Lib.decDigits u)=Lib.decDigits u:=rfl
    rw [e,parseInt_dec hu]
    by_cases hg:9223372036854775808≤u
    ·simp [hg,intRes,zeroV]
    ·simp [hg,intRes,within3,hwu,mkV]
   | true=>
    have e:signed true (Lib.decDigits u)=45::Lib.decDigits u:=rfl
    rw [e,parseInt_neg hu]
    by_cases hg:9223372036854775808<u
    ·simp [hg,intRes,zeroV]
    ·simp [hg,intRes,within3,mkV]
  ·cases neg with
   | true=>
    have e:signed true (Lib.decDigits u)=45::Lib.decDigits u:=rfl
    rw [e,parseUint_neg]
    simp [uintRes,zeroV]
   | false=>
    have e:signed false (Lib.decDigits u)=Lib.decDigits u:=rfl
    rw [e,parseUint_dec hu]
    by_cases hg:4294967296≤u
    ·have d:decide ((u:Int)≤(4294967295:Int))=false:=decide_eq_false (by omega)
     simp [hg,uintRes,within4,d,zeroV]
    ·have d:decide ((u:Int)≤(4294967295:Int))=true:=decide_eq_true (by omega)
     simp [hg,uintRes,within4,d,mkV]
theorem parse_ok (k:Int) (hk:k=3∨k=4) (neg:Bool) (u:Nat) (hu:u<18446744073709551616):F239 0 k (signed neg (Lib.decDigits u))=some (numV k neg u):=by
 have h:=number_ok k hk neg u hu
 unfold F239
 rcases hk with rfl | rfl
 ·have e1:F248 0 3=some true:=rfl
  have e2:F307 0 3=some false:=rfl
  have a1:((3:Int)==1)=false:=rfl
  have a6:((3:Int)==6)=false:=rfl
  simp only [e1,e2,a1,a6,h,Option.bind_some,Bool.not_true,cond_false]
 ·have e1:F248 0 4=some true:=rfl
  have e2:F307 0 4=some false:=rfl
  have a1:((4:Int)==1)=false:=rfl
  have a6:((4:Int)==6)=false:=rfl
  simp only [e1,e2,a1,a6,h,Option.bind_some,Bool.not_true,cond_false]
end Go.Ab
namespace Go.Ab
open Go
def same1 (x y:PV):Bool:=nName x==nName y&&((vKind (nVal x)==vKind (nVal y))&&((vBits (nVal x)==vBits (nVal y))&&(vText (nVal x)==vText (nVal y))))
def sameL:List PV→List PV→Bool
 | x::r,y::q=>same1 x y&&sameL r q
 | _,_=>true
def sameN (a b:List PV):Bool:=decide (a.length=b.length)&&sameL a b
theorem same1_refl (x:PV):same1 x x=true:=by simp [same1]
theorem lenNe (a b:List PV):((a.length:Int) != (b.length:Int))=!decide (a.length=b.length):=by
 by_cases h:a.length=b.length
 ·simp [h]
 ·have:¬((a.length:Int)=(b.length:Int)):=by omega
  simp [h,bne,this]
theorem refSame_loop (a b:List PV) (hl:a.length≤1048576) (hab:a.length=b.length):∀ (m i:Nat),a.length-i≤m→i≤a.length→
 loopW (S37_5step 0) (a,b,(i:Int))=some (bif sameL (a.drop i) (b.drop i) then .inr () else .inl false):=by
 intro m
 induction m with
 | zero=>
  intro i hm hi
  have hlt:¬i<a.length:=by omega
  rw [List.drop_eq_nil_of_le (by omega)]
  exact loopW_end (by simp only [S37_5step,S37_5,declt,hlt,decide_false,cond_false];rfl)
 | succ m ih=>
  intro i hm hi
  by_cases hlt:i<a.length
  ·have hlb:i<b.length:=by omega
   rw [drop_cons hlt .bad,drop_cons hlb .bad,sameL]
   have step:S37_5step 0 (a,b,(i:Int))=some (bif same1 (a.getD i .bad) (b.getD i .bad) then .inl (a,b,((i+1:Nat):Int)) else .inr (.inl false)):=by
    simp only [S37_5step,S37_5,declt,inRange_nat,hlt,hlb,decide_true,cond_true,Int.toNat_natCast,imp,cond_same,wadd1 (i:=i) (by omega),same1,nName,nVal,vKind,vBits,vText,bne]
    generalize (((a.getD i .bad).fld 0).asStr==((b.getD i .bad).fld 0).asStr)=q0
    generalize ((((a.getD i .bad).fld 1).fld 0).asInt==(((b.getD i .bad).fld 1).fld 0).asInt)=q1
    generalize ((((a.getD i .bad).fld 1).fld 1).asInt==(((b.getD i .bad).fld 1).fld 1).asInt)=q2
    generalize ((((a.getD i .bad).fld 1).fld 2).asStr==(((b.getD i .bad).fld 1).fld 2).asStr)=q3
    cases q0<;>cases q1<;>cases q2<;>cases q3<;>rfl
   cases hp:same1 (a.getD i .bad) (b.getD i .bad) with
   | false=>rw [hp] at step;exact loopW_end step
   | true=>
    rw [hp] at step
    rw [loopW_go step,ih (i+1) (by omega) (by omega)]
    rfl
  ·rw [List.drop_eq_nil_of_le (by omega)]
   exact loopW_end (by simp only [S37_5step,S37_5,declt,hlt,decide_false,cond_false];rfl)
theorem refSame_eq (a b:List PV) (hl:a.length≤1048576):F37 0 a b=some (sameN a b):=by
 unfold F37 sameN
 rw [lenNe]
 by_cases h:a.length=b.length
 ·have hh:=refSame_loop a b hl h a.length 0 (by omega) (by omega)
  rw [decide_eq_true h,Bool.not_true,cond_false,loopQ0,show (0:Int)=((0:Nat):Int) from rfl,hh,List.drop_zero,List.drop_zero]
  cases sameL a b<;>rfl
 ·rw [decide_eq_false h];rfl
end Go.Ab
namespace Go.Ab
open Go
set_option maxRecDepth 100000
def tKind (t:PV):Int:=(t.fld 0).asInt
def tText (t:PV):List UInt8:=(t.fld 1).asStr
def sgn (t:List PV) (i:Nat) (s:List UInt8):Bool:=decide (i<t.length)&&((tKind (t.getD i .bad)==4)&&(tText (t.getD i .bad)==s))
theorem is_nat (t:List PV) (i:Nat) (s:List UInt8):F77 0 t (i:Int) s=some (sgn t i s):=by
 unfold F77 sgn
 have h0:decide ((i:Int)≥0)=true:=decide_eq_true (by omega)
 have e0:((t.getD i .bad).fld 0).asInt=tKind (t.getD i .bad):=rfl
 have e1:((t.getD i .bad).fld 1).asStr=tText (t.getD i .bad):=rfl
 by_cases hlt:i<t.length
 ·simp only [h0,declt,hlt,decide_true,cond_true,imp,inRange_nat,Int.toNat_natCast,e0,e1,Bool.true_and]
  cases (tKind (t.getD i .bad)==4)<;>simp
 ·simp only [h0,declt,hlt,decide_false,cond_true,cond_false,imp,Bool.not_false,Bool.false_and,cond_same]
theorem kindAt_nat (t:List PV) (i:Nat):F158 0 t (i:Int)=some (if i<t.length then tKind (t.getD i .bad) else 0):=by
 unfold F158
 have h0:decide ((i:Int)<0)=false:=decide_eq_false (by omega)
 have e0:((t.getD i .bad).fld 0).asInt=tKind (t.getD i .bad):=rfl
 by_cases hlt:i<t.length
 ·have h1:decide ((i:Int)≥(t.length:Int))=false:=decide_eq_false (by omega)
  simp only [h0,h1,cond_false,inRange_nat,hlt,decide_true,cond_true,Int.toNat_natCast,e0,if_true]
 ·have h1:decide ((i:Int)≥(t.length:Int))=true:=decide_eq_true (by omega)
  simp only [h0,h1,cond_false,cond_true,hlt,if_false]
theorem u64nat (n:Int):∃ u:Nat,u<18446744073709551616∧IntKind.wrap .u64 n=(u:Int):=by
 refine ⟨(n%18446744073709551616).toNat,by omega,?_⟩
 rw [IntKind.wrap_u64];omega
theorem fmt_ok (u:Nat) (hu:u<18446744073709551616):F135 0 (u:Int) 10=some (Lib.decDigits u):=by
 have d0:decide ((0:Int)≤(u:Int))=true:=decide_eq_true (by omega)
 have d1:decide ((u:Int)≤18446744073709551615)=true:=decide_eq_true (by omega)
 have hf:Lfmt 0 (u:Int) (10:Int)=some (decB u):=by
  first
   | (unfold Lfmtu;simp [d0,d1])
   | (unfold Lfmt;rw [decide_eq_true rfl,cond_true];unfold Lfmtu;simp [d0,d1])
 unfold F135
 rw [hf,Option.bind_some,decB_eq (by omega)]
theorem kind_four {name:List UInt8} (h:kindOf name≠0):kindOf name=1∨kindOf name=7∨kindOf name=3∨kindOf name=4:=by
 by_cases hk:name∈knownNames
 ·simp only [knownNames,List.mem_cons,List.not_mem_nil,or_false] at hk
  have e:∀ k:Int,(k=1∨k=7∨k=3∨k=4)→some (kindOf name)=some k→kindOf name=1∨kindOf name=7∨kindOf name=3∨kindOf name=4:=fun k hk he=>by cases he;exact hk
  rcases hk with rfl | rfl | rfl | rfl | rfl | rfl | rfl | rfl | rfl | rfl | rfl | rfl | rfl
  ·exact e 1 (by decide) (by kernel_rfl)
  ·exact e 1 (by decide) (by kernel_rfl)
  ·exact e 1 (by decide) (by kernel_rfl)
  ·exact e 7 (by decide) (by kernel_rfl)
  ·exact e 7 (by decide) (by kernel_rfl)
  ·exact e 7 (by decide) (by kernel_rfl)
  ·exact e 7 (by decide) (by kernel_rfl)
  ·exact e 4 (by decide) (by kernel_rfl)
  ·exact e 4 (by decide) (by kernel_rfl)
  ·exact e 4 (by decide) (by kernel_rfl)
  ·exact e 4 (by decide) (by kernel_rfl)
  ·exact e 3 (by decide) (by kernel_rfl)
  ·exact e 3 (by decide) (by kernel_rfl)
 ·exact absurd (kindOf_unknown hk) h
end Go.Ab
namespace Go.Ab
open Go
set_option maxRecDepth 100000
noncomputable section
structure Tk where
 k:Int
 s:List UInt8
 n:Int
def tkOf (x:PV):Tk:=⟨(x.fld 0).asInt,(x.fld 1).asStr,(x.fld 2).asInt⟩
inductive Rs (α:Type) where
 | ok (v:α) (r:List Tk)
 | er (r:List Tk) (e:Int)
def Rs.bind {α β:Type} (x:Rs α) (f:α→List Tk→Rs β):Rs β:=match x with | .ok v r=>f v r | .er r e=>.er r e
theorem Rs.bind_ok {α β:Type} (v:α) (r:List Tk) (f:α→List Tk→Rs β):(Rs.ok v r).bind f=f v r:=rfl
theorem Rs.bind_er {α β:Type} (r:List Tk) (e:Int) (f:α→List Tk→Rs β):(Rs.er r e:Rs α).bind f=.er r e:=rfl
def isS (k:Int) (s:List UInt8):List Tk→Bool
 | []=>false
 | x::_=>x.k==k&&x.s==s
def kindS:List Tk→Int
 | []=>0
 | x::_=>x.k
def textS:List Tk→List UInt8
 | []=>[]
 | x::_=>x.s
def numS':List Tk→Int
 | []=>0
 | x::_=>x.n
def eatS (k:Int) (s:List UInt8) (ts:List Tk):Rs Unit:=bif isS k s ts then .ok () ts.tail else .er ts 2
def valS (pv:PV×Int) (back r:List Tk):Rs PV:=bif pv.2==0 then .ok pv.1 r else .er back pv.2
def intS (pv:Int→List UInt8→PV×Int) (k:Int) (neg:Bool) (ts:List Tk):Rs PV:=
 bif kindS ts==2 then valS (pv k ((bif neg then [45] else [])++decB (IntKind.wrap .u64 (numS' ts)).toNat)) ts ts.tail else .er ts 2
def mkVal (k b:Int) (s:List UInt8):PV:=PV.agg [(PV.int k),(PV.int b),(PV.str s),(PV.slice []),(PV.slice []),(PV.slice []),(PV.slice [])]
def noteValS (pv:Int→List UInt8→PV×Int) (k:Int) (ts:List Tk):Rs PV:=
 bif k==1 then (bif isS 1 [116,114,117,101] ts then .ok (mkVal 1 1 []) ts.tail else bif isS 1 [102,97,108,115,101] ts then .ok (mkVal 1 0 []) ts.tail else .er ts 2)
 else bif k==7 then (bif kindS ts==3 then (bif decide ((textS ts).length>4096) then .er ts 3 else bif valid (textS ts) then .ok (mkVal 7 0 (textS ts)) ts.tail else .er ts 7) else .er ts 2)
 else bif isS 4 [45] ts then intS pv k true ts.tail else intS pv k false ts
def noteS (pv:Int→List UInt8→PV×Int) (kd:List UInt8→Int) (ts:List Tk):Rs PV:=
 bif kindS ts==1 then
  bif kd (textS ts)==0 then .er ts 8
  else (eatS 4 [61] ts.tail).bind fun _ r=>(noteValS pv (kd (textS ts)) r).bind fun v r=>.ok (PV.agg [PV.str (textS ts),v]) r
 else .er ts 2
def restNotesS (pv:Int→List UInt8→PV×Int) (kd:List UInt8→Int) (ts:List Tk) (acc:List PV):Rs (List PV):=
 (noteS pv kd ts).bind fun n r=>
  bif isS 4 [93] r then .ok (acc++[n]) r.tail
  else bif isS 4 [44] r then (if h:r.tail.length<ts.length then restNotesS pv kd r.tail (acc++[n]) else .er r 0)
  else .er r 2
termination_by ts.length
decreasing_by all_goals (simp only [List.length_tail] at *;omega)
def notesS (pv:Int→List UInt8→PV×Int) (kd:List UInt8→Int) (ts:List Tk):Rs (List PV):=
 bif isS 4 [91] ts then restNotesS pv kd ts.tail [] else .ok [] ts
def zeroF:PV:=PV.agg [(PV.int 0),(PV.int 0),(PV.str []),(PV.slice []),(PV.slice []),(PV.slice []),(PV.slice [])]
section
variable (pv:Int→List UInt8→PV×Int) (kd:List UInt8→Int)
end
def Sh {α:Type} (x:Rs α) (ts:List Tk):Prop:=∀ v r,x=.ok v r→r.length<ts.length
def Sh0 {α:Type} (x:Rs α) (ts:List Tk):Prop:=∀ v r,x=.ok v r→r.length≤ts.length
theorem Sh.le {α:Type} {x:Rs α} {ts:List Tk} (h:Sh x ts):Sh0 x ts:=fun v r e=>Nat.le_of_lt (h v r e)
theorem sh_bind {α β:Type} {x:Rs α} {f:α→List Tk→Rs β} {ts:List Tk} (hx:Sh x ts) (hf:∀ v r,Sh0 (f v r) r):Sh (x.bind f) ts:=by
 intro v r h
 cases x with
 | ok a q=>have:=hx a q rfl;have:=hf a q v r h;omega
 | er=>cases h
theorem sh0_bind {α β:Type} {x:Rs α} {f:α→List Tk→Rs β} {ts:List Tk} (hx:Sh0 x ts) (hf:∀ v r,Sh0 (f v r) r):Sh0 (x.bind f) ts:=by
 intro v r h
 cases x with
 | ok a q=>have:=hx a q rfl;have:=hf a q v r h;omega
 | er=>cases h
theorem sh0_ok {α:Type} (v:α) (r:List Tk):Sh0 (Rs.ok v r) r:=fun _ _ h=>by cases h;exact Nat.le_refl _
theorem sh_er {α:Type} (q r:List Tk) (e:Int):Sh (Rs.er q e:Rs α) r:=fun _ _ h=>by cases h
theorem isS_tail {k:Int} {s:List UInt8} {ts:List Tk} (h:isS k s ts=true):ts.tail.length<ts.length:=by
 cases ts with
 | nil=>cases h
 | cons x r=>simp
theorem kindS_tail {k:Int} {ts:List Tk} (h:(kindS ts==k)=true) (hk:(k==0)=false):ts.tail.length<ts.length:=by
 cases ts with
 | nil=>simp only [kindS,beq_iff_eq] at h;subst h;simp at hk
 | cons x r=>simp
theorem eat_sh (k:Int) (s:List UInt8) (ts:List Tk):Sh (eatS k s ts) ts:=by
 intro v r h
 unfold eatS at h
 cases hb:isS k s ts with
 | true=>rw [hb] at h;cases h;exact isS_tail hb
 | false=>rw [hb] at h;cases h
theorem val_sh {x:PV×Int} {back r ts:List Tk} (h:r.length<ts.length):Sh (valS x back r) ts:=by
 intro v q e
 unfold valS at e
 cases hb:(x.2==0)<;>rw [hb] at e<;>cases e
 exact h
theorem int_sh (pv:Int→List UInt8→PV×Int) (k:Int) (neg:Bool) (ts:List Tk):Sh (intS pv k neg ts) ts:=by
 intro v r h
 unfold intS at h
 cases hb:(kindS ts==2) with
 | true=>rw [hb] at h;exact val_sh (kindS_tail hb rfl) v r h
 | false=>rw [hb] at h;cases h
theorem tail_le (ts:List Tk):ts.tail.length≤ts.length:=by simp
theorem sh_tail {α:Type} {x:Rs α} {ts:List Tk} (h:Sh x ts.tail):Sh x ts:=fun v r e=>Nat.lt_of_lt_of_le (h v r e) (tail_le ts)
theorem noteVal_sh (pv:Int→List UInt8→PV×Int) (k:Int) (ts:List Tk):Sh (noteValS pv k ts) ts:=by
 unfold noteValS
 cases (k==1) with
 | true=>
  cases h1:isS 1 [116,114,117,101] ts with
  | true=>intro v r e;cases e;exact isS_tail h1
  | false=>
   cases h2:isS 1 [102,97,108,115,101] ts with
   | true=>intro v r e;cases e;exact isS_tail h2
   | false=>exact sh_er _ _ _
 | false=>
  cases (k==7) with
  | true=>
   cases h3:(kindS ts==3) with
   | true=>
    cases decide ((textS ts).length>4096) with
    | true=>exact sh_er _ _ _
    | false=>
     cases valid (textS ts) with
     | true=>intro v r e;cases e;exact kindS_tail h3 rfl
     | false=>exact sh_er _ _ _
   | false=>exact sh_er _ _ _
  | false=>
   cases isS 4 [45] ts with
   | true=>exact sh_tail (int_sh pv k true ts.tail)
   | false=>exact int_sh pv k false ts
theorem note_sh (pv:Int→List UInt8→PV×Int) (kd:List UInt8→Int) (ts:List Tk):Sh (noteS pv kd ts) ts:=by
 unfold noteS
 cases (kindS ts==1) with
 | true=>
  cases (kd (textS ts)==0) with
  | true=>exact sh_er _ _ _
  | false=>exact sh_tail (sh_bind (eat_sh _ _ _) fun _ r=>sh0_bind (noteVal_sh pv _ r).le fun v q=>sh0_ok _ _)
 | false=>exact sh_er _ _ _
theorem restNotes_eq (pv:Int→List UInt8→PV×Int) (kd:List UInt8→Int) (ts:List Tk) (acc:List PV):restNotesS pv kd ts acc=(noteS pv kd ts).bind fun n r=>
 bif isS 4 [93] r then .ok (acc++[n]) r.tail else bif isS 4 [44] r then restNotesS pv kd r.tail (acc++[n]) else .er r 2:=by
 rw [restNotesS]
 cases h:noteS pv kd ts with
 | er r e=>rfl
 | ok n r=>
  have:=note_sh pv kd ts n r h
  have:=tail_le r
  simp only [Rs.bind,show r.tail.length<ts.length by omega,dite_true]
end
end Go.Ab
namespace Go.Ab
open Go
set_option maxRecDepth 100000
section
variable (pv:Int→List UInt8→PV×Int) (kd:List UInt8→Int)
end
end Go.Ab
namespace Go.Ab
open Go
set_option maxRecDepth 100000
def ts (t:List PV) (i:Nat):List Tk:=(t.drop i).map tkOf
structure TOk (t:List PV):Prop where
 len:t.length≤1048576
 txt:∀ x,x∈t→(x.fld 1).asStr.length≤1048576
theorem ts_end {t:List PV} {i:Nat} (h:t.length≤i):ts t i=[]:=by unfold ts;rw [List.drop_eq_nil_of_le h];rfl
theorem ts_cons {t:List PV} {i:Nat} (h:i<t.length):ts t i=tkOf (t.getD i .bad)::ts t (i+1):=by unfold ts;rw [drop_cons h .bad];rfl
theorem ts_tail (t:List PV) (i:Nat):(ts t i).tail=ts t (i+1):=by
 unfold ts
 by_cases h:i<t.length
 ·rw [drop_cons h .bad];rfl
 ·rw [List.drop_eq_nil_of_le (by omega),List.drop_eq_nil_of_le (by omega)];rfl
theorem ts_length (t:List PV) (i:Nat):(ts t i).length=t.length-i:=by unfold ts;simp
theorem isS_lt {k:Int} {s:List UInt8} {t:List PV} {i:Nat} (h:isS k s (ts t i)=true):i<t.length:=by
 by_cases hi:i<t.length
 ·exact hi
 ·rw [ts_end (by omega)] at h;cases h
theorem kindS_lt {k:Int} {t:List PV} {i:Nat} (hk:(k==0)=false) (h:(kindS (ts t i)==k)=true):i<t.length:=by
 by_cases hi:i<t.length
 ·exact hi
 ·rw [ts_end (by omega)] at h
  simp only [kindS,beq_iff_eq] at h
  subst h;simp at hk
abbrev QF:Type:=List UInt8×List UInt8×Unit×Unit×Unit×List PV×List PV×List PV×List PV
inductive Par {α R:Type} (t:List PV) (q:QF) (mk:α→Q0→R) (x:Rs α) (y:Option (R⊕(PV×Q0))):Prop
 | ok (v:α) (j:Nat):j≤t.length→x=.ok v (ts t j)→y=some (.inl (mk v (t,((j:Nat):Int),q)))→Par t q mk x y
 | er (j:Nat) (e:Int):j≤t.length→e≠0→x=.er (ts t j) e→y=some (.inr (PV.agg [PV.int ((j:Nat):Int),PV.int e],(t,((j:Nat):Int),q)))→Par t q mk x y
end Go.Ab
namespace Go.Ab
open Go
set_option maxRecDepth 100000
noncomputable def parV (k:Int) (s:List UInt8):PV×Int:=(F239 0 k s).getD (zeroF,0)
def Reach (k:Int) (s:List UInt8):Prop:=((k=1∨k=6∨k=8)∧s.length≤16384)∨(k=7∧∃ x:List UInt8,x.length≤16384∧s=quote x)∨((2≤k∧k≤5)∧∃ (neg:Bool) (u:Nat),u<18446744073709551616∧s=(bif neg then [45] else [])++decB u)
def ParOk:Prop:=∀ (k:Int) (s:List UInt8),Reach k s→F239 0 k s=some (parV k s)
structure TNm (t:List PV):Prop extends TOk t where
 num:∀ x,x∈t→-9223372036854775808≤(x.fld 2).asInt∧(x.fld 2).asInt≤9223372036854775807
inductive NP (t:List PV) (x:Rs PV) (y:Option (PV×Int×Int)):Prop
 | ok (v:PV) (j:Nat):j≤t.length→x=.ok v (ts t j)→y=some (v,((j:Nat):Int),0)→NP t x y
 | er (j:Nat) (e:Int) (z:PV):j≤t.length→e≠0→x=.er (ts t j) e→y=some (z,((j:Nat):Int),e)→NP t x y
theorem isN_eq (t:List PV) (i:Nat) (s:List UInt8):F77 0 t (i:Int) s=some (isS 4 s (ts t i)):=by
 rw [is_nat]
 unfold sgn
 by_cases h:i<t.length
 ·rw [ts_cons h];simp [h,isS,tkOf,tKind,tText]
 ·rw [ts_end (by omega)];simp [h,isS]
theorem kindN_eq (t:List PV) (i:Nat):F158 0 t (i:Int)=some (kindS (ts t i)):=by
 rw [kindAt_nat]
 by_cases h:i<t.length
 ·rw [ts_cons h,if_pos h];rfl
 ·rw [ts_end (by omega),if_neg h];rfl
theorem wrapN {n:Int}:∃ u:Nat,u<18446744073709551616∧IntKind.wrap .u64 n=(u:Int)∧(IntKind.wrap .u64 n).toNat=u:=by
 obtain ⟨u,h1,h2⟩:=u64nat n
 exact ⟨u,h1,h2,by rw [h2];rfl⟩
theorem fmtB {u:Nat} (h:u<18446744073709551616):F135 0 (u:Int) 10=some (decB u):=by rw [fmt_ok u h,decB_eq (by omega)]
theorem numS_at {t:List PV} {i:Nat} (h:i<t.length):numS' (ts t i)=((t.getD i .bad).fld 2).asInt:=by rw [ts_cons h];rfl
theorem textS_at {t:List PV} {i:Nat} (h:i<t.length):textS (ts t i)=((t.getD i .bad).fld 1).asStr:=by rw [ts_cons h];rfl
theorem kind_at {t:List PV} {i:Nat} (h:i<t.length):kindS (ts t i)=((t.getD i .bad).fld 0).asInt:=by rw [ts_cons h];rfl
theorem isS_at {k:Int} {s:List UInt8} {t:List PV} {i:Nat} (h:i<t.length):isS k s (ts t i)=((((t.getD i .bad).fld 0).asInt==k)&&(((t.getD i .bad).fld 1).asStr==s)):=by rw [ts_cons h];rfl
theorem int_end (po:ParOk) (k:Int) (hk:2≤k∧k≤5) (t:List PV) (ht:TNm t) (neg:Bool) (pre:List UInt8) (hp:pre=bif neg then [45] else []) (i:Nat) (hi:i≤t.length):NP t (intS parV k neg (ts t i))
 ((F158 0 t (i:Int)).bind fun y3=>bif (y3 != (2:Int)) then some (zeroF,(i:Int),(2:Int)) else
   bif inRange (i:Int) t.length then (F135 0 (IntKind.wrap .u64 ((t.getD (i:Int).toNat .bad).fld 2).asInt) (10:Int)).bind fun y9=>
   bif decide (pre.length+y9.length≤strMax) then (F239 0 k (pre++y9)).bind fun y10=>
   bif (y10.2 != (0:Int)) then some (zeroF,(i:Int),y10.2) else some (y10.1,(IntKind.wrap .i64 ((i:Int)+(1:Int))),(0:Int)) else none else none):=by
 have hl:=ht.len
 rw [kindN_eq,Option.bind_some]
 unfold intS
 by_cases hb:kindS (ts t i)=2
 ·have e1:(kindS (ts t i) != 2)=false:=by rw [hb];rfl
  have e2:(kindS (ts t i)==2)=true:=by rw [hb];rfl
  have h:i<t.length:=kindS_lt rfl e2
  obtain ⟨u,hu,h1,h2⟩:=wrapN (n:=((t.getD i .bad).fld 2).asInt)
  have hlen:=decB_len u
  have hpl:pre.length≤1:=by subst hp;cases neg<;>simp
  have l1:decide (pre.length+(decB u).length≤strMax)=true:=leStr (by omega)
  have hpo:=po k (pre++decB u) (Or.inr (Or.inr ⟨hk,neg,u,hu,by rw [hp]⟩))
  simp only [e1,e2,cond_false,cond_true,inRange_nat,h,decide_true,Int.toNat_natCast,h1,fmtB hu,Option.bind_some,l1,hpo,numS_at h,←hp]
  unfold valS
  by_cases hz:(parV k (pre++decB u)).2=0
  ·have z1:((parV k (pre++decB u)).2 != 0)=false:=by rw [hz];rfl
   have z2:((parV k (pre++decB u)).2==0)=true:=by rw [hz];rfl
   simp only [z1,z2,cond_true,cond_false,wadd' (show i≤9223372036854775000 by omega)]
   exact .ok _ (i+1) h (by rw [ts_tail]) rfl
  ·have z1:((parV k (pre++decB u)).2 != 0)=true:=bneI hz
   have z2:((parV k (pre++decB u)).2==0)=false:=beqI hz
   simp only [z1,z2,cond_true,cond_false]
   exact .er i _ _ hi hz rfl rfl
 ·have e1:(kindS (ts t i) != 2)=true:=bneI hb
  have e2:(kindS (ts t i)==2)=false:=beqI hb
  simp only [e1,e2,cond_true,cond_false]
  exact .er i 2 _ hi (by decide) rfl rfl
theorem number_np (po:ParOk) (k:Int) (hk:2≤k∧k≤5) (t:List PV) (ht:TNm t) (i:Nat) (hi:i≤t.length):NP t (bif isS 4 [45] (ts t i) then intS parV k true (ts t i).tail else intS parV k false (ts t i)) (F260 0 k t (i:Int)):=by
 have hl:=ht.len
 have hw:IntKind.wrap .i64 ((i:Int)+1)=((i+1:Nat):Int):=wadd' (by omega)
 unfold F260
 rw [isN_eq,Option.bind_some]
 cases hs:isS 4 [45] (ts t i) with
 | true=>
  have:=int_end po k hk t ht true [45] rfl (i+1) (isS_lt hs)
  simp only [hw,cond_true,ts_tail]
  exact this
 | false=>
  have:=int_end po k hk t ht false [] rfl i hi
  simp only [cond_false]
  exact this
theorem parB1:F239 0 1 [116,114,117,101]=some (mkVal 1 1 [],0):=by kernel_rfl
theorem parB0:F239 0 1 [102,97,108,115,101]=some (mkVal 1 0 [],0):=by kernel_rfl
theorem fits7 (x:List UInt8) (h:x.length≤4096):F146 0 7 (PV.agg [(PV.int 7),(PV.int (0:Int)),(PV.str x),(PV.slice []),(PV.slice []),(PV.slice []),(PV.slice [])])=some (valid x):=by
 have hsm:smallV (PV.agg [(PV.int 7),(PV.int (0:Int)),(PV.str x),(PV.slice []),(PV.slice []),(PV.slice []),(PV.slice [])]):=⟨Nat.zero_le _,by show x.length≤1048576;omega,by show (0:Int)≤0;omega,by show (0:Int)<18446744073709551616;omega⟩
 have hle:decide (x.length≤4096)=true:=decide_eq_true h
 rw [fitsV_eq _ _ hsm]
 congr 1
 unfold fitsV vKind vBits vText vLists
 simp [PV.fld,PV.parts,PV.asInt,PV.asStr,PV.asList,isKind,textKind,hle]
theorem value_np (po:ParOk) (k:Int) (hk:k=1∨k=7∨k=3∨k=4) (t:List PV) (ht:TNm t) (i:Nat) (hi:i≤t.length):NP t (noteValS parV k (ts t i)) (F159 0 k t (i:Int)):=by
 have hl:=ht.len
 have hw:IntKind.wrap .i64 ((i:Int)+1)=((i+1:Nat):Int):=wadd' (by omega)
 unfold F159 noteValS
 simp only [kindN_eq]
 rcases hk with rfl | rfl | rfl | rfl
 · -- bool
  simp only [show ((1:Int)==1)=true from rfl,cond_true,Option.bind_some,show ((1:Int)==7)=false from rfl,show ((1:Int)==4)=false from rfl,show ((1:Int)==3)=false from rfl,cond_false]
  by_cases hlt:i<t.length
  ·simp only [inRange_nat,hlt,decide_true,imp,cond_true,cond_same,Int.toNat_natCast,kind_at hlt,isS_at hlt]
   cases hn:(((t.getD i .bad).fld 0).asInt==1) with
   | true=>
    cases h1:(((t.getD i .bad).fld 1).asStr==[116,114,117,101]) with
    | true=>
     have e:=eq_of_beq h1
     simp only [cond_true,Bool.and_self,e,parB1,Option.bind_some,hw,Bool.not_true,cond_false,cond_same]
     exact .ok _ (i+1) hlt (by rw [ts_tail]) rfl
    | false=>
     cases h2:(((t.getD i .bad).fld 1).asStr==[102,97,108,115,101]) with
     | true=>
      have e:=eq_of_beq h2
      simp only [cond_true,cond_false,Bool.and_false,Bool.and_self,e,parB0,Option.bind_some,hw,Bool.not_false,cond_same]
      exact .ok _ (i+1) hlt (by rw [ts_tail]) rfl
     | false=>
      simp only [cond_true,cond_false,Bool.and_false,Bool.not_false,cond_same]
      exact .er i 2 _ hi (by decide) rfl rfl
   | false=>
    simp only [cond_false,Bool.false_and,cond_same,Bool.not_false,cond_true]
    exact .er i 2 _ hi (by decide) rfl rfl
  ·have:ts t i=[]:=ts_end (by omega)
   simp only [this,kindS,isS,show ((0:Int)==1)=false from rfl,cond_false,imp,Bool.not_false,cond_true,cond_same]
   exact .er i 2 _ hi (by decide) (by rw [this]) rfl
 · -- text
  simp only [show ((7:Int)==1)=false from rfl,show ((7:Int)==7)=true from rfl,cond_false,cond_true,Option.bind_some,imp,Bool.not_false,cond_same]
  cases hn:(kindS (ts t i)==3) with
  | false=>
   simp only [cond_false,show ((7:Int)==4)=false from rfl,show ((7:Int)==3)=false from rfl]
   exact .er i 2 _ hi (by decide) rfl rfl
  | true=>
   have hlt:=kindS_lt (show ((3:Int)==0)=false from rfl) hn
   simp only [inRange_nat,hlt,decide_true,cond_true,Int.toNat_natCast,textS_at hlt]
   obtain ⟨x,hx⟩:∃ x,((t.getD i .bad).fld 1).asStr=x:=⟨_,rfl⟩
   simp only [hx]
   by_cases hle:x.length>4096
   ·have b3:decide ((x.length:Int)>4096)=true:=decide_eq_true (by omega)
    have b4:decide (x.length>4096)=true:=decide_eq_true hle
    simp only [b3,b4,cond_true]
    exact .er i 3 _ hi (by decide) rfl rfl
   ·have b3:decide ((x.length:Int)>4096)=false:=decide_eq_false (by omega)
    have b4:decide (x.length>4096)=false:=decide_eq_false hle
    simp only [b3,b4,cond_false,fits7 x (by omega),Option.bind_some,hw]
    cases valid x with
    | true=>exact .ok _ (i+1) hlt (by rw [cond_true,ts_tail];rfl) rfl
    | false=>exact .er i 7 _ hi (by decide) rfl rfl
 ·have hn:=number_np po 3 (by decide) t ht i hi
  simp only [show ((3:Int)==1)=false from rfl,show ((3:Int)==7)=false from rfl,show ((3:Int)==4)=false from rfl,show ((3:Int)==3)=true from rfl,cond_false,cond_true,Option.bind_some,imp,Bool.not_false,cond_same]
  rcases hn with ⟨v,j,hj,hx,hy⟩ | ⟨j,e,z,hj,he,hx,hy⟩
  ·exact .ok v j hj hx (by simp only [hy,Option.bind_some])
  ·exact .er j e z hj he hx (by simp only [hy,Option.bind_some])
 ·have hn:=number_np po 4 (by decide) t ht i hi
  simp only [show ((4:Int)==1)=false from rfl,show ((4:Int)==7)=false from rfl,show ((4:Int)==4)=true from rfl,cond_false,cond_true,Option.bind_some,imp,Bool.not_false,cond_same]
  rcases hn with ⟨v,j,hj,hx,hy⟩ | ⟨j,e,z,hj,he,hx,hy⟩
  ·exact .ok v j hj hx (by simp only [hy,Option.bind_some])
  ·exact .er j e z hj he hx (by simp only [hy,Option.bind_some])
theorem note_np (po:ParOk) (t:List PV) (ht:TNm t) (i:Nat) (hi:i≤t.length):NP t (noteS parV kindOf (ts t i)) (F78 0 t (i:Int)):=by
 have hl:=ht.len
 have hw:IntKind.wrap .i64 ((i:Int)+1)=((i+1:Nat):Int):=wadd' (by omega)
 have hw2:IntKind.wrap .i64 ((i:Int)+2)=((i+2:Nat):Int):=by rw [wrap64 (by omega) (by omega)];omega
 unfold F78 noteS
 rw [kindN_eq,Option.bind_some]
 by_cases hb:kindS (ts t i)=1
 ·have e1:(kindS (ts t i) != 1)=false:=by rw [hb];rfl
  have e2:(kindS (ts t i)==1)=true:=by rw [hb];rfl
  have hlt:i<t.length:=kindS_lt rfl e2
  simp only [e1,e2,cond_false,cond_true,inRange_nat,hlt,decide_true,Int.toNat_natCast,kind_eq,Option.bind_some,textS_at hlt,hw,hw2,isN_eq]
  generalize hx:((t.getD i .bad).fld 1).asStr=x
  cases hk:(kindOf x==0) with
  | true=>
   simp only [cond_true]
   exact .er i 8 _ hi (by decide) rfl rfl
  | false=>
   have hne:kindOf x≠0:=by simpa using hk
   simp only [cond_false,ts_tail,eatS]
   cases hs:isS 4 [61] (ts t (i+1)) with
   | false=>
    have hm:(if (t.length:Int)<((i+1:Nat):Int) then (t.length:Int) else ((i+1:Nat):Int))=((i+1:Nat):Int):=if_neg (by omega)
    simp only [cond_false,Rs.bind,Bool.not_false,cond_true,hm]
    exact .er (i+1) 2 _ hlt (by decide) rfl rfl
   | true=>
    have hlt2:=isS_lt hs
    simp only [cond_true,Rs.bind,Bool.not_true,cond_false,ts_tail]
    rcases value_np po (kindOf x) (kind_four hne) t ht (i+1+1) hlt2 with ⟨v,j,hj,hx,hy⟩ | ⟨j,e,z,hj,he,hx,hy⟩
    ·rw [show ((i+2:Nat):Int)=((i+1+1:Nat):Int) from rfl,hx,hy]
     exact .ok _ j hj rfl rfl
    ·rw [show ((i+2:Nat):Int)=((i+1+1:Nat):Int) from rfl,hx,hy]
     exact .er j e _ hj he rfl rfl
 ·have e1:(kindS (ts t i) != 1)=true:=bneI hb
  have e2:(kindS (ts t i)==1)=false:=beqI hb
  simp only [e1,e2,cond_true,cond_false]
  exact .er i 2 _ hi (by decide) rfl rfl
inductive NL (t:List PV) (x:Rs (List PV)) (y:Option (List PV×Int×Int)):Prop
 | ok (v:List PV) (j:Nat):j≤t.length→x=.ok v (ts t j)→y=some (v,((j:Nat):Int),0)→NL t x y
 | er (j:Nat) (e:Int):j≤t.length→e≠0→x=.er (ts t j) e→y=some ([],((j:Nat):Int),e)→NL t x y
theorem reads_np (po:ParOk) (t:List PV) (ht:TNm t):∀ (m i:Nat) (acc:List PV),t.length-i≤m→i<t.length→acc.length≤i→NL t (restNotesS parV kindOf (ts t (i+1)) acc) (loopW (S36_5step 0) (t,(i:Int),acc)):=by
 have hl:=ht.len
 intro m
 induction m with
 | zero=>intro i acc hm hi ha;omega
 | succ m ih=>
  intro i acc hm hi ha
  have hw:IntKind.wrap .i64 ((i:Int)+1)=((i+1:Nat):Int):=wadd' (by omega)
  have acm:∀ x:PV,decide (acc.length+[x].length≤accMax)=true:=fun x=>decide_eq_true (by unfold accMax;simp;omega)
  rw [restNotes_eq]
  have hn:=note_np po t ht (i+1) hi
  have hsh:=note_sh parV kindOf (ts t (i+1))
  rcases hn with ⟨v,j,hj,hx,hy⟩ | ⟨j,e,z,hj,he,hx,hy⟩
  ·have hij:i+1<j:=by
    have:=hsh v _ hx
    rw [ts_length,ts_length] at this
    omega
   have hwj:IntKind.wrap .i64 ((j:Int)+1)=((j+1:Nat):Int):=wadd' (by omega)
   simp only [hx,Rs.bind]
   cases h1:isS 4 [93] (ts t j) with
   | true=>
    refine .ok (acc++[v]) (j+1) (isS_lt h1) (by rw [cond_true,ts_tail]) (loopW_end ?_)
    simp only [S36_5step,S36_5,hw,hy,Option.bind_some,show ((0:Int) != 0)=false from rfl,cond_false,acm,cond_true,isN_eq,h1,hwj]
   | false=>
    cases h2:isS 4 [44] (ts t j) with
    | true=>
     have hjl:=isS_lt h2
     have st:S36_5step 0 (t,(i:Int),acc)=some (.inl (t,((j:Nat):Int),acc++[v])):=by
      simp only [S36_5step,S36_5,hw,hy,Option.bind_some,show ((0:Int) != 0)=false from rfl,cond_false,acm,cond_true,isN_eq,h1,h2,Bool.not_true]
     rw [loopW_go st,cond_false,cond_true,ts_tail]
     exact ih j (acc++[v]) (by omega) hjl (by simp;omega)
    | false=>
     refine .er j 2 hj (by decide) rfl (loopW_end ?_)
     simp only [S36_5step,S36_5,hw,hy,Option.bind_some,show ((0:Int) != 0)=false from rfl,cond_false,acm,cond_true,isN_eq,h1,h2,Bool.not_false]
  ·simp only [hx,Rs.bind]
   refine .er j e hj he rfl (loopW_end ?_)
   simp only [S36_5step,S36_5,hw,hy,Option.bind_some,bneI he,cond_true]
theorem readN_np (po:ParOk) (t:List PV) (ht:TNm t) (i:Nat) (hi:i≤t.length):NL t (notesS parV kindOf (ts t i)) (F36 0 t (i:Int)):=by
 unfold F36 notesS
 rw [isN_eq,Option.bind_some]
 cases h:isS 4 [91] (ts t i) with
 | false=>exact .ok [] i hi rfl rfl
 | true=>
  simp only [Bool.not_true,cond_false,cond_true,loopQ0,ts_tail]
  rcases reads_np po t ht _ i [] (Nat.le_refl _) (isS_lt h) (by simp) with ⟨v,j,hj,hx,hy⟩ | ⟨j,e,hj,he,hx,hy⟩
  ·exact .ok v j hj hx (by rw [hy];rfl)
  ·exact .er j e hj he hx (by rw [hy];rfl)
end Go.Ab
namespace Go.Ab
open Go Go.Proofs
set_option maxRecDepth 100000
end Go.Ab
namespace Go.Ab
open Go
set_option maxRecDepth 100000
end Go.Ab
namespace Go.Ab
open Go
set_option maxRecDepth 100000
theorem Par.seq {α β R R':Type} {t:List PV} {q:QF} {mk:α→Q0→R} {mk':β→Q0→R'} {x:Rs α} {y:Option (R⊕(PV×Q0))} {f:α→List Tk→Rs β} {g:R→Option (R'⊕(PV×Q0))} (h:Par t q mk x y)
 (hc:∀ v j,j≤t.length→x=.ok v (ts t j)→Par t q mk' (f v (ts t j)) (g (mk v (t,((j:Nat):Int),q)))):Par t q mk' (x.bind f) (y.bind fun z=>sumE g (fun e=>some (.inr e)) z):=by
 rcases h with ⟨v,j,hj,hx,hy⟩ | ⟨j,e,hj,he,hx,hy⟩
 ·have:=hc v j hj hx
  rw [hx,hy]
  exact this
 ·rw [hx,hy]
  exact .er j e hj he rfl rfl
theorem Par.map {α β R R':Type} {t:List PV} {q:QF} {mk:α→Q0→R} {mk':β→Q0→R'} {x:Rs α} {y:Option (R⊕(PV×Q0))} {f:α→β} {g:R→R'} (h:Par t q mk x y)
 (hc:∀ v s,g (mk v s)=mk' (f v) s):Par t q mk' (x.bind fun v r=>.ok (f v) r) (y.bind fun z=>sumE (fun a=>some (.inl (g a))) (fun e=>some (.inr e)) z):=
 h.seq fun v j hj hx=>.ok (f v) j hj rfl (by rw [hc])
end Go.Ab
namespace Go.Ab
open Go
set_option maxRecDepth 100000
inductive RPar {α R:Type} (t:List PV) (q:QF) (mk:α→Q4→R) (x:Rs α) (y:Option R):Prop
 | ok (v:α) (j:Nat):j≤t.length→x=.ok v (ts t j)→y=some (mk v (t,((j:Nat):Int),0,q))→RPar t q mk x y
 | er (j:Nat) (e:Int) (v:α):j≤t.length→e≠0→x=.er (ts t j) e→y=some (mk v (t,((j:Nat):Int),e,q))→RPar t q mk x y
structure RF {α R:Type} (t:List PV) (q:QF) (mk:α→Q4→R) (c:Prop) (f:List Tk→Rs α) (F:Q4→Option R):Prop where
 rp:c→∀ i:Nat,i≤t.length→RPar t q mk (f (ts t i)) (F (t,(i:Int),0,q))
 st:∀ (j:Nat) (e:Int),j≤t.length→e≠0→∃ v,F (t,(j:Int),e,q)=some (mk v (t,(j:Int),e,q))
section
variable {t:List PV} {q:QF} {c:Prop}
theorem RF.bind {α β R R':Type} {mk:α→Q4→R} {mk':β→Q4→R'} {f:List Tk→Rs α} {F:Q4→Option R} {f2:α→List Tk→Rs β} {g:R→Option R'} (h:RF t q mk c f F)
 (hc:∀ v,RF t q mk' (c∧∃ i j,i≤t.length∧j≤t.length∧f (ts t i)=.ok v (ts t j)) (f2 v) (fun s=>g (mk v s))):RF t q mk' c (fun r=>(f r).bind f2) (fun s=>(F s).bind g):=by
 refine ⟨fun hq i hi=>?_,fun j e hj he=>?_⟩
 ·rcases h.rp hq i hi with ⟨v,j,hj,hx,hy⟩ | ⟨j,e,v,hj,he,hx,hy⟩
  ·simp only [hx,hy,Rs.bind_ok,Option.bind_some]
   exact (hc v).rp ⟨hq,i,j,hi,hj,hx⟩ j hj
  ·simp only [hx,hy,Rs.bind_er,Option.bind_some]
   obtain ⟨w,hw⟩:=(hc v).st j e hj he
   exact .er j e w hj he rfl hw
 ·obtain ⟨v,hv⟩:=h.st j e hj he
  obtain ⟨w,hw⟩:=(hc v).st j e hj he
  exact ⟨w,by simp only [hv,Option.bind_some];exact hw⟩
theorem RF.imp {α R:Type} {mk:α→Q4→R} {c':Prop} {f:List Tk→Rs α} {F:Q4→Option R} (h:RF t q mk c f F) (hc:c'→c):RF t q mk c' f F:=⟨fun x=>h.rp (hc x),h.st⟩
theorem RF.ret {α β R:Type} {mk:α→Q4→R} (v:α):RF t q mk c (fun r=>.ok v r) (fun s=>some (mk v s)):=⟨fun _ i hi=>.ok v i hi rfl rfl,fun j e _ _=>⟨v,rfl⟩⟩
theorem RF.congr {α R:Type} {mk:α→Q4→R} {f f':List Tk→Rs α} {F F':Q4→Option R} (h:RF t q mk c f F) (hf:∀ r,f' r=f r) (hF:∀ s,F' s=F s):RF t q mk c f' F':=
 ⟨fun hc i hi=>by rw [hf,hF];exact h.rp hc i hi,fun j e hj he=>by rw [hF];exact h.st j e hj he⟩
end
end Go.Ab
namespace Go.Ab
open Go
set_option maxRecDepth 100000
section
variable {t:List PV} {q:QF} {c:Prop}
end
end Go.Ab
