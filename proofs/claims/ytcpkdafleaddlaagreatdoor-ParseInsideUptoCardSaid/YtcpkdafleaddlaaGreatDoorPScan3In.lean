/- The scanner on texts that are written token by token: texts, the loop. -/
import Derived.Test.YtcpkdafleaddlaaGreatDoorPUtfIn
import Derived.Test.YtcpkdafleaddlaaGreatDoorAbEqL
import Derived.Test.YtcpkdafleaddlaaGreatDoorGenIn
import Derived.Test.YtcpkdafleaddlaaGreatDoorAbPlain
set_option linter.unusedVariables false
set_option linter.unusedSimpArgs false
set_option linter.unnecessarySimpa false
namespace Go.Ab
open Go
set_option maxRecDepth 100000
theorem a4d:((List.range 16).all fun h=>(F305 0 ((hexd h).toNat:Int))==some (h:Int))=true:=by kernel_rfl
theorem axh {h:Nat} (hh:h<16):F305 0 ((hexd h).toNat:Int)=some (h:Int):=by
 have:=List.all_eq_true.1 a4d h (List.mem_range.2 hh)
 simpa using this
theorem ba2:((List.range 256).all fun b=>IntKind.wrap .u8 (af0 .or .i64 (IntKind.wrap .i64 (((b / 16:Nat):Int)*2^(min (4:Int).toNat (IntKind.bits .i64)))) ((b%16:Nat):Int))==(b:Int))=true:=by kernel_rfl
theorem bai {b:Nat} (h:b<256):IntKind.wrap .u8 (af0 .or .i64 (IntKind.wrap .i64 (((b / 16:Nat):Int)*2^(min (4:Int).toNat (IntKind.bits .i64)))) ((b%16:Nat):Int))=(b:Int):=by
 have:=List.all_eq_true.1 ba2 b (List.mem_range.2 h)
 simpa using this
theorem esc2 {src:List UInt8}{i:Nat}{e:UInt8}{q:List UInt8} (hl:src.length<=1048576) (h:src.drop i=92::e::q) {v:Int} (hv:F304 0 ((e.toNat:Nat):Int)=some (v,true)):F237 0 src (i:Int)=some (v,2):=by
 obtain ⟨h1,_,h2⟩:=ab6 0 h
 obtain ⟨h3,h4,_⟩:=ab6 0 h2
 have w1:IntKind.wrap .i64 ((i:Int)+1)=((i+1:Nat):Int):=ab2 (by omega)
 have d1:decide (((i+1:Nat):Int)≥(src.length:Int))=false:=decide_eq_false (by omega)
 have d2:aaa ((i+1:Nat):Int) src.length=true:=by rw [aab];exact decide_eq_true h3
 unfold F237
 simp only [w1,d1,d2,cond_true,cond_false,Int.toNat_natCast,h4,hv,Option.bind_some]
theorem escX {src:List UInt8}{i:Nat}{b:UInt8}{q:List UInt8} (hl:src.length<=1048576) (h:src.drop i=92::120::(hex2 b.toNat++q)):F237 0 src (i:Int)=some ((b.toNat:Int),4):=by
 have h:src.drop i=92::120::hexd (b.toNat / 16)::hexd (b.toNat%16)::q:=h
 have hb:=b.toNat_lt
 obtain ⟨h1,_,h2⟩:=ab6 0 h
 obtain ⟨h3,h4,h5⟩:=ab6 0 h2
 obtain ⟨h6,h7,h8⟩:=ab6 0 h5
 obtain ⟨h9,h10,_⟩:=ab6 0 h8
 have w1:IntKind.wrap .i64 ((i:Int)+1)=((i+1:Nat):Int):=ab2 (by omega)
 have w2:IntKind.wrap .i64 ((i:Int)+2)=((i+1+1:Nat):Int):=by rw [abf (by omega) (by omega)];omega
 have w3:IntKind.wrap .i64 ((i:Int)+3)=((i+1+1+1:Nat):Int):=by rw [abf (by omega) (by omega)];omega
 have d1:decide (((i+1:Nat):Int)≥(src.length:Int))=false:=decide_eq_false (by omega)
 have d3:decide (((i+1+1+1:Nat):Int)≥(src.length:Int))=false:=decide_eq_false (by omega)
 have r1:aaa ((i+1:Nat):Int) src.length=true:=by rw [aab];exact decide_eq_true h3
 have r2:aaa ((i+1+1:Nat):Int) src.length=true:=by rw [aab];exact decide_eq_true h6
 have r3:aaa ((i+1+1+1:Nat):Int) src.length=true:=by rw [aab];exact decide_eq_true h9
 have hp:F304 0 (((120:UInt8).toNat:Nat):Int)=some (0,false):=rfl
 have hx:((((120:UInt8).toNat:Nat):Int) != (120:Int))=false:=rfl
 have v1:=axh (h:=b.toNat / 16) (by omega)
 have v2:=axh (h:=b.toNat%16) (by omega)
 have n1:decide (((b.toNat / 16:Nat):Int)<0)=false:=decide_eq_false (by omega)
 have n2:decide (((b.toNat%16:Nat):Int)<0)=false:=decide_eq_false (by omega)
 unfold F237
 simp only [w1,w2,w3,d1,d3,r1,r2,r3,cond_true,cond_false,Int.toNat_natCast,h4,h7,h10,hp,hx,v1,v2,n1,n2,imp,Bool.not_false,Bool.true_or,aah,Option.bind_some,bai hb]
theorem a6v {src:List UInt8} (hl:src.length<=1048576) {i:Nat}{acc:List PV} (ha:acc.length<=i) {b:UInt8}{c q:List UInt8} (hc:al7 b c) (h:src.drop i=c++q):S131_6step 0 (src,acc,(i:Int))=some (.inl (src,acc++[PV.int (b.toNat:Int)],((i+c.length:Nat):Int))):=by
 have ne:c≠[]:=by
  rcases hc with ⟨rfl,_⟩ | ⟨_,rfl⟩ | ⟨_,rfl⟩ | ⟨_,rfl⟩ | ⟨_,rfl⟩ | ⟨_,rfl⟩ | rfl<;>simp
 have hi:i<src.length:=by
  have:=congrArg List.length h
  rw [List.length_drop,List.length_append] at this
  have:0<c.length:=List.length_pos_iff.2 ne
  omega
 have e1:decide ((i:Int)<(src.length:Int))=true:=decide_eq_true (by omega)
 have e2:aaa (i:Int) src.length=true:=by rw [aab];exact decide_eq_true hi
 have ea:∀ x:PV,decide (acc.length+[x].length<=aal)=true:=fun x=>decide_eq_true (by simp only [List.length_cons,List.length_nil];unfold aal;omega)
 have esc:∀ (e:UInt8) (r:List UInt8) (v:Int),src.drop i=92::e::r->F237 0 src (i:Int)=some (v,2)->S131_6step 0 (src,acc,(i:Int))=some (.inl (src,acc++[PV.int v],((i+2:Nat):Int))):=fun e r v hd hv=>by
  obtain ⟨_,h4,_⟩:=ab6 0 hd
  have w:IntKind.wrap .i64 ((i:Int)+2)=((i+2:Nat):Int):=by rw [abf (by omega) (by omega)];omega
  simp only [S131_6step,S131_6,e1,e2,ea,h4,hv,w,imp,cond_true,cond_false,Bool.not_true,Bool.true_or,aah,Option.bind_some,Int.toNat_natCast]
  rfl
 rcases hc with ⟨rfl,b1,b2⟩ | ⟨rfl,rfl⟩ | ⟨rfl,rfl⟩ | ⟨rfl,rfl⟩ | ⟨rfl,rfl⟩ | ⟨rfl,rfl⟩ | rfl
 ·obtain ⟨_,h4,_⟩:=ab6 0 (show src.drop i=b::q from h)
  have w:IntKind.wrap .i64 ((i:Int)+1)=((i+1:Nat):Int):=ab2 (by omega)
  have g1:((b.toNat:Int) != (34:Int))=true:=by
   show (!((b.toNat:Int)==(34:Int)))=true
   rw [bqI (c:=b) (k:=34) (n:=34) rfl,beq_eq_false_iff_ne.2 b1];rfl
  have g2:((b.toNat:Int)==(92:Int))=false:=by rw [bqI (c:=b) (k:=92) (n:=92) rfl];exact beq_eq_false_iff_ne.2 b2
  simp only [S131_6step,S131_6,e1,e2,ea,h4,w,g1,g2,imp,cond_true,cond_false,Bool.not_true,Bool.true_or,aah,Option.bind_some,Int.toNat_natCast]
  rfl
 ·exact esc _ _ _ h (esc2 hl h rfl)
 ·exact esc _ _ _ h (esc2 hl h rfl)
 ·exact esc _ _ _ h (esc2 hl h rfl)
 ·exact esc _ _ _ h (esc2 hl h rfl)
 ·exact esc _ _ _ h (esc2 hl h rfl)
 ·have hv:=escX (b:=b) (q:=q) hl h
  obtain ⟨_,h4,_⟩:=ab6 0 (show src.drop i=92::(120::(hex2 b.toNat++q)) from h)
  have w:IntKind.wrap .i64 ((i:Int)+4)=((i+4:Nat):Int):=by rw [abf (by omega) (by omega)];omega
  simp only [S131_6step,S131_6,e1,e2,ea,h4,hv,w,imp,cond_true,cond_false,Bool.not_true,Bool.true_or,aah,Option.bind_some,Int.toNat_natCast]
  rfl
theorem a4x {src:List UInt8} (hl:src.length<=1048576) {a x:List UInt8} (hc:Codes a x):∀ (i:Nat) (acc:List PV) (s:List UInt8),src.drop i=x++34::s->acc.length<=i->abi (S131_6step 0) (src,acc,(i:Int))=some (.inr (src,acc++a.map (fun c=>PV.int (c.toNat:Int)),((i+x.length:Nat):Int))):=by
 induction hc with
 | nil=>
  intro i acc s h ha
  obtain ⟨hi,h4,_⟩:=ab6 0 (show src.drop i=34::s from h)
  have e1:decide ((i:Int)<(src.length:Int))=true:=decide_eq_true (by omega)
  have e2:aaa (i:Int) src.length=true:=by rw [aab];exact decide_eq_true hi
  have g1:((((34:UInt8).toNat:Nat):Int) != (34:Int))=false:=rfl
  refine (aac (y:=.inr (src,acc,(i:Int))) ?_).trans (by simp)
  simp only [S131_6step,S131_6,e1,e2,h4,g1,imp,cond_true,cond_false,Bool.not_true,Bool.true_or,aah,Option.bind_some,Int.toNat_natCast]
 | @cons b c r q hb hr ih=>
  intro i acc s h ha
  rw [List.append_assoc] at h
  have st:=a6v hl ha hb h
  have hn:src.drop (i+c.length)=q++34::s:=by
   rw [<-List.drop_drop,h,List.drop_left]
  have hp:0<c.length:=by
   rcases hb with ⟨rfl,_⟩ | ⟨_,rfl⟩ | ⟨_,rfl⟩ | ⟨_,rfl⟩ | ⟨_,rfl⟩ | ⟨_,rfl⟩ | rfl<;>simp
  rw [aax st,ih (i+c.length) _ s hn (by simp;omega)]
  simp [Nat.add_assoc]
theorem aou {a:List UInt8} (ha:a.length<=1048576) (s:List UInt8) (hl:(aa6 a++s).length<=1048576):F131 0 (aa6 a++s)=some (a,(((aa6 a).length:Nat):Int),0):=by
 have hq:aa6 a=34::(aar a 0++[34]):=by unfold aa6;rfl
 have hlen:(aa6 a).length=(aar a 0).length+2:=by rw [hq];simp
 have hc:=aet a a.length 0 (by omega)
 rw [List.drop_zero] at hc
 have hd:(aa6 a++s).drop 1=aar a 0++34::s:=by rw [hq];simp
 have lp:abi (S131_6step 0) (aa6 a++s,[],(1:Int))=some (.inr (aa6 a++s,[]++a.map (fun c:UInt8=>PV.int (c.toNat:Int)),((1+(aar a 0).length:Nat):Int))):=a4x hl hc 1 [] s hd (by simp)
 have hall:(aa6 a++s).length=(aar a 0).length+2+s.length:=by rw [List.length_append,hlen]
 have e0:((aa6 a++s)==([]:List UInt8))=false:=by rw [hq];rfl
 have e1:aaa (0:Int) (aa6 a++s).length=true:=by rw [hq,List.cons_append,in0]
 have e2:((((aa6 a++s).getD (0:Int).toNat 0).toNat:Int) != (34:Int))=false:=by rw [hq];rfl
 have e3:([]++a.map (fun c:UInt8=>PV.int (c.toNat:Int))).map aan=a:=by
  rw [List.nil_append,List.map_map]
  refine (List.map_congr_left (g:=id) (fun x _=>ahe x)).trans (List.map_id _)
 have e4:decide (((1+(aar a 0).length:Nat):Int)≥((aa6 a++s).length:Int))=false:=decide_eq_false (by omega)
 have w:IntKind.wrap .i64 (((1+(aar a 0).length:Nat):Int)+1)=(((aa6 a).length:Nat):Int):=by rw [ab2 (by omega),hlen];congr 1;omega
 have e5:decide (0<=(0:Int)/\(0:Int)<=(((aa6 a).length:Nat):Int)/\(((aa6 a).length:Nat):Int)<=((aa6 a++s).length:Int))=true:=decide_eq_true (by omega)
 have e6:((aa6 a++s).take (((aa6 a).length:Nat):Int).toNat).drop (0:Int).toNat=aa6 a:=by
  rw [Int.toNat_natCast,List.take_left];rfl
 unfold F131
 rw [aaq,lp]
 simp only [e0,e1,e2,imp,Bool.not_false,Bool.true_or,aah,cond_true,cond_false,Option.bind_some,aa3,e3,e4,aqu a ha,w,e5,e6,beq_self_eq_true,Bool.not_true]
end Go.Ab
namespace Go.Ab
open Go
set_option maxRecDepth 100000
end Go.Ab
namespace Go.Ab
open Go
set_option maxRecDepth 100000
theorem awk (s:List UInt8) (neg:Bool) (V:Nat) (hV:V<18446744073709551616) (hd:∀ c,c∈s->aio c) (hl:s.length<=1048576):∀ (m i acc:Nat),s.length-i<=m->i<=s.length->valD acc (s.drop i)=V->
 abi (S365_9step 0) (s,neg,(acc:Int),false,(i:Int))=some (.inr (neg,(V:Int),false)):=by
 intro m
 induction m with
 | zero=>
  intro i acc hm hi hv
  have hlt:¬i<s.length:=by omega
  rw [List.drop_eq_nil_of_le (by omega)] at hv
  have e:acc=V:=hv
  subst e
  exact aac (by simp only [S365_9step,S365_9,ac0,hlt,decide_false,cond_false])
 | succ m ih=>
  intro i acc hm hi hv
  by_cases hlt:i<s.length
  ·rw [aau hlt 0] at hv
   have hc:aio (s.getD i 0):=hd _ (by rw [afx hlt];exact List.getElem_mem _)
   generalize hx:s.getD i 0=c at hv hc
   have hv':valD (acc*10+(c.toNat-48)) (s.drop (i+1))=V:=hv
   have hs:acc*10+(c.toNat-48)<=V:=by rw [<-hv'];exact a0j _ _
   unfold aio at hc
   obtain ⟨d,hdd⟩:∃ d:Nat,c.toNat=48+d:=⟨c.toNat-48,by omega⟩
   rw [<-ih (i+1) (acc*10+(c.toNat-48)) (by omega) (by omega) hv']
   rw [hdd] at hs hc ⊢
   have d1:decide (((48+d:Nat):Int)<(48:Int))=false:=decide_eq_false (by omega)
   have d2:decide (((48+d:Nat):Int)>(57:Int))=false:=decide_eq_false (by omega)
   have w1:IntKind.wrap .u64 (IntKind.wrap .u8 (((48+d:Nat):Int)-(48:Int)))=(d:Int):=by rw [IntKind.wrap_u8,IntKind.wrap_u64];omega
   have w2:IntKind.wrap .u64 ((18446744073709551615:Int)-(d:Int))=((18446744073709551615-d:Nat):Int):=by rw [IntKind.wrap_u64];omega
   have w3:IntKind.wrap .u64 (((18446744073709551615-d:Nat):Int).tdiv (10:Int))=(((18446744073709551615-d) / 10:Nat):Int):=by
    rw [show ((18446744073709551615-d:Nat):Int).tdiv (10:Int)=(((18446744073709551615-d) / 10:Nat):Int) from rfl,IntKind.wrap_u64];omega
   have d3:decide ((acc:Int)>(((18446744073709551615-d) / 10:Nat):Int))=false:=decide_eq_false (by omega)
   have w4:IntKind.wrap .u64 ((10:Int)*(acc:Int))=((10*acc:Nat):Int):=by rw [IntKind.wrap_u64];omega
   have w5:IntKind.wrap .u64 (((10*acc:Nat):Int)+(d:Int))=((acc*10+(48+d-48):Nat):Int):=by rw [IntKind.wrap_u64];omega
   refine aax ?_
   simp only [S365_9step,S365_9,ac0,aab,hlt,decide_true,cond_true,Int.toNat_natCast,hx,hdd,d1,d2,d3,w1,w2,w3,w4,w5,imp,Bool.not_false,cond_false,ax3 (i:=i) (by omega)]
  ·have e:acc=V:=by rw [List.drop_eq_nil_of_le (by omega)] at hv;exact hv
   subst e
   exact aac (by simp only [S365_9step,S365_9,ac0,hlt,decide_false,cond_false])
theorem ap6 (u:Nat) (hu:u<18446744073709551616):(Lib.decDigits u).length<=20:=by
 rw [<-anj (by omega)];exact ap8 u
theorem a8v (u:Nat) (hu:u<18446744073709551616):F365 0 (Lib.decDigits u)=some ((u:Int),false,0):=by
 obtain ⟨h1,h2,h3,h4⟩:=ahk u
 have hlen:=ap6 u hu
 have hloop:=awk (Lib.decDigits u) false u hu h1 (by omega) (Lib.decDigits u).length 0 0 (by omega) (by omega) (by rw [List.drop_zero];exact h2)
 have hz:u=0->Lib.decDigits u=[48]:=fun h=>by subst h;rw [Lib.decDigits];rfl
 generalize Lib.decDigits u=s at*
 match s,h3 with
 | c::r,_=>
  have hc:=h1 c (by simp)
  unfold aio at hc
  have k45:((c.toNat:Int)==(45:Int))=false:=by simp;omega
  have hp:decide (((c::r).length:Int)>(0:Int))=true:=decide_eq_true (by simp)
  have hi:aaa (0:Int) (c::r).length=true:=by rw [show (0:Int)=((0:Nat):Int) from rfl,aab];exact decide_eq_true (by simp)
  have hg:((c::r).getD (0:Int).toNat 0)=c:=rfl
  have hn:((c::r)==([]:List UInt8))=false:=rfl
  have ht:(bif ((c.toNat:Int)==(48:Int)) then (!((c::r)==([48]:List UInt8))) else false)=false:=by
   by_cases h0:u=0
   ·rw [hz h0];simp
   ·have:=h4 h0 c rfl
    have:((c.toNat:Int)==(48:Int))=false:=by simp;omega
    rw [this];rfl
  rw [show ((0:Nat):Int)=(0:Int) from rfl] at hloop
  unfold F365
  simp only [hp,imp,hi,cond_true,hg,k45,cond_false,hn,Bool.not_false,ht,aaq,hloop,Option.bind_some,aa3]
theorem a8m (u:Nat) (hu:u<18446744073709551616):F365 0 (45::Lib.decDigits u)=some (if u=0 then (0,false,2) else ((u:Int),true,0)):=by
 obtain ⟨h1,h2,h3,h4⟩:=ahk u
 have hlen:=ap6 u hu
 have hloop:=awk (Lib.decDigits u) true u hu h1 (by omega) (Lib.decDigits u).length 0 0 (by omega) (by omega) (by rw [List.drop_zero];exact h2)
 have hz:u=0->Lib.decDigits u=[48]:=fun h=>by subst h;rw [Lib.decDigits];rfl
 generalize Lib.decDigits u=s at*
 match s,h3 with
 | c::r,_=>
  have hc:=h1 c (by simp)
  unfold aio at hc
  have k45:(((45:UInt8).toNat:Int)==(45:Int))=true:=rfl
  have hp:decide (((45::c::r).length:Int)>(0:Int))=true:=decide_eq_true (by simp;omega)
  have hi:aaa (0:Int) (45::c::r).length=true:=by rw [show (0:Int)=((0:Nat):Int) from rfl,aab];exact decide_eq_true (by simp)
  have hi2:aaa (0:Int) (c::r).length=true:=by rw [show (0:Int)=((0:Nat):Int) from rfl,aab];exact decide_eq_true (by simp)
  have hg:((45::c::r).getD (0:Int).toNat 0)=45:=rfl
  have hg2:((c::r).getD (0:Int).toNat 0)=c:=rfl
  have hsl:decide ((0:Int)<=(1:Int)/\(1:Int)<=((45::c::r).length:Int)/\((45::c::r).length:Int)<=((45::c::r).length:Int))=true:=decide_eq_true (by simp;omega)
  have htk:((45::c::r).take ((45::c::r).length:Int).toNat).drop (1:Int).toNat=c::r:=by rw [Int.toNat_natCast,List.take_length];rfl
  have hn:((c::r)==([]:List UInt8))=false:=rfl
  have hne:((45::c::r)==([48]:List UInt8))=false:=rfl
  rw [show ((0:Nat):Int)=(0:Int) from rfl] at hloop
  by_cases h0:u=0
  ·have hcc:c=48:=by have:=hz h0;simp at this;exact this.1
   have ht:((c.toNat:Int)==(48:Int))=true:=by rw [hcc];rfl
   unfold F365
   simp only [hp,imp,hi,hi2,cond_true,hg,hg2,k45,hsl,htk,hn,Bool.not_false,cond_false,ht,hne,h0,if_true]
  ·have:=h4 h0 c rfl
   have ht:((c.toNat:Int)==(48:Int))=false:=by simp;omega
   unfold F365
   simp only [hp,imp,hi,hi2,cond_true,hg,hg2,k45,hsl,htk,hn,Bool.not_false,cond_false,ht,aaq,hloop,Option.bind_some,aa3,h0,if_false]
end Go.Ab
namespace Go.Ab
open Go
set_option maxRecDepth 100000
def aix:PV:=PV.agg [(PV.int (0:Int)),(PV.int (0:Int)),(PV.str ([]:List UInt8)),(PV.slice []),(PV.slice []),(PV.slice []),(PV.slice [])]
def mkV (k b:Int):PV:=PV.agg [(PV.int k),(PV.int b),(PV.str ([]:List UInt8)),(PV.slice []),(PV.slice []),(PV.slice []),(PV.slice [])]
def signed (neg:Bool) (l:List UInt8):List UInt8:=if neg=true then 45::l else l
theorem a0r (k:Int) {b:Int} (h0:0<=b) (h1:b<18446744073709551616):aw9 (mkV k b):=⟨Nat.zero_le _,Nat.zero_le _,h0,h1⟩
theorem atb (neg:Bool) (u:Nat) (hu:u<18446744073709551616):F365 0 (signed neg (Lib.decDigits u))=some (if neg=true/\u=0 then (0,false,2) else ((u:Int),neg,0)):=by
 cases neg with
 | false=>simp only [signed,Bool.false_eq_true,if_false,false_and];exact a8v u hu
 | true=>simp only [signed,if_true,true_and];exact a8m u hu
end Go.Ab
namespace Go.Ab
open Go
set_option maxRecDepth 100000
theorem a6y (l:List UInt8):F141 0 (45::l) [45]=some l:=by
 unfold F141 F245 F297
 have h1:decide (((45::l:List UInt8).length:Int)≥(([45]:List UInt8).length:Int))=true:=decide_eq_true (by simp;omega)
 have h2:decide ((0:Int)<=0/\(0:Int)<=(([45]:List UInt8).length:Int)/\(([45]:List UInt8).length:Int)<=((45::l:List UInt8).length:Int))=true:=decide_eq_true (by simp;omega)
 have h3:decide ((0:Int)<=(([45]:List UInt8).length:Int)/\(([45]:List UInt8).length:Int)<=((45::l:List UInt8).length:Int)/\((45::l:List UInt8).length:Int)<=((45::l:List UInt8).length:Int))=true:=decide_eq_true (by simp;omega)
 have h4:(((45::l:List UInt8).take ((([45]:List UInt8).length:Int)).toNat).drop (0:Int).toNat==([45]:List UInt8))=true:=by
  simp
 have h5:((45::l:List UInt8).take ((45::l:List UInt8).length:Int).toNat).drop ((([45]:List UInt8).length:Int)).toNat=l:=by
  rw [show (((45::l:List UInt8).length:Int)).toNat=(45::l:List UInt8).length from Int.toNat_natCast _,List.take_length];rfl
 simp only [h1,h2,h3,h4,h5,imp,cond_true,Option.bind_some]
theorem a5h (c:UInt8) (l:List UInt8) (hc:c≠45):F141 0 (c::l) [45]=some (c::l):=by
 unfold F141 F245 F297
 have h1:decide (((c::l:List UInt8).length:Int)≥(([45]:List UInt8).length:Int))=true:=decide_eq_true (by simp;omega)
 have h2:decide ((0:Int)<=0/\(0:Int)<=(([45]:List UInt8).length:Int)/\(([45]:List UInt8).length:Int)<=((c::l:List UInt8).length:Int))=true:=decide_eq_true (by simp;omega)
 have h4:(((c::l:List UInt8).take ((([45]:List UInt8).length:Int)).toNat).drop (0:Int).toNat==([45]:List UInt8))=false:=by
  simp [hc]
 simp only [h1,h2,h4,imp,cond_true,cond_false,Option.bind_some]
theorem a5g (s:List UInt8) (hd:∀ c,c∈s->aio c) (hl:s.length<=1048576):∀ (m i:Nat),s.length-i<=m->i<=s.length->
 abi (S357_6step 0) (s,(s.length:Int),(i:Int))=some (.inr ()):=by
 intro m
 induction m with
 | zero=>
  intro i hm hi
  have hlt:¬i<s.length:=by omega
  exact aac (by simp only [S357_6step,S357_6,ac0,hlt,decide_false,cond_false])
 | succ m ih=>
  intro i hm hi
  by_cases hlt:i<s.length
  ·have hc:aio (s.getD i 0):=hd _ (by rw [afx hlt];exact List.getElem_mem _)
   generalize hx:s.getD i 0=c at hc
   unfold aio at hc
   have d1:decide ((c.toNat:Int)<(48:Int))=false:=decide_eq_false (by omega)
   have d2:decide ((c.toNat:Int)>(57:Int))=false:=decide_eq_false (by omega)
   rw [aax (x1:=(s,(s.length:Int),((i+1:Nat):Int))),ih (i+1) (by omega) (by omega)]
   simp only [S357_6step,S357_6,ac0,aab,hlt,decide_true,cond_true,Int.toNat_natCast,hx,d1,d2,imp,Bool.not_false,cond_false,ax3 (i:=i) (by omega)]
  ·exact aac (by simp only [S357_6step,S357_6,ac0,hlt,decide_false,cond_false])
theorem ax9 (neg:Bool) (u:Nat) (hu:u<18446744073709551616):F357 0 (signed neg (Lib.decDigits u))=some (!(neg&&decide (u=0))):=by
 obtain ⟨h1,h2,h3,h4⟩:=ahk u
 have hlen:=ap6 u hu
 have hloop:=a5g (Lib.decDigits u) h1 (by omega) (Lib.decDigits u).length 0 (by omega) (by omega)
 have hz:u=0->Lib.decDigits u=[48]:=fun h=>by subst h;rw [Lib.decDigits];rfl
 generalize Lib.decDigits u=s at*
 match s,h3 with
 | c::r,_=>
  have hc:=h1 c (by simp)
  unfold aio at hc
  have hne:c≠45:=fun h=>by subst h;simp at hc
  have hi:aaa (0:Int) (c::r).length=true:=by rw [show (0:Int)=((0:Nat):Int) from rfl,aab];exact decide_eq_true (by simp)
  have hg:((c::r).getD (0:Int).toNat 0)=c:=rfl
  have hn:((c::r)==([]:List UInt8))=false:=rfl
  rw [show ((0:Nat):Int)=(0:Int) from rfl] at hloop
  have ht:F141 0 (signed neg (c::r)) [45]=some (c::r):=by
   cases neg with
   | true=>exact a6y _
   | false=>exact a5h c r hne
  unfold F357
  rw [ht]
  by_cases h0:u=0
  ·have hz:=hz h0
   simp at hz
   obtain ⟨rfl,rfl⟩:=hz
   cases neg with
   | true=>simp only [signed,if_true,Option.bind_some];rw [h0];rfl
   | false=>
    have e48:((([48]:List UInt8))==[48])=true:=rfl
    simp only [signed,Bool.false_eq_true,if_false,Option.bind_some,hn,hi,imp,Bool.not_false,cond_true,cond_false,hg,e48,Bool.not_true,aah,aaq,hloop,aa3,Bool.false_and]
  ·have:=h4 h0 c rfl
   have hk:((c.toNat:Int)==(48:Int))=false:=by simp;omega
   simp only [Option.bind_some,hn,hi,imp,Bool.not_false,cond_true,cond_false,hg,hk,aaq,hloop,aa3,h0,decide_false,Bool.and_false]
theorem azf (neg:Bool) (u:Nat) (hu:u<18446744073709551616):(signed neg (Lib.decDigits u)).length<=21:=by
 have:=ap6 u hu
 unfold signed
 split
 ·simp;omega
 ·omega
theorem ar0 (s:List UInt8) (hs:s.length<=1048576):af1 0 s 10 64=some (ao3 s (Lib.parseIntB 64 s)):=by
 unfold af1
 have:Nat.ble s.length 281474976710656=true:=Nat.ble_eq_true_of_le (by omega)
 simp [this]
theorem ajg (s:List UInt8) (hs:s.length<=1048576):acf 0 s 10 64=some (ab8 (Lib.parseUintB 64 s)):=by
 unfold acf
 have:Nat.ble s.length 281474976710656=true:=Nat.ble_eq_true_of_le (by omega)
 simp [this]
end Go.Ab
namespace Go.Ab
open Go
end Go.Ab
namespace Go.Ab
open Go
set_option maxRecDepth 100000
def axj (t:PV):Int:=(t.fld 0).asInt
def a9u (t:PV):List UInt8:=(t.fld 1).asStr
def sgn (t:List PV) (i:Nat) (s:List UInt8):Bool:=decide (i<t.length)&&((axj (t.getD i .bad)==4)&&(a9u (t.getD i .bad)==s))
theorem bas (t:List PV) (i:Nat) (s:List UInt8):F77 0 t (i:Int) s=some (sgn t i s):=by
 unfold F77 sgn
 have h0:decide ((i:Int)≥0)=true:=decide_eq_true (by omega)
 have e0:((t.getD i .bad).fld 0).asInt=axj (t.getD i .bad):=rfl
 have e1:((t.getD i .bad).fld 1).asStr=a9u (t.getD i .bad):=rfl
 by_cases hlt:i<t.length
 ·simp only [h0,ac0,hlt,decide_true,cond_true,imp,aab,Int.toNat_natCast,e0,e1,Bool.true_and]
  cases (axj (t.getD i .bad)==4)<;>simp
 ·simp only [h0,ac0,hlt,decide_false,cond_true,cond_false,imp,Bool.not_false,Bool.false_and,aah]
theorem axr (t:List PV) (i:Nat):F158 0 t (i:Int)=some (if i<t.length then axj (t.getD i .bad) else 0):=by
 unfold F158
 have h0:decide ((i:Int)<0)=false:=decide_eq_false (by omega)
 have e0:((t.getD i .bad).fld 0).asInt=axj (t.getD i .bad):=rfl
 by_cases hlt:i<t.length
 ·have h1:decide ((i:Int)≥(t.length:Int))=false:=decide_eq_false (by omega)
  simp only [h0,h1,cond_false,aab,hlt,decide_true,cond_true,Int.toNat_natCast,e0,if_true]
 ·have h1:decide ((i:Int)≥(t.length:Int))=true:=decide_eq_true (by omega)
  simp only [h0,h1,cond_false,cond_true,hlt,if_false]
theorem bau (n:Int):∃ u:Nat,u<18446744073709551616/\IntKind.wrap .u64 n=(u:Int):=by
 refine ⟨(n%18446744073709551616).toNat,by omega,?_⟩
 rw [IntKind.wrap_u64];omega
theorem a97 (u:Nat) (hu:u<18446744073709551616):F135 0 (u:Int) 10=some (Lib.decDigits u):=by
 have d0:decide ((0:Int)<=(u:Int))=true:=decide_eq_true (by omega)
 have d1:decide ((u:Int)<=18446744073709551615)=true:=decide_eq_true (by omega)
 have hf:Lfmt 0 (u:Int) (10:Int)=some (decB u):=by
  first
   | (unfold ay1;simp [d0,d1])
   | (unfold Lfmt;rw [decide_eq_true rfl,cond_true];unfold ay1;simp [d0,d1])
 unfold F135
 rw [hf,Option.bind_some,anj (by omega)]
theorem atp {name:List UInt8} (h:aae name≠0):aae name=1∨aae name=7∨aae name=3∨aae name=4:=by
 by_cases hk:name∈ac9
 ·simp only [ac9,List.mem_cons,List.not_mem_nil,or_false] at hk
  have e:∀ k:Int,(k=1∨k=7∨k=3∨k=4)->some (aae name)=some k->aae name=1∨aae name=7∨aae name=3∨aae name=4:=fun k hk he=>by cases he;exact hk
  rcases hk with rfl | rfl | rfl | rfl | rfl | rfl | rfl | rfl | rfl | rfl | rfl | rfl | rfl
  ·exact e 1 (by decide) (by kernel_rfl)
  ·exact e 1 (by decide) (by kernel_rfl)
  ·exact e 1 (by decide) (by kernel_rfl)
  ·exact e 7 (by decide) (by kernel_rfl)
  ·exact e 7 (by decide) (by kernel_rfl)
  ·exact e 7 (by decide) (by kernel_rfl)
  ·exact e 7 (by decide) (by kernel_rfl)
  ·exact e 4 (by decide) (by kernel_rfl)
  ·exact e 4 (by decide) (by kernel_rfl)
  ·exact e 4 (by decide) (by kernel_rfl)
  ·exact e 4 (by decide) (by kernel_rfl)
  ·exact e 3 (by decide) (by kernel_rfl)
  ·exact e 3 (by decide) (by kernel_rfl)
 ·exact absurd (aif hk) h
end Go.Ab
namespace Go.Ab
open Go
set_option maxRecDepth 100000
noncomputable section
structure Tk where
 k:Int
 s:List UInt8
 n:Int
def tkOf (x:PV):Tk:=⟨(x.fld 0).asInt,(x.fld 1).asStr,(x.fld 2).asInt⟩
inductive Rs (α:Type) where
 | ok (v:α) (r:List Tk)
 | er (r:List Tk) (e:Int)
def Rs.bind {α β:Type} (x:Rs α) (f:α->List Tk->Rs β):Rs β:=match x with | .ok v r=>f v r | .er r e=>.er r e
theorem Rs.bind_ok {α β:Type} (v:α) (r:List Tk) (f:α->List Tk->Rs β):(Rs.ok v r).bind f=f v r:=rfl
theorem Rs.bind_er {α β:Type} (r:List Tk) (e:Int) (f:α->List Tk->Rs β):(Rs.er r e:Rs α).bind f=.er r e:=rfl
def isS (k:Int) (s:List UInt8):List Tk->Bool
 | []=>false
 | x::_=>x.k==k&&x.s==s
def aap:List Tk->Int
 | []=>0
 | x::_=>x.k
def abw:List Tk->List UInt8
 | []=>[]
 | x::_=>x.s
def aih:List Tk->Int
 | []=>0
 | x::_=>x.n
def eatS (k:Int) (s:List UInt8) (ts:List Tk):Rs Unit:=bif isS k s ts then .ok () ts.tail else .er ts 2
def afz (k:Int) (p:List UInt8->Bool) (ts:List Tk):Rs (List UInt8):=
 bif aap ts==k then (bif p (abw ts) then .ok (abw ts) ts.tail else .er ts 8) else .er ts 2
def anv (ts:List Tk):Rs (List UInt8):=afz 1 a5a ts
def ap1 (outer s:List UInt8):List UInt8:=bif outer==[] then s else outer++[46]++s
def ami (outer s:List UInt8):Bool:=defP s&&(outer==[]||(agy s&&apq (ap1 outer s)))
def ak3 (outer:List UInt8) (ts:List Tk):Rs (List UInt8):=(afz 1 (ami outer) ts).bind fun s r=>.ok (ap1 outer s) r
def aey (ts:List Tk):Rs (List UInt8):=afz 1 alj ts
def aex (w:List UInt8):Int:=
 bif w==[98,111,111,108] then 1 else bif w==[105,51,50] then 2 else bif w==[105,54,52] then 3 else bif w==[117,51,50] then 4 else bif w==[117,54,52] then 5 else bif w==[100,111,117,98,108,101] then 6 else bif w==[116,101,120,116] then 7 else bif w==[98,121,116,101,115] then 8 else 0
def tyOf (s:List UInt8):PV:=bif aex s==0 then PV.agg [PV.int 0,PV.str s] else PV.agg [PV.int (aex s),PV.str []]
def typS (ts:List Tk):Rs PV:=(aey ts).bind fun s r=>.ok (tyOf s) r
def aa9 (ts:List Tk):Rs (List UInt8):=afz 3 (fun _=>true) ts
def numS (most:Int) (ts:List Tk):Rs Int:=
 bif aap ts==2 then (bif decide (0<=aih ts/\aih ts<=most) then .ok (aih ts) ts.tail else .er ts 6) else .er ts 2
def valS (pv:PV×Int) (back r:List Tk):Rs PV:=bif pv.2==0 then .ok pv.1 r else .er back pv.2
def azw (s:List UInt8):PV:=PV.agg [(PV.int 9),(PV.int 0),(PV.str s),(PV.slice []),(PV.slice []),(PV.slice []),(PV.slice [])]
def intS (pv:Int->List UInt8->PV×Int) (k:Int) (neg:Bool) (ts:List Tk):Rs PV:=
 bif aap ts==2 then valS (pv k ((bif neg then [45] else [])++decB (IntKind.wrap .u64 (aih ts)).toNat)) ts ts.tail else .er ts 2
def litS (pv:Int->List UInt8->PV×Int) (k:Int) (ts:List Tk):Rs PV:=
 bif k==0 then (anv ts).bind fun s r=>.ok (azw s) r
 else bif k==1 then (bif isS 1 [116,114,117,101] ts||isS 1 [102,97,108,115,101] ts then valS (pv k (abw ts)) ts ts.tail else .er ts 2)
 else bif k==6||k==8 then (aa9 ts).bind fun s r=>valS (pv k s) ts r
 else bif k==7 then (aa9 ts).bind fun s r=>valS (pv k (aa6 s)) ts r
 else bif isS 4 [45] ts then intS pv k true ts.tail else intS pv k false ts
def adn (k b:Int) (s:List UInt8):PV:=PV.agg [(PV.int k),(PV.int b),(PV.str s),(PV.slice []),(PV.slice []),(PV.slice []),(PV.slice [])]
def ac3 (pv:Int->List UInt8->PV×Int) (k:Int) (ts:List Tk):Rs PV:=
 bif k==1 then (bif isS 1 [116,114,117,101] ts then .ok (adn 1 1 []) ts.tail else bif isS 1 [102,97,108,115,101] ts then .ok (adn 1 0 []) ts.tail else .er ts 2)
 else bif k==7 then (bif aap ts==3 then (bif decide ((abw ts).length>4096) then .er ts 3 else bif valid (abw ts) then .ok (adn 7 0 (abw ts)) ts.tail else .er ts 7) else .er ts 2)
 else bif isS 4 [45] ts then intS pv k true ts.tail else intS pv k false ts
def ak1 (pv:Int->List UInt8->PV×Int) (kd:List UInt8->Int) (ts:List Tk):Rs PV:=
 bif aap ts==1 then
  bif kd (abw ts)==0 then .er ts 8
  else (eatS 4 [61] ts.tail).bind fun _ r=>(ac3 pv (kd (abw ts)) r).bind fun v r=>.ok (PV.agg [PV.str (abw ts),v]) r
 else .er ts 2
def ab3 (pv:Int->List UInt8->PV×Int) (kd:List UInt8->Int) (ts:List Tk) (acc:List PV):Rs (List PV):=
 (ak1 pv kd ts).bind fun n r=>
  bif isS 4 [93] r then .ok (acc++[n]) r.tail
  else bif isS 4 [44] r then (if h:r.tail.length<ts.length then ab3 pv kd r.tail (acc++[n]) else .er r 0)
  else .er r 2
termination_by ts.length
decreasing_by all_goals (simp only [List.length_tail] at *;omega)
def acw (pv:Int->List UInt8->PV×Int) (kd:List UInt8->Int) (ts:List Tk):Rs (List PV):=
 bif isS 4 [91] ts then ab3 pv kd ts.tail [] else .ok [] ts
def adf:PV:=PV.agg [(PV.int 0),(PV.int 0),(PV.str []),(PV.slice []),(PV.slice []),(PV.slice []),(PV.slice [])]
def akx (num:Int) (nm:List UInt8) (card key:Int) (ty:PV) (un:List UInt8) (hd:Bool) (df:PV) (nts:List PV):PV:=
 PV.agg [PV.int num,PV.str nm,PV.int card,PV.int key,ty,PV.str un,PV.bool hd,df,PV.slice nts]
section
variable (pv:Int->List UInt8->PV×Int) (kd:List UInt8->Int)
def aoj (wd:Bool) (k:Int) (ts:List Tk):Rs (Bool×PV):=bif wd&&isS 1 [100,101,102,97,117,108,116] ts then (litS pv k ts.tail).bind fun v r=>.ok (true,v) r else .ok (false,adf) ts
def aim (card key:Int) (ty:PV) (un:List UInt8) (wd:Bool) (ts:List Tk):Rs PV:=
 (anv ts).bind fun nm r1=>(eatS 4 [61] r1).bind fun _ r2=>(numS 65535 r2).bind fun n r3=>(aoj pv wd (ty.fld 0).asInt r3).bind fun d r4=>
 (acw pv kd r4).bind fun l r5=>(eatS 4 [59] r5).bind fun _ r6=>.ok (akx n nm card key ty un d.1 d.2 l) r6
def ai7 (w:List UInt8):Int:=bif w==[114,101,113,117,105,114,101,100] then 1 else bif w==[111,112,116,105,111,110,97,108] then 2 else bif w==[112,108,97,105,110] then 3 else bif w==[108,105,115,116] then 4 else 0
def ad0 (ts:List Tk):Rs PV:=
 bif isS 1 [109,97,112] ts then (eatS 4 [60] ts.tail).bind fun _ r=>
  bif aap r==1&&!(aex (abw r)==0) then (eatS 4 [44] r.tail).bind fun _ r2=>(typS r2).bind fun ty r3=>(eatS 4 [62] r3).bind fun _ r4=>aim pv kd 5 (aex (abw r)) ty [] false r4
  else .er r 2
 else bif aap ts==1&&!(ai7 (abw ts)==0) then (typS ts.tail).bind fun ty r=>aim pv kd (ai7 (abw ts)) 0 ty [] true r
 else .er ts 2
def adv (un:List UInt8) (ts:List Tk) (acc:List PV):Rs (List PV):=
 (typS ts).bind fun ty r=>(aim pv kd 2 0 ty un false r).bind fun x r2=>
  bif isS 4 [125] r2 then .ok (acc++[x]) r2.tail else if h:r2.length<ts.length then adv un r2 (acc++[x]) else .er r2 0
termination_by ts.length
def asx (ts:List Tk):Rs (List PV):=(eatS 1 [117,110,105,111,110] ts).bind fun _ r=>(anv r).bind fun un r2=>(eatS 4 [123] r2).bind fun _ r3=>adv pv kd un r3 []
def at6 (most:Int) (ts:List Tk):Rs PV:=(numS most ts).bind fun a r=>(bif isS 4 [45] r then numS most r.tail else .ok a r).bind fun b r2=>.ok (PV.agg [PV.int a,PV.int b]) r2
def adr (most:Int) (ts:List Tk) (acc:List PV):Rs (List PV):=
 (at6 most ts).bind fun x r2=>
  bif isS 4 [59] r2 then .ok (acc++[x]) r2.tail
  else (eatS 4 [44] r2).bind fun _ r3=>if h:r3.length<ts.length then adr most r3 (acc++[x]) else .er r3 0
termination_by ts.length
def an0 (ts:List Tk) (acc:List PV):Rs (List PV):=
 (aa9 ts).bind fun s r2=>
  bif isS 4 [59] r2 then .ok (acc++[PV.str s]) r2.tail
  else (eatS 4 [44] r2).bind fun _ r3=>if h:r3.length<ts.length then an0 r3 (acc++[PV.str s]) else .er r3 0
termination_by ts.length
def a7u (ts:List Tk):Rs PV:=
 (anv ts).bind fun nm r1=>(eatS 4 [61] r1).bind fun _ r2=>(numS 2147483647 r2).bind fun n r3=>(acw pv kd r3).bind fun l r4=>(eatS 4 [59] r4).bind fun _ r5=>.ok (PV.agg [PV.str nm,PV.int n,PV.slice l]) r5
def aer (ts:List Tk) (its rs:List PV):Rs (List PV×List PV):=
 bif isS 4 [125] ts then .ok (its,rs) ts.tail
 else bif isS 1 [114,101,115,101,114,118,101,100] ts then (adr 2147483647 ts.tail []).bind fun l r=>if h:r.length<ts.length then aer r its (rs++l) else .er r 0
 else (a7u pv kd ts).bind fun x r=>if h:r.length<ts.length then aer r (its++[x]) rs else .er r 0
termination_by ts.length
def avo (outer:List UInt8) (ts:List Tk):Rs PV:=
 (eatS 1 [101,110,117,109] (bif isS 1 [111,112,101,110] ts then ts.tail else ts)).bind fun _ r=>(ak3 outer r).bind fun nm r2=>(acw pv kd r2).bind fun l r3=>(eatS 4 [123] r3).bind fun _ r4=>
  (aer pv kd r4 [] []).bind fun x r5=>.ok (PV.agg [PV.str nm,PV.bool (isS 1 [111,112,101,110] ts),PV.slice x.1,PV.slice x.2,PV.slice l]) r5
structure MB where
 fs:List PV
 rs:List PV
 gs:List PV
 ms:List PV
 es:List PV
def acx (msg:List UInt8->List PV->List PV->List Tk->Rs (List PV×List PV)) (name:List UInt8) (ts:List Tk) (b:MB):Rs MB:=
 bif isS 4 [125] ts then .ok b ts.tail
 else bif isS 1 [117,110,105,111,110] ts then (asx pv kd ts).bind fun l r=>if h:r.length<ts.length then acx msg name r { b with fs:=b.fs++l } else .er r 0
 else bif isS 1 [109,101,115,115,97,103,101] ts then (msg name b.ms b.es ts).bind fun x r=>if h:r.length<ts.length then acx msg name r { b with ms:=x.1,es:=x.2 } else .er r 0
 else bif isS 1 [101,110,117,109] ts||isS 1 [111,112,101,110] ts then (avo pv kd name ts).bind fun x r=>if h:r.length<ts.length then acx msg name r { b with es:=b.es++[x] } else .er r 0
 else bif isS 1 [114,101,115,101,114,118,101,100] ts then
  (bif aap ts.tail==3 then (an0 ts.tail []).bind fun l r=>if h:r.length<ts.length then acx msg name r { b with gs:=b.gs++l } else .er r 0
   else (adr 65535 ts.tail []).bind fun l r=>if h:r.length<ts.length then acx msg name r { b with rs:=b.rs++l } else .er r 0)
 else (ad0 pv kd ts).bind fun x r=>if h:r.length<ts.length then acx msg name r { b with fs:=b.fs++[x] } else .er r 0
termination_by ts.length
def aj7 (nm:List UInt8) (fs rs gs nts:List PV):PV:=PV.agg [PV.str nm,PV.slice fs,PV.slice rs,PV.slice gs,PV.slice nts]
def msgS:Nat->List UInt8->List PV->List PV->List Tk->Rs (List PV×List PV)
 | 0,_,_,_,ts=>.er ts 17
 | d+1,outer,ms,es,ts=>(eatS 1 [109,101,115,115,97,103,101] ts).bind fun _ r=>(ak3 outer r).bind fun nm r2=>(acw pv kd r2).bind fun l r3=>(eatS 4 [123] r3).bind fun _ r4=>
  (acx pv kd (msgS d) nm r4 ⟨[],[],[],ms++[aj7 nm [] [] [] []],es⟩).bind fun b r5=>.ok (b.ms.set ms.length (aj7 nm b.fs b.rs b.gs l),b.es) r5
def ay7 (ts:List Tk):Rs (Bool×List UInt8):=(eatS 4 [40] ts).bind fun _ r=>(aey (bif isS 1 [115,116,114,101,97,109] r then r.tail else r)).bind fun s r2=>(eatS 4 [41] r2).bind fun _ r3=>.ok (isS 1 [115,116,114,101,97,109] r,s) r3
def a9o (a b:Bool):Int:=bif a&&b then 4 else bif a then 3 else bif b then 2 else 1
def rpcS (ts:List Tk):Rs PV:=
 (eatS 1 [114,112,99] ts).bind fun _ r=>(anv r).bind fun nm r1=>(ay7 r1).bind fun a r2=>(eatS 1 [114,101,116,117,114,110,115] r2).bind fun _ r3=>(ay7 r3).bind fun b r4=>(acw pv kd r4).bind fun l r5=>(eatS 4 [59] r5).bind fun _ r6=>
  .ok (PV.agg [PV.str nm,PV.str a.2,PV.str b.2,PV.int (a9o a.1 b.1),PV.slice l]) r6
def an9 (ts:List Tk) (acc:List PV):Rs (List PV):=
 bif isS 4 [125] ts then .ok acc ts.tail
 else (rpcS pv kd ts).bind fun x r=>if h:r.length<ts.length then an9 r (acc++[x]) else .er r 0
termination_by ts.length
def svcS (ts:List Tk):Rs PV:=
 (eatS 1 [115,101,114,118,105,99,101] ts).bind fun _ r=>(ak3 [] r).bind fun nm r1=>(acw pv kd r1).bind fun l r2=>(eatS 4 [123] r2).bind fun _ r3=>(an9 pv kd r3 []).bind fun x r4=>.ok (PV.agg [PV.str nm,PV.slice x,PV.slice l]) r4
def adw (ts:List Tk) (acc:List PV):Rs (List PV):=
 bif isS 1 [105,109,112,111,114,116] ts then (aa9 ts.tail).bind fun s r=>(eatS 4 [59] r).bind fun _ r2=>if h:r2.length<ts.length then adw r2 (acc++[PV.str s]) else .er r2 0
 else .ok acc ts
termination_by ts.length
structure FB where
 ms:List PV
 es:List PV
 ss:List PV
def ajh (ts:List Tk) (b:FB):Rs FB:=
 bif ts.isEmpty then .ok b ts
 else bif isS 1 [109,101,115,115,97,103,101] ts then (msgS pv kd 16 [] b.ms b.es ts).bind fun x r=>if h:r.length<ts.length then ajh r { b with ms:=x.1,es:=x.2 } else .er r 0
 else bif isS 1 [101,110,117,109] ts||isS 1 [111,112,101,110] ts then (avo pv kd [] ts).bind fun x r=>if h:r.length<ts.length then ajh r { b with es:=b.es++[x] } else .er r 0
 else (svcS pv kd ts).bind fun x r=>if h:r.length<ts.length then ajh r { b with ss:=b.ss++[x] } else .er r 0
termination_by ts.length
def aru (ts:List Tk):Rs (List UInt8):=bif isS 1 [115,112,97,99,101] ts then (afz 1 defP ts.tail).bind fun s r=>(eatS 4 [59] r).bind fun _ r2=>.ok s r2 else .ok [] ts
def a4e (name:List UInt8) (ts:List Tk):Rs PV:=
 (aru ts).bind fun sp r=>(adw r []).bind fun im r2=>(ajh pv kd r2 ⟨[],[],[]⟩).bind fun b r3=>.ok (PV.agg [PV.str name,PV.str sp,PV.slice im,PV.slice b.ms,PV.slice b.es,PV.slice b.ss]) r3
end
def Sh {α:Type} (x:Rs α) (ts:List Tk):Prop:=∀ v r,x=.ok v r->r.length<ts.length
def Sh0 {α:Type} (x:Rs α) (ts:List Tk):Prop:=∀ v r,x=.ok v r->r.length<=ts.length
theorem Sh.le {α:Type}{x:Rs α}{ts:List Tk} (h:Sh x ts):Sh0 x ts:=fun v r e=>Nat.le_of_lt (h v r e)
theorem acq {α β:Type}{x:Rs α}{f:α->List Tk->Rs β}{ts:List Tk} (hx:Sh x ts) (hf:∀ v r,Sh0 (f v r) r):Sh (x.bind f) ts:=by
 intro v r h
 cases x with
 | ok a q=>have:=hx a q rfl;have:=hf a q v r h;omega
 | er=>cases h
theorem aav {α β:Type}{x:Rs α}{f:α->List Tk->Rs β}{ts:List Tk} (hx:Sh0 x ts) (hf:∀ v r,Sh0 (f v r) r):Sh0 (x.bind f) ts:=by
 intro v r h
 cases x with
 | ok a q=>have:=hx a q rfl;have:=hf a q v r h;omega
 | er=>cases h
theorem ad7 {α:Type} (v:α) (r:List Tk):Sh0 (Rs.ok v r) r:=fun _ _ h=>by cases h;exact Nat.le_refl _
theorem akw {α:Type} (q r:List Tk) (e:Int):Sh (Rs.er q e:Rs α) r:=fun _ _ h=>by cases h
theorem ac4 {k:Int}{s:List UInt8}{ts:List Tk} (h:isS k s ts=true):ts.tail.length<ts.length:=by
 cases ts with
 | nil=>cases h
 | cons x r=>simp
theorem ah1 {k:Int}{ts:List Tk} (h:(aap ts==k)=true) (hk:(k==0)=false):ts.tail.length<ts.length:=by
 cases ts with
 | nil=>simp only [aap,beq_iff_eq] at h;subst h;simp at hk
 | cons x r=>simp
theorem abh (k:Int) (s:List UInt8) (ts:List Tk):Sh (eatS k s ts) ts:=by
 intro v r h
 unfold eatS at h
 cases hb:isS k s ts with
 | true=>rw [hb] at h;cases h;exact ac4 hb
 | false=>rw [hb] at h;cases h
theorem anl (k:Int) (hk:(k==0)=false) (p:List UInt8->Bool) (ts:List Tk):Sh (afz k p ts) ts:=by
 intro v r h
 unfold afz at h
 cases hb:(aap ts==k) with
 | true=>
  rw [hb] at h
  cases hp:p (abw ts)<;>simp only [hp,cond_true,cond_false] at h
  ·cases h
  ·cases h;exact ah1 hb hk
 | false=>rw [hb] at h;cases h
theorem amu (most:Int) (ts:List Tk):Sh (numS most ts) ts:=by
 intro v r h
 unfold numS at h
 cases hb:(aap ts==2) with
 | true=>
  rw [hb] at h
  cases hp:decide (0<=aih ts/\aih ts<=most)<;>simp only [hp,cond_true,cond_false] at h
  ·cases h
  ·cases h;exact ah1 hb rfl
 | false=>rw [hb] at h;cases h
theorem aiq (ts:List Tk):Sh (anv ts) ts:=anl 1 rfl _ ts
theorem alv (o:List UInt8) (ts:List Tk):Sh (ak3 o ts) ts:=acq (anl 1 rfl _ ts) fun v r=>ad7 _ _
theorem asg (ts:List Tk):Sh (typS ts) ts:=acq (anl 1 rfl _ ts) fun v r=>ad7 _ _
theorem ada (ts:List Tk):Sh (aa9 ts) ts:=anl 3 rfl _ ts
theorem av9 {x:PV×Int}{back r ts:List Tk} (h:r.length<ts.length):Sh (valS x back r) ts:=by
 intro v q e
 unfold valS at e
 cases hb:(x.2==0)<;>rw [hb] at e<;>cases e
 exact h
theorem aww (pv:Int->List UInt8->PV×Int) (k:Int) (neg:Bool) (ts:List Tk):Sh (intS pv k neg ts) ts:=by
 intro v r h
 unfold intS at h
 cases hb:(aap ts==2) with
 | true=>rw [hb] at h;exact av9 (ah1 hb rfl) v r h
 | false=>rw [hb] at h;cases h
theorem ab1 (ts:List Tk):ts.tail.length<=ts.length:=by simp
theorem ahq {α:Type}{x:Rs α}{ts:List Tk} (h:Sh x ts.tail):Sh x ts:=fun v r e=>Nat.lt_of_lt_of_le (h v r e) (ab1 ts)
theorem a3w (pv:Int->List UInt8->PV×Int) (k:Int) (ts:List Tk):Sh (litS pv k ts) ts:=by
 unfold litS
 cases (k==0) with
 | true=>exact acq (aiq ts) fun v r=>ad7 _ _
 | false=>
  cases (k==1) with
  | true=>
   cases hb:(isS 1 [116,114,117,101] ts||isS 1 [102,97,108,115,101] ts) with
   | true=>
    refine av9 ?_
    cases h1:isS 1 [116,114,117,101] ts with
    | true=>exact ac4 h1
    | false=>rw [h1] at hb;exact ac4 (by simpa using hb)
   | false=>exact akw _ _ _
  | false=>
   cases (k==6||k==8) with
   | true=>
    intro v r h
    cases ha:aa9 ts with
    | ok s q=>simp only [cond_true,cond_false,ha,Rs.bind] at h;exact av9 (ada ts s q ha) v r h
    | er q e=>simp only [cond_true,cond_false,ha,Rs.bind] at h;cases h
   | false=>
    cases (k==7) with
    | true=>
     intro v r h
     cases ha:aa9 ts with
     | ok s q=>simp only [cond_true,cond_false,ha,Rs.bind] at h;exact av9 (ada ts s q ha) v r h
     | er q e=>simp only [cond_true,cond_false,ha,Rs.bind] at h;cases h
    | false=>
     cases isS 4 [45] ts with
     | true=>exact ahq (aww pv k true ts.tail)
     | false=>exact aww pv k false ts
theorem ayb (pv:Int->List UInt8->PV×Int) (k:Int) (ts:List Tk):Sh (ac3 pv k ts) ts:=by
 unfold ac3
 cases (k==1) with
 | true=>
  cases h1:isS 1 [116,114,117,101] ts with
  | true=>intro v r e;cases e;exact ac4 h1
  | false=>
   cases h2:isS 1 [102,97,108,115,101] ts with
   | true=>intro v r e;cases e;exact ac4 h2
   | false=>exact akw _ _ _
 | false=>
  cases (k==7) with
  | true=>
   cases h3:(aap ts==3) with
   | true=>
    cases decide ((abw ts).length>4096) with
    | true=>exact akw _ _ _
    | false=>
     cases valid (abw ts) with
     | true=>intro v r e;cases e;exact ah1 h3 rfl
     | false=>exact akw _ _ _
   | false=>exact akw _ _ _
  | false=>
   cases isS 4 [45] ts with
   | true=>exact ahq (aww pv k true ts.tail)
   | false=>exact aww pv k false ts
theorem akl (pv:Int->List UInt8->PV×Int) (kd:List UInt8->Int) (ts:List Tk):Sh (ak1 pv kd ts) ts:=by
 unfold ak1
 cases (aap ts==1) with
 | true=>
  cases (kd (abw ts)==0) with
  | true=>exact akw _ _ _
  | false=>exact ahq (acq (abh _ _ _) fun _ r=>aav (ayb pv _ r).le fun v q=>ad7 _ _)
 | false=>exact akw _ _ _
theorem aby (pv:Int->List UInt8->PV×Int) (kd:List UInt8->Int) (ts:List Tk) (acc:List PV):ab3 pv kd ts acc=(ak1 pv kd ts).bind fun n r=>
 bif isS 4 [93] r then .ok (acc++[n]) r.tail else bif isS 4 [44] r then ab3 pv kd r.tail (acc++[n]) else .er r 2:=by
 rw [ab3]
 cases h:ak1 pv kd ts with
 | er r e=>rfl
 | ok n r=>
  have:=akl pv kd ts n r h
  have:=ab1 r
  simp only [Rs.bind,show r.tail.length<ts.length by omega,dite_true]
theorem ar5 (pv:Int->List UInt8->PV×Int) (kd:List UInt8->Int):∀ (m:Nat) (ts:List Tk) (acc:List PV),ts.length<=m->Sh (ab3 pv kd ts acc) ts:=by
 intro m
 induction m with
 | zero=>
  intro ts acc hm
  have:ts=[]:=List.eq_nil_of_length_eq_zero (by omega)
  subst this
  rw [aby]
  exact akw _ _ _
 | succ m ih=>
  intro ts acc hm
  rw [aby]
  cases h:ak1 pv kd ts with
  | er r e=>exact akw _ _ _
  | ok n r=>
   have h1:=akl pv kd ts n r h
   have h2:=ab1 r
   simp only [Rs.bind]
   cases isS 4 [93] r with
   | true=>intro v q e;cases e;omega
   | false=>
    cases isS 4 [44] r with
    | true=>intro v q e;have:=ih r.tail (acc++[n]) (by omega) v q e;omega
    | false=>exact akw _ _ _
theorem aeb (pv:Int->List UInt8->PV×Int) (kd:List UInt8->Int) (ts:List Tk):Sh0 (acw pv kd ts) ts:=by
 unfold acw
 cases isS 4 [91] ts with
 | true=>exact (ahq (ar5 pv kd _ ts.tail [] (Nat.le_refl _))).le
 | false=>exact ad7 _ _
end
end Go.Ab
namespace Go.Ab
open Go
set_option maxRecDepth 100000
section
variable (pv:Int->List UInt8->PV×Int) (kd:List UInt8->Int)
theorem a1i (wd:Bool) (k:Int) (ts:List Tk):Sh0 (aoj pv wd k ts) ts:=by
 unfold aoj
 cases h:(wd&&isS 1 [100,101,102,97,117,108,116] ts) with
 | true=>exact (ahq (acq (a3w pv k ts.tail) fun v r=>ad7 _ _)).le
 | false=>exact ad7 _ _
theorem anf (card key:Int) (ty:PV) (un:List UInt8) (wd:Bool) (ts:List Tk):Sh (aim pv kd card key ty un wd ts) ts:=by
 unfold aim
 exact acq (aiq ts) fun _ r=>aav (abh _ _ r).le fun _ r=>aav (amu _ r).le fun _ r=>aav (a1i pv _ _ r) fun _ r=>aav (aeb pv kd r) fun _ r=>aav (abh _ _ r).le fun _ r=>ad7 _ _
theorem arl (ts:List Tk):Sh (ad0 pv kd ts) ts:=by
 unfold ad0
 cases h:isS 1 [109,97,112] ts with
 | true=>
  refine ahq (acq (abh _ _ _) fun _ r=>?_)
  cases (aap r==1&&!(aex (abw r)==0)) with
  | true=>exact fun v q e=>Nat.le_trans ((acq (abh _ _ r.tail) fun _ r=>aav (asg r).le fun _ r=>aav (abh _ _ r).le fun _ r=>(anf pv kd _ _ _ _ _ r).le).le v q e) (ab1 r)
  | false=>exact (akw _ _ _).le
 | false=>
  cases (aap ts==1&&!(ai7 (abw ts)==0)) with
  | true=>exact ahq (acq (asg ts.tail) fun _ r=>(anf pv kd _ _ _ _ _ r).le)
  | false=>exact akw _ _ _
theorem apj (un:List UInt8) (ts:List Tk) (acc:List PV):adv pv kd un ts acc=(typS ts).bind fun ty r=>(aim pv kd 2 0 ty un false r).bind fun x r2=>bif isS 4 [125] r2 then .ok (acc++[x]) r2.tail else adv pv kd un r2 (acc++[x]):=by
 rw [adv]
 cases h:typS ts with
 | er r e=>rfl
 | ok ty r=>
  simp only [Rs.bind]
  cases h2:aim pv kd 2 0 ty un false r with
  | er r e=>rfl
  | ok x r2=>
   have:=asg ts ty r h
   have:=anf pv kd 2 0 ty un false r x r2 h2
   simp only [show r2.length<ts.length by omega,dite_true]
theorem akz {α β:Type} (f:List Tk->β->Rs α) (hf:∀ ts b,(∀ (m:List Tk) b,m.length<ts.length->Sh0 (f m b) m)->Sh0 (f ts b) ts):∀ ts b,Sh0 (f ts b) ts:=by
 have H:∀ (n:Nat) ts b,ts.length<=n->Sh0 (f ts b) ts:=by
  intro n
  induction n with
  | zero=>intro ts b hn;exact hf ts b fun m b hm=>by omega
  | succ n ih=>intro ts b hn;exact hf ts b fun m b hm=>ih m b (by omega)
 exact fun ts b=>H _ ts b (Nat.le_refl _)
theorem azj (un:List UInt8) (ts:List Tk) (acc:List PV):Sh0 (adv pv kd un ts acc) ts:=by
 refine akz (fun ts acc=>adv pv kd un ts acc) (fun ts acc ih=>?_) ts acc
 show Sh0 (adv pv kd un ts acc) ts
 rw [apj]
 intro v q e
 cases h:typS ts with
 | er r e2=>rw [h] at e;cases e
 | ok ty r=>
  rw [h] at e
  simp only [Rs.bind] at e
  cases h2:aim pv kd 2 0 ty un false r with
  | er r e2=>rw [h2] at e;cases e
  | ok x r2=>
   rw [h2] at e
   have h3:=asg ts ty r h
   have h4:=anf pv kd 2 0 ty un false r x r2 h2
   have h5:=ab1 r2
   simp only at e
   cases hb:isS 4 [125] r2 with
   | true=>rw [hb] at e;cases e;omega
   | false=>rw [hb] at e;have:=ih r2 (acc++[x]) (by omega) v q e;omega
theorem aqy (ts:List Tk):Sh (asx pv kd ts) ts:=acq (abh _ _ ts) fun _ r=>aav (aiq r).le fun _ r=>aav (abh _ _ r).le fun _ r=>azj pv kd _ r []
theorem a0z (most:Int) (ts:List Tk):Sh (at6 most ts) ts:=by
 unfold at6
 refine acq (amu _ ts) fun a r=>aav ?_ fun _ _=>ad7 _ _
 cases isS 4 [45] r with
 | true=>exact (ahq (amu most r.tail)).le
 | false=>exact ad7 _ _
theorem av6 (most:Int) (ts:List Tk) (acc:List PV):adr most ts acc=(at6 most ts).bind fun x r2=>bif isS 4 [59] r2 then .ok (acc++[x]) r2.tail else (eatS 4 [44] r2).bind fun _ r3=>adr most r3 (acc++[x]):=by
 rw [adr]
 cases h:at6 most ts with
 | er r e=>rfl
 | ok x r2=>
  simp only [Rs.bind]
  cases h2:eatS 4 [44] r2 with
  | er r e=>rfl
  | ok u r3=>
   have:=a0z most ts x r2 h
   have:=abh 4 [44] r2 u r3 h2
   simp only [show r3.length<ts.length by omega,dite_true]
theorem al1 (most:Int) (ts:List Tk) (acc:List PV):Sh0 (adr most ts acc) ts:=by
 refine akz (fun ts acc=>adr most ts acc) (fun ts acc ih=>?_) ts acc
 show Sh0 (adr most ts acc) ts
 rw [av6]
 intro v q e
 cases h:at6 most ts with
 | er r e2=>rw [h] at e;cases e
 | ok x r2=>
  rw [h] at e
  have h3:=a0z most ts x r2 h
  have h5:=ab1 r2
  simp only [Rs.bind] at e
  cases hb:isS 4 [59] r2 with
  | true=>rw [hb] at e;cases e;omega
  | false=>
   rw [hb] at e
   simp only [cond_false] at e
   cases h2:eatS 4 [44] r2 with
   | er r e2=>rw [h2] at e;cases e
   | ok u r3=>
    rw [h2] at e
    have h4:=abh 4 [44] r2 u r3 h2
    have:=ih r3 (acc++[x]) (by omega) v q e
    omega
theorem aqo (ts:List Tk) (acc:List PV):an0 ts acc=(aa9 ts).bind fun s r2=>bif isS 4 [59] r2 then .ok (acc++[PV.str s]) r2.tail else (eatS 4 [44] r2).bind fun _ r3=>an0 r3 (acc++[PV.str s]):=by
 rw [an0]
 cases h:aa9 ts with
 | er r e=>rfl
 | ok x r2=>
  simp only [Rs.bind]
  cases h2:eatS 4 [44] r2 with
  | er r e=>rfl
  | ok u r3=>
   have:=ada ts x r2 h
   have:=abh 4 [44] r2 u r3 h2
   simp only [show r3.length<ts.length by omega,dite_true]
theorem a2u (ts:List Tk) (acc:List PV):Sh0 (an0 ts acc) ts:=by
 refine akz (fun ts acc=>an0 ts acc) (fun ts acc ih=>?_) ts acc
 show Sh0 (an0 ts acc) ts
 rw [aqo]
 intro v q e
 cases h:aa9 ts with
 | er r e2=>rw [h] at e;cases e
 | ok x r2=>
  rw [h] at e
  have h3:=ada ts x r2 h
  have h5:=ab1 r2
  simp only [Rs.bind] at e
  cases hb:isS 4 [59] r2 with
  | true=>rw [hb] at e;cases e;omega
  | false=>
   rw [hb] at e
   simp only [cond_false] at e
   cases h2:eatS 4 [44] r2 with
   | er r e2=>rw [h2] at e;cases e
   | ok u r3=>
    rw [h2] at e
    have h4:=abh 4 [44] r2 u r3 h2
    have:=ih r3 (acc++[PV.str x]) (by omega) v q e
    omega
theorem a1c (ts:List Tk):Sh (a7u pv kd ts) ts:=acq (aiq ts) fun _ r=>aav (abh _ _ r).le fun _ r=>aav (amu _ r).le fun _ r=>aav (aeb pv kd r) fun _ r=>aav (abh _ _ r).le fun _ r=>ad7 _ _
theorem abu {α β:Type}{x:Rs α}{ts:List Tk} (hx:Sh x ts) (f:α->List Tk->Rs β):(x.bind fun v r=>if h:r.length<ts.length then f v r else .er r 0)=x.bind f:=by
 cases x with
 | er r e=>rfl
 | ok v r=>simp only [Rs.bind,hx v r rfl,dite_true]
theorem axl {α:Type}{x:Rs α}{ts:List Tk} (h1:ts.tail.length<ts.length) (h:Sh0 x ts.tail):Sh x ts:=fun v r e=>Nat.lt_of_le_of_lt (h v r e) h1
theorem awp (ts:List Tk) (its rs:List PV):aer pv kd ts its rs=
 bif isS 4 [125] ts then .ok (its,rs) ts.tail
 else bif isS 1 [114,101,115,101,114,118,101,100] ts then (adr 2147483647 ts.tail []).bind fun l r=>aer pv kd r its (rs++l)
 else (a7u pv kd ts).bind fun x r=>aer pv kd r (its++[x]) rs:=by
 rw [aer,abu (a1c pv kd ts)]
 cases h:isS 1 [114,101,115,101,114,118,101,100] ts with
 | true=>rw [abu (axl (ac4 h) (al1 2147483647 ts.tail []))]
 | false=>rfl
theorem aed {α β:Type}{x:Rs α}{f:α->List Tk->Rs β}{ts:List Tk} (hx:Sh x ts) (hf:∀ v r,r.length<ts.length->Sh0 (f v r) r):Sh0 (x.bind f) ts:=by
 intro v r h
 cases x with
 | ok a q=>have h1:=hx a q rfl;have:=hf a q h1 v r h;omega
 | er=>cases h
theorem a4q (ts:List Tk) (its rs:List PV):Sh0 (aer pv kd ts its rs) ts:=by
 refine akz (fun ts (b:List PV×List PV)=>aer pv kd ts b.1 b.2) (fun ts b ih=>?_) ts (its,rs)
 show Sh0 (aer pv kd ts b.1 b.2) ts
 rw [awp]
 cases h0:isS 4 [125] ts with
 | true=>intro v q e;cases e;exact ab1 ts
 | false=>
  cases h:isS 1 [114,101,115,101,114,118,101,100] ts with
  | true=>exact aed (axl (ac4 h) (al1 2147483647 ts.tail [])) fun v r hr=>ih r (b.1,b.2++v) hr
  | false=>exact aed (a1c pv kd ts) fun v r hr=>ih r (b.1++[v],b.2) hr
theorem a4f (ts:List Tk) (w:List UInt8):(bif isS 1 w ts then ts.tail else ts).length<=ts.length:=by
 cases isS 1 w ts with
 | true=>exact ab1 ts
 | false=>exact Nat.le_refl _
theorem aip (outer:List UInt8) (ts:List Tk):Sh (avo pv kd outer ts) ts:=by
 intro v q e
 have:=(acq (abh 1 [101,110,117,109] (bif isS 1 [111,112,101,110] ts then ts.tail else ts)) fun _ r=>aav (alv outer r).le fun _ r=>aav (aeb pv kd r) fun _ r=>aav (abh _ _ r).le fun _ r=>aav (a4q pv kd r [] []) fun _ r=>ad7 _ _) v q e
 have:=a4f ts [111,112,101,110]
 omega
theorem alt (msg:List UInt8->List PV->List PV->List Tk->Rs (List PV×List PV)) (hm:∀ n a b ts,Sh (msg n a b ts) ts) (name:List UInt8) (ts:List Tk) (b:MB):acx pv kd msg name ts b=
 bif isS 4 [125] ts then .ok b ts.tail
 else bif isS 1 [117,110,105,111,110] ts then (asx pv kd ts).bind fun l r=>acx pv kd msg name r { b with fs:=b.fs++l }
 else bif isS 1 [109,101,115,115,97,103,101] ts then (msg name b.ms b.es ts).bind fun x r=>acx pv kd msg name r { b with ms:=x.1,es:=x.2 }
 else bif isS 1 [101,110,117,109] ts||isS 1 [111,112,101,110] ts then (avo pv kd name ts).bind fun x r=>acx pv kd msg name r { b with es:=b.es++[x] }
 else bif isS 1 [114,101,115,101,114,118,101,100] ts then
  (bif aap ts.tail==3 then (an0 ts.tail []).bind fun l r=>acx pv kd msg name r { b with gs:=b.gs++l }
   else (adr 65535 ts.tail []).bind fun l r=>acx pv kd msg name r { b with rs:=b.rs++l })
 else (ad0 pv kd ts).bind fun x r=>acx pv kd msg name r { b with fs:=b.fs++[x] }:=by
 rw [acx,abu (aqy pv kd ts),abu (hm name b.ms b.es ts),abu (aip pv kd name ts),abu (arl pv kd ts)]
 cases h:isS 1 [114,101,115,101,114,118,101,100] ts with
 | true=>rw [abu (axl (ac4 h) (a2u ts.tail [])),abu (axl (ac4 h) (al1 65535 ts.tail []))]
 | false=>rfl
theorem a69 (msg:List UInt8->List PV->List PV->List Tk->Rs (List PV×List PV)) (hm:∀ n a b ts,Sh (msg n a b ts) ts) (name:List UInt8) (ts:List Tk) (b:MB):Sh0 (acx pv kd msg name ts b) ts:=by
 refine akz (fun ts b=>acx pv kd msg name ts b) (fun ts b ih=>?_) ts b
 show Sh0 (acx pv kd msg name ts b) ts
 rw [alt pv kd msg hm]
 cases isS 4 [125] ts with
 | true=>intro v q e;cases e;exact ab1 ts
 | false=>
  cases isS 1 [117,110,105,111,110] ts with
  | true=>exact aed (aqy pv kd ts) fun v r hr=>ih r _ hr
  | false=>
   cases isS 1 [109,101,115,115,97,103,101] ts with
   | true=>exact aed (hm _ _ _ ts) fun v r hr=>ih r _ hr
   | false=>
    cases (isS 1 [101,110,117,109] ts||isS 1 [111,112,101,110] ts) with
    | true=>exact aed (aip pv kd _ ts) fun v r hr=>ih r _ hr
    | false=>
     cases h:isS 1 [114,101,115,101,114,118,101,100] ts with
     | true=>
      cases (aap ts.tail==3) with
      | true=>exact aed (axl (ac4 h) (a2u ts.tail [])) fun v r hr=>ih r _ hr
      | false=>exact aed (axl (ac4 h) (al1 65535 ts.tail [])) fun v r hr=>ih r _ hr
     | false=>exact aed (arl pv kd ts) fun v r hr=>ih r _ hr
theorem aom:∀ (d:Nat) (n:List UInt8) (a b:List PV) (ts:List Tk),Sh (msgS pv kd d n a b ts) ts:=by
 intro d
 induction d with
 | zero=>intro n a b ts;exact akw _ _ _
 | succ d ih=>
  intro n a b ts
  exact acq (abh _ _ ts) fun _ r=>aav (alv _ r).le fun _ r=>aav (aeb pv kd r) fun _ r=>aav (abh _ _ r).le fun _ r=>aav (a69 pv kd _ ih _ r _) fun _ r=>ad7 _ _
theorem a1q (ts:List Tk):Sh (ay7 ts) ts:=by
 unfold ay7
 refine acq (abh _ _ ts) fun _ r=>?_
 intro v q e
 have:=(aav (anl 1 rfl alj (bif isS 1 [115,116,114,101,97,109] r then r.tail else r)).le fun _ r=>aav (abh _ _ r).le fun _ r=>ad7 _ _) v q e
 have:=a4f r [115,116,114,101,97,109]
 omega
theorem a1l (ts:List Tk):Sh (rpcS pv kd ts) ts:=
 acq (abh _ _ ts) fun _ r=>aav (aiq r).le fun _ r=>aav (a1q r).le fun _ r=>aav (abh _ _ r).le fun _ r=>aav (a1q r).le fun _ r=>aav (aeb pv kd r) fun _ r=>aav (abh _ _ r).le fun _ r=>ad7 _ _
theorem a3f (ts:List Tk) (acc:List PV):an9 pv kd ts acc=bif isS 4 [125] ts then .ok acc ts.tail else (rpcS pv kd ts).bind fun x r=>an9 pv kd r (acc++[x]):=by
 rw [an9,abu (a1l pv kd ts)]
theorem a9k (ts:List Tk) (acc:List PV):Sh0 (an9 pv kd ts acc) ts:=by
 refine akz (fun ts b=>an9 pv kd ts b) (fun ts b ih=>?_) ts acc
 show Sh0 (an9 pv kd ts b) ts
 rw [a3f]
 cases isS 4 [125] ts with
 | true=>intro v q e;cases e;exact ab1 ts
 | false=>exact aed (a1l pv kd ts) fun v r hr=>ih r _ hr
theorem a8f (ts:List Tk):Sh (svcS pv kd ts) ts:=
 acq (abh _ _ ts) fun _ r=>aav (alv _ r).le fun _ r=>aav (aeb pv kd r) fun _ r=>aav (abh _ _ r).le fun _ r=>aav (a9k pv kd r []) fun _ r=>ad7 _ _
theorem akh (ts:List Tk) (acc:List PV):adw ts acc=bif isS 1 [105,109,112,111,114,116] ts then (aa9 ts.tail).bind fun s r=>(eatS 4 [59] r).bind fun _ r2=>adw r2 (acc++[PV.str s]) else .ok acc ts:=by
 rw [adw]
 cases h0:isS 1 [105,109,112,111,114,116] ts with
 | false=>rfl
 | true=>
  simp only [cond_true]
  cases h:aa9 ts.tail with
  | er r e=>rfl
  | ok x r=>
   simp only [Rs.bind]
   cases h2:eatS 4 [59] r with
   | er r e=>rfl
   | ok u r3=>
    have:=ada ts.tail x r h
    have:=abh 4 [59] r u r3 h2
    have:=ac4 h0
    simp only [show r3.length<ts.length by omega,dite_true]
theorem apw (ts:List Tk) (b:FB):ajh pv kd ts b=
 bif ts.isEmpty then .ok b ts
 else bif isS 1 [109,101,115,115,97,103,101] ts then (msgS pv kd 16 [] b.ms b.es ts).bind fun x r=>ajh pv kd r { b with ms:=x.1,es:=x.2 }
 else bif isS 1 [101,110,117,109] ts||isS 1 [111,112,101,110] ts then (avo pv kd [] ts).bind fun x r=>ajh pv kd r { b with es:=b.es++[x] }
 else (svcS pv kd ts).bind fun x r=>ajh pv kd r { b with ss:=b.ss++[x] }:=by
 rw [ajh,abu (aom pv kd 16 _ _ _ ts),abu (aip pv kd _ ts),abu (a8f pv kd ts)]
end
end Go.Ab
namespace Go.Ab
open Go
set_option maxRecDepth 100000
def ts (t:List PV) (i:Nat):List Tk:=(t.drop i).map tkOf
structure TOk (t:List PV):Prop where
 len:t.length<=1048576
 txt:∀ x,x∈t->(x.fld 1).asStr.length<=1048576
theorem afv {t:List PV}{i:Nat} (h:t.length<=i):ts t i=[]:=by unfold ts;rw [List.drop_eq_nil_of_le h];rfl
theorem ad6 {t:List PV}{i:Nat} (h:i<t.length):ts t i=tkOf (t.getD i .bad)::ts t (i+1):=by unfold ts;rw [aau h .bad];rfl
theorem aa0 (t:List PV) (i:Nat):(ts t i).tail=ts t (i+1):=by
 unfold ts
 by_cases h:i<t.length
 ·rw [aau h .bad];rfl
 ·rw [List.drop_eq_nil_of_le (by omega),List.drop_eq_nil_of_le (by omega)];rfl
theorem abm (t:List PV) (i:Nat):(ts t i).length=t.length-i:=by unfold ts;simp
theorem adb {k:Int}{s:List UInt8}{t:List PV}{i:Nat} (h:isS k s (ts t i)=true):i<t.length:=by
 by_cases hi:i<t.length
 ·exact hi
 ·rw [afv (by omega)] at h;cases h
theorem adh {k:Int}{t:List PV}{i:Nat} (hk:(k==0)=false) (h:(aap (ts t i)==k)=true):i<t.length:=by
 by_cases hi:i<t.length
 ·exact hi
 ·rw [afv (by omega)] at h
  simp only [aap,beq_iff_eq] at h
  subst h;simp at hk
abbrev QF:Type:=List UInt8×List UInt8×Unit×Unit×Unit×List PV×List PV×List PV×List PV
inductive Par {α R:Type} (t:List PV) (q:QF) (mk:α->Q0->R) (x:Rs α) (y:Option (R⊕(PV×Q0))):Prop
 | ok (v:α) (j:Nat):j<=t.length->x=.ok v (ts t j)->y=some (.inl (mk v (t,((j:Nat):Int),q)))->Par t q mk x y
 | er (j:Nat) (e:Int):j<=t.length->e≠0->x=.er (ts t j) e->y=some (.inr (PV.agg [PV.int ((j:Nat):Int),PV.int e],(t,((j:Nat):Int),q)))->Par t q mk x y
theorem ad9 (t:List PV) (i:Nat) (q:QF):F117 0 () (t,(i:Int),q)=some (aap (ts t i),(t,(i:Int),q)):=by
 unfold F117
 by_cases h:i<t.length
 ·have e1:decide ((i:Int)≥(t.length:Int))=false:=decide_eq_false (by omega)
  simp only [e1,cond_false,aab,h,decide_true,cond_true,Int.toNat_natCast,ad6 h,aap,tkOf]
 ·have e1:decide ((i:Int)≥(t.length:Int))=true:=decide_eq_true (by omega)
  simp only [e1,cond_true,afv (show t.length<=i by omega),aap]
def isA (s:List UInt8):List Tk->Bool
 | []=>false
 | x::_=>(x.k==4||x.k==1)&&x.s==s
theorem a74 (t:List PV) (ht:TOk t) (i:Nat) (hi:i<=t.length) (s:List UInt8) (q:QF):F203 0 () 0 s (t,(i:Int),q)=some (isA s (ts t i),(t,(i:Int),q)):=by
 have hl:=ht.len
 have w:IntKind.wrap .i64 ((i:Int)+0)=(i:Int):=by rw [abf (by omega) (by omega)];omega
 unfold F203
 simp only [w]
 by_cases h:i<t.length
 ·have e1:decide ((i:Int)<(t.length:Int))=true:=decide_eq_true (by omega)
  simp only [e1,imp,aab,h,decide_true,cond_true,Int.toNat_natCast,F286,Option.bind_some,ad6 h,isA,tkOf]
  cases (((t.getD i .bad).fld 0).asInt==(4:Int))<;>cases (((t.getD i .bad).fld 0).asInt==(1:Int))<;>simp
 ·have e1:decide ((i:Int)<(t.length:Int))=false:=decide_eq_false (by omega)
  simp only [e1,imp,cond_false,Bool.not_false,aah,cond_true,Option.bind_some,afv (show t.length<=i by omega),isA]
theorem baj {s:List UInt8} (hs:agy s=true) (t:List PV) (ht:TOk t) (i:Nat) (hi:i<=t.length) (q:QF):F96 0 () s (t,(i:Int),q)=some (isS 1 s (ts t i),(t,(i:Int),q)):=by
 unfold F96
 rw [ahc,hs]
 simp only [Option.bind_some,cond_true,a74 t ht i hi,ad9]
 cases ts t i with
 | nil=>rfl
 | cons x r=>
  simp only [isA,isS,aap]
  cases h4:(x.k==4)<;>cases h1:(x.k==1)<;>cases (x.s==s)<;>simp [h1]
theorem ba9 {s:List UInt8} (hs:agy s=false) (t:List PV) (ht:TOk t) (i:Nat) (hi:i<=t.length) (q:QF):F96 0 () s (t,(i:Int),q)=some (isS 4 s (ts t i),(t,(i:Int),q)):=by
 unfold F96
 rw [ahc,hs]
 simp only [Option.bind_some,cond_false,a74 t ht i hi,ad9]
 cases ts t i with
 | nil=>rfl
 | cons x r=>
  simp only [isA,isS,aap]
  cases h4:(x.k==4)<;>cases h1:(x.k==1)<;>cases (x.s==s)<;>simp [h4]
def kOf (s:List UInt8):Int:=bif agy s then 1 else 4
theorem aoy (s:List UInt8) (k:Int) (hk:kOf s=k) (t:List PV) (ht:TOk t) (i:Nat) (hi:i<=t.length) (q:QF):F96 0 () s (t,(i:Int),q)=some (isS k s (ts t i),(t,(i:Int),q)):=by
 unfold kOf at hk
 cases hp:agy s with
 | true=>rw [hp] at hk;subst hk;exact baj hp t ht i hi q
 | false=>rw [hp] at hk;subst hk;exact ba9 hp t ht i hi q
theorem akq (s:List UInt8) (k:Int) (hk:kOf s=k) (t:List PV) (ht:TOk t) (i:Nat) (hi:i<=t.length) (q:QF):
 F91 0 () s (t,(i:Int),q)=some (bif isS k s (ts t i) then (true,(t,((i+1:Nat):Int),q)) else (false,(t,(i:Int),q))):=by
 have hl:=ht.len
 unfold F91
 simp only [aoy s k hk t ht i hi,Option.bind_some,ab2 (show i<=9223372036854775000 by omega)]
 cases isS k s (ts t i)<;>rfl
theorem ad2 (s:List UInt8) (k:Int) (hk:kOf s=k) (t:List PV) (ht:TOk t) (i:Nat) (hi:i<=t.length) (q:QF):
 Par t q (fun _ s=>s) (eatS k s (ts t i)) (F94 0 () s (t,(i:Int),q)):=by
 unfold F94 eatS
 simp only [akq s k hk t ht i hi,Option.bind_some]
 cases h:isS k s (ts t i) with
 | true=>exact .ok () (i+1) (adb h) (by rw [cond_true,aa0]) rfl
 | false=>exact .er i 2 hi (by decide) rfl rfl
theorem a3h {t:List PV} (ht:TOk t) {i:Nat} (h:i<t.length):((t.getD i .bad).fld 1).asStr.length<=1048576:=ht.txt _ (aj5 h _)
theorem aui (s:List UInt8) (xs:List (List UInt8)) (hx:xs.length<=9223372036854770000):abi (S93_3step 0) (s,xs.map PV.str,((xs.map PV.str).length:Int),((0:Nat):Int))=some (bif xs.all (fun x=>!alh x) then .inr s else .inl false):=by
 have h:=ai9 (step:=S93_3step 0) (fun i=>(s,xs.map PV.str,((xs.map PV.str).length:Int),(i:Int))) (xs.map PV.str).length (fun i=>!alh ((xs.map PV.str).getD i .bad).asStr) (.inl false) (.inr s)
  (fun i hi=>by
   have hl:i<=9223372036854775000:=by simp only [List.length_map] at hi;omega
   simp only [S93_3step,S93_3,ac0,hi,decide_true,cond_true,aab,Int.toNat_natCast,a1v,Option.bind_some,ab2 hl]
   cases alh ((xs.map PV.str).getD i .bad).asStr<;>rfl)
  (by simp only [S93_3step,S93_3,ac0,Nat.lt_irrefl,decide_false,cond_false]) (xs.map PV.str).length 0 (by omega)
 rw [h]
 have e:allF (fun i=>!alh ((xs.map PV.str).getD i .bad).asStr) 0 (xs.map PV.str).length=xs.all fun x=>!alh x:=by
  have:=aug (fun x:PV=>!alh x.asStr) .bad (xs.map PV.str)
  rw [this]
  simp [List.all_map,Function.comp_def,PV.asStr]
 rw [e]
theorem ase (s:List UInt8) (hs:s.length<=1048576):F93 0 s=some (defP s):=by
 have hlen:=apf 46 s
 unfold F93 defP
 rw [atg s hs,Option.bind_some,aaq,show (0:Int)=((0:Nat):Int) from rfl,aui s _ (by omega),Option.bind_some]
 cases h:(ads 46 s).all (fun x=>!alh x) with
 | true=>simp only [cond_true,aa3,ai5 s hs,Option.bind_some,Bool.and_true]
 | false=>simp only [cond_false,abl,Bool.and_false]
theorem a4i (s:List UInt8):F238 0 s=some (a5a s):=by
 unfold F238 a5a
 rw [ahc]
 cases agy s with
 | true=>simp only [Option.bind_some,cond_true,a1v,Bool.true_and]
 | false=>simp only [Option.bind_some,cond_false,Bool.false_and]
theorem a7o (s:List UInt8) (hs:s.length<=1048576):F229 0 s=some (alj s):=amw s hs
theorem aqp {T:List UInt8->Option Bool}{p:List UInt8->Bool} (hT:∀ s,s.length<=1048576->T s=some (p s)) {f:Q0->Option ((List UInt8×Q0)⊕(PV×Q0))} (k:Int) (hk:(k==0)=false)
 (hf:∀ s:Q0,f s=(F117 0 () s).bind fun y1=>bif y1.1 != k then some (.inr (PV.agg [PV.int y1.2.2.1,PV.int 2],y1.2)) else bif aaa y1.2.2.1 y1.2.1.length then (T ((y1.2.1.getD y1.2.2.1.toNat .bad).fld 1).asStr).bind fun y8=>
  bif !y8 then some (.inr (PV.agg [PV.int y1.2.2.1,PV.int 8],y1.2)) else some (.inl (((y1.2.1.getD y1.2.2.1.toNat .bad).fld 1).asStr,y1.2.1,IntKind.wrap .i64 (y1.2.2.1+1),y1.2.2.2)) else none)
 (t:List PV) (ht:TOk t) (i:Nat) (hi:i<=t.length) (q:QF):Par t q (fun v s=>(v,s)) (afz k p (ts t i)) (f (t,(i:Int),q)):=by
 have hl:=ht.len
 rw [hf,ad9,Option.bind_some]
 unfold afz
 by_cases hb:aap (ts t i)=k
 ·have e1:(aap (ts t i) != k)=false:=by rw [hb];simp
  have e2:(aap (ts t i)==k)=true:=by rw [hb];simp
  have h:i<t.length:=adh hk e2
  have hx:abw (ts t i)=((t.getD i .bad).fld 1).asStr:=by rw [ad6 h];rfl
  simp only [e1,e2,cond_false,cond_true,aab,h,decide_true,Int.toNat_natCast,hT _ (a3h ht h),Option.bind_some,hx,ab2 (show i<=9223372036854775000 by omega)]
  cases hp:p ((t.getD i .bad).fld 1).asStr with
  | true=>exact .ok _ (i+1) h (by rw [cond_true,aa0]) rfl
  | false=>exact .er i 8 hi (by decide) rfl rfl
 ·have e1:(aap (ts t i) != k)=true:=bneI hb
  have e2:(aap (ts t i)==k)=false:=beqI hb
  simp only [e1,e2,cond_true,cond_false]
  exact .er i 2 hi (by decide) rfl rfl
theorem a4u (t:List PV) (ht:TOk t) (i:Nat) (hi:i<=t.length) (q:QF):Par t q (fun v s=>(v,s)) (afz 1 defP (ts t i)) (F92 0 () 1 () (t,(i:Int),q)):=
 aqp (f:=fun s=>F92 0 () 1 () s) ase 1 rfl (fun s=>rfl) t ht i hi q
theorem agb (t:List PV) (ht:TOk t) (i:Nat) (hi:i<=t.length) (q:QF):Par t q (fun v s=>(v,s)) (aa9 (ts t i)) (F95 0 () (t,(i:Int),q)):=by
 have h:=aqp (f:=fun s=>F92_v1 0 () 3 () s) (T:=F201 0) (p:=fun _=>true) (fun s _=>rfl) 3 rfl (fun s=>rfl) t ht i hi q
 unfold F95
 rcases h with ⟨v,j,hj,hx,hy⟩ | ⟨j,e,hj,he,hx,hy⟩
 ·exact .ok v j hj hx (by simp only [hy,Option.bind_some,abl])
 ·exact .er j e hj he hx (by simp only [hy,Option.bind_some,aa3])
theorem ai1 (t:List PV) (ht:TOk t) (i:Nat) (hi:i<=t.length) (q:QF):Par t q (fun v s=>(v,s)) (anv (ts t i)) (F132 0 () (t,(i:Int),q)):=by
 have h:=aqp (f:=fun s=>F92_v3 0 () 1 () s) (T:=F238 0) (p:=a5a) (fun s _=>a4i s) 1 rfl (fun s=>rfl) t ht i hi q
 unfold F132
 rcases h with ⟨v,j,hj,hx,hy⟩ | ⟨j,e,hj,he,hx,hy⟩
 ·exact .ok v j hj hx (by simp only [hy,Option.bind_some,abl])
 ·exact .er j e hj he hx (by simp only [hy,Option.bind_some,aa3])
theorem ahn (t:List PV) (ht:TOk t) (i:Nat) (hi:i<=t.length) (q:QF):Par t q (fun v s=>(v,s)) (aey (ts t i)) (F115 0 () (t,(i:Int),q)):=by
 have h:=aqp (f:=fun s=>F92_v4 0 () 1 () s) (T:=F229 0) (p:=alj) (fun s hs=>a7o s hs) 1 rfl (fun s=>rfl) t ht i hi q
 unfold F115
 rcases h with ⟨v,j,hj,hx,hy⟩ | ⟨j,e,hj,he,hx,hy⟩
 ·exact .ok v j hj hx (by simp only [hy,Option.bind_some,abl])
 ·exact .er j e hj he hx (by simp only [hy,Option.bind_some,aa3])
theorem a62 {n most:Int} (h:-9223372036854775808<=n/\n<=9223372036854775807) (hm:0<=most/\most<=2147483647):decide (IntKind.wrap .u64 n>most)=!decide (0<=n/\n<=most):=by
 rw [IntKind.wrap_u64]
 by_cases hc:0<=n/\n<=most
 ·rw [decide_eq_true hc,decide_eq_false (by omega)];rfl
 ·rw [decide_eq_false hc,decide_eq_true (by omega)];rfl
theorem aqn (t:List PV) (ht:TOk t) (i:Nat) (hi:i<=t.length) (most:Int) (hm:0<=most/\most<=2147483647) (hn:∀ x,x∈t->-9223372036854775808<=(x.fld 2).asInt/\(x.fld 2).asInt<=9223372036854775807) (q:QF):
 Par t q (fun v s=>(v,s)) (numS most (ts t i)) (F209 0 () most (t,(i:Int),q)):=by
 have hl:=ht.len
 unfold F209 numS
 rw [ad9,Option.bind_some]
 by_cases hb:aap (ts t i)=2
 ·have e1:(aap (ts t i) != 2)=false:=by rw [hb];rfl
  have e2:(aap (ts t i)==2)=true:=by rw [hb];rfl
  have h:i<t.length:=adh rfl e2
  have hx:aih (ts t i)=((t.getD i .bad).fld 2).asInt:=by rw [ad6 h];rfl
  have hr:=hn _ (aj5 h .bad)
  simp only [e1,e2,cond_false,cond_true,aab,h,decide_true,Int.toNat_natCast,hx,ab2 (show i<=9223372036854775000 by omega),a62 hr hm]
  cases hp:decide (0<=((t.getD i .bad).fld 2).asInt/\((t.getD i .bad).fld 2).asInt<=most) with
  | true=>exact .ok _ (i+1) h (by rw [cond_true,aa0]) rfl
  | false=>exact .er i 6 hi (by decide) rfl rfl
 ·have e1:(aap (ts t i) != 2)=true:=bneI hb
  have e2:(aap (ts t i)==2)=false:=beqI hb
  simp only [e1,e2,cond_true,cond_false]
  exact .er i 2 hi (by decide) rfl rfl
end Go.Ab
namespace Go.Ab
open Go
set_option maxRecDepth 100000
noncomputable def parV (k:Int) (s:List UInt8):PV×Int:=(F239 0 k s).getD (adf,0)
def axp (k:Int) (s:List UInt8):Prop:=((k=1∨k=6∨k=8)/\s.length<=16384)∨(k=7/\∃ x:List UInt8,x.length<=16384/\s=aa6 x)∨((2<=k/\k<=5)/\∃ (neg:Bool) (u:Nat),u<18446744073709551616/\s=(bif neg then [45] else [])++decB u)
def adu:Prop:=∀ (k:Int) (s:List UInt8),axp k s->F239 0 k s=some (parV k s)
structure TNm (t:List PV):Prop extends TOk t where
 num:∀ x,x∈t->-9223372036854775808<=(x.fld 2).asInt/\(x.fld 2).asInt<=9223372036854775807
structure TNum (t:List PV):Prop extends TNm t where
 sml:∀ x,x∈t->(x.fld 1).asStr.length<=16384
inductive NP (t:List PV) (x:Rs PV) (y:Option (PV×Int×Int)):Prop
 | ok (v:PV) (j:Nat):j<=t.length->x=.ok v (ts t j)->y=some (v,((j:Nat):Int),0)->NP t x y
 | er (j:Nat) (e:Int) (z:PV):j<=t.length->e≠0->x=.er (ts t j) e->y=some (z,((j:Nat):Int),e)->NP t x y
theorem ao0 (t:List PV) (i:Nat) (s:List UInt8):F77 0 t (i:Int) s=some (isS 4 s (ts t i)):=by
 rw [bas]
 unfold sgn
 by_cases h:i<t.length
 ·rw [ad6 h];simp [h,isS,tkOf,axj,a9u]
 ·rw [afv (by omega)];simp [h,isS]
theorem aqx (t:List PV) (i:Nat):F158 0 t (i:Int)=some (aap (ts t i)):=by
 rw [axr]
 by_cases h:i<t.length
 ·rw [ad6 h,if_pos h];rfl
 ·rw [afv (by omega),if_neg h];rfl
theorem a8k {n:Int}:∃ u:Nat,u<18446744073709551616/\IntKind.wrap .u64 n=(u:Int)/\(IntKind.wrap .u64 n).toNat=u:=by
 obtain ⟨u,h1,h2⟩:=bau n
 exact ⟨u,h1,h2,by rw [h2];rfl⟩
theorem fmtB {u:Nat} (h:u<18446744073709551616):F135 0 (u:Int) 10=some (decB u):=by rw [a97 u h,anj (by omega)]
theorem a2g {t:List PV}{i:Nat} (h:i<t.length):aih (ts t i)=((t.getD i .bad).fld 2).asInt:=by rw [ad6 h];rfl
theorem ahu {t:List PV}{i:Nat} (h:i<t.length):abw (ts t i)=((t.getD i .bad).fld 1).asStr:=by rw [ad6 h];rfl
theorem auz {t:List PV}{i:Nat} (h:i<t.length):aap (ts t i)=((t.getD i .bad).fld 0).asInt:=by rw [ad6 h];rfl
theorem a8c {k:Int}{s:List UInt8}{t:List PV}{i:Nat} (h:i<t.length):isS k s (ts t i)=((((t.getD i .bad).fld 0).asInt==k)&&(((t.getD i .bad).fld 1).asStr==s)):=by rw [ad6 h];rfl
theorem a1t (po:adu) (k:Int) (hk:2<=k/\k<=5) (t:List PV) (ht:TNm t) (neg:Bool) (pre:List UInt8) (hp:pre=bif neg then [45] else []) (i:Nat) (hi:i<=t.length):NP t (intS parV k neg (ts t i))
 ((F158 0 t (i:Int)).bind fun y3=>bif (y3 != (2:Int)) then some (adf,(i:Int),(2:Int)) else
   bif aaa (i:Int) t.length then (F135 0 (IntKind.wrap .u64 ((t.getD (i:Int).toNat .bad).fld 2).asInt) (10:Int)).bind fun y9=>
   bif decide (pre.length+y9.length<=aa2) then (F239 0 k (pre++y9)).bind fun y10=>
   bif (y10.2 != (0:Int)) then some (adf,(i:Int),y10.2) else some (y10.1,(IntKind.wrap .i64 ((i:Int)+(1:Int))),(0:Int)) else none else none):=by
 have hl:=ht.len
 rw [aqx,Option.bind_some]
 unfold intS
 by_cases hb:aap (ts t i)=2
 ·have e1:(aap (ts t i) != 2)=false:=by rw [hb];rfl
  have e2:(aap (ts t i)==2)=true:=by rw [hb];rfl
  have h:i<t.length:=adh rfl e2
  obtain ⟨u,hu,h1,h2⟩:=a8k (n:=((t.getD i .bad).fld 2).asInt)
  have hlen:=ap8 u
  have hpl:pre.length<=1:=by subst hp;cases neg<;>simp
  have l1:decide (pre.length+(decB u).length<=aa2)=true:=agu (by omega)
  have hpo:=po k (pre++decB u) (Or.inr (Or.inr ⟨hk,neg,u,hu,by rw [hp]⟩))
  simp only [e1,e2,cond_false,cond_true,aab,h,decide_true,Int.toNat_natCast,h1,fmtB hu,Option.bind_some,l1,hpo,a2g h,<-hp]
  unfold valS
  by_cases hz:(parV k (pre++decB u)).2=0
  ·have z1:((parV k (pre++decB u)).2 != 0)=false:=by rw [hz];rfl
   have z2:((parV k (pre++decB u)).2==0)=true:=by rw [hz];rfl
   simp only [z1,z2,cond_true,cond_false,ab2 (show i<=9223372036854775000 by omega)]
   exact .ok _ (i+1) h (by rw [aa0]) rfl
  ·have z1:((parV k (pre++decB u)).2 != 0)=true:=bneI hz
   have z2:((parV k (pre++decB u)).2==0)=false:=beqI hz
   simp only [z1,z2,cond_true,cond_false]
   exact .er i _ _ hi hz rfl rfl
 ·have e1:(aap (ts t i) != 2)=true:=bneI hb
  have e2:(aap (ts t i)==2)=false:=beqI hb
  simp only [e1,e2,cond_true,cond_false]
  exact .er i 2 _ hi (by decide) rfl rfl
theorem arp (po:adu) (k:Int) (hk:2<=k/\k<=5) (t:List PV) (ht:TNm t) (i:Nat) (hi:i<=t.length):NP t (bif isS 4 [45] (ts t i) then intS parV k true (ts t i).tail else intS parV k false (ts t i)) (F260 0 k t (i:Int)):=by
 have hl:=ht.len
 have hw:IntKind.wrap .i64 ((i:Int)+1)=((i+1:Nat):Int):=ab2 (by omega)
 unfold F260
 rw [ao0,Option.bind_some]
 cases hs:isS 4 [45] (ts t i) with
 | true=>
  have:=a1t po k hk t ht true [45] rfl (i+1) (adb hs)
  simp only [hw,cond_true,aa0]
  exact this
 | false=>
  have:=a1t po k hk t ht false [] rfl i hi
  simp only [cond_false]
  exact this
theorem parB1:F239 0 1 [116,114,117,101]=some (adn 1 1 [],0):=by kernel_rfl
theorem parB0:F239 0 1 [102,97,108,115,101]=some (adn 1 0 [],0):=by kernel_rfl
theorem fits7 (x:List UInt8) (h:x.length<=4096):F146 0 7 (PV.agg [(PV.int 7),(PV.int (0:Int)),(PV.str x),(PV.slice []),(PV.slice []),(PV.slice []),(PV.slice [])])=some (valid x):=by
 have hsm:aw9 (PV.agg [(PV.int 7),(PV.int (0:Int)),(PV.str x),(PV.slice []),(PV.slice []),(PV.slice []),(PV.slice [])]):=⟨Nat.zero_le _,by show x.length<=1048576;omega,by show (0:Int)<=0;omega,by show (0:Int)<18446744073709551616;omega⟩
 have hle:decide (x.length<=4096)=true:=decide_eq_true h
 rw [a58 _ _ hsm]
 congr 1
 unfold ay0 amy aef ae3 vLists
 simp [PV.fld,PV.parts,PV.asInt,PV.asStr,PV.asList,ak7,adj,hle]
theorem a5w (po:adu) (k:Int) (hk:k=1∨k=7∨k=3∨k=4) (t:List PV) (ht:TNm t) (i:Nat) (hi:i<=t.length):NP t (ac3 parV k (ts t i)) (F159 0 k t (i:Int)):=by
 have hl:=ht.len
 have hw:IntKind.wrap .i64 ((i:Int)+1)=((i+1:Nat):Int):=ab2 (by omega)
 unfold F159 ac3
 simp only [aqx]
 rcases hk with rfl | rfl | rfl | rfl
 · -- bool
  simp only [show ((1:Int)==1)=true from rfl,cond_true,Option.bind_some,show ((1:Int)==7)=false from rfl,show ((1:Int)==4)=false from rfl,show ((1:Int)==3)=false from rfl,cond_false]
  by_cases hlt:i<t.length
  ·simp only [aab,hlt,decide_true,imp,cond_true,aah,Int.toNat_natCast,auz hlt,a8c hlt]
   cases hn:(((t.getD i .bad).fld 0).asInt==1) with
   | true=>
    cases h1:(((t.getD i .bad).fld 1).asStr==[116,114,117,101]) with
    | true=>
     have e:=eq_of_beq h1
     simp only [cond_true,Bool.and_self,e,parB1,Option.bind_some,hw,Bool.not_true,cond_false,aah]
     exact .ok _ (i+1) hlt (by rw [aa0]) rfl
    | false=>
     cases h2:(((t.getD i .bad).fld 1).asStr==[102,97,108,115,101]) with
     | true=>
      have e:=eq_of_beq h2
      simp only [cond_true,cond_false,Bool.and_false,Bool.and_self,e,parB0,Option.bind_some,hw,Bool.not_false,aah]
      exact .ok _ (i+1) hlt (by rw [aa0]) rfl
     | false=>
      simp only [cond_true,cond_false,Bool.and_false,Bool.not_false,aah]
      exact .er i 2 _ hi (by decide) rfl rfl
   | false=>
    simp only [cond_false,Bool.false_and,aah,Bool.not_false,cond_true]
    exact .er i 2 _ hi (by decide) rfl rfl
  ·have:ts t i=[]:=afv (by omega)
   simp only [this,aap,isS,show ((0:Int)==1)=false from rfl,cond_false,imp,Bool.not_false,cond_true,aah]
   exact .er i 2 _ hi (by decide) (by rw [this]) rfl
 · -- text
  simp only [show ((7:Int)==1)=false from rfl,show ((7:Int)==7)=true from rfl,cond_false,cond_true,Option.bind_some,imp,Bool.not_false,aah]
  cases hn:(aap (ts t i)==3) with
  | false=>
   simp only [cond_false,show ((7:Int)==4)=false from rfl,show ((7:Int)==3)=false from rfl]
   exact .er i 2 _ hi (by decide) rfl rfl
  | true=>
   have hlt:=adh (show ((3:Int)==0)=false from rfl) hn
   simp only [aab,hlt,decide_true,cond_true,Int.toNat_natCast,ahu hlt]
   obtain ⟨x,hx⟩:∃ x,((t.getD i .bad).fld 1).asStr=x:=⟨_,rfl⟩
   simp only [hx]
   by_cases hle:x.length>4096
   ·have b3:decide ((x.length:Int)>4096)=true:=decide_eq_true (by omega)
    have b4:decide (x.length>4096)=true:=decide_eq_true hle
    simp only [b3,b4,cond_true]
    exact .er i 3 _ hi (by decide) rfl rfl
   ·have b3:decide ((x.length:Int)>4096)=false:=decide_eq_false (by omega)
    have b4:decide (x.length>4096)=false:=decide_eq_false hle
    simp only [b3,b4,cond_false,fits7 x (by omega),Option.bind_some,hw]
    cases valid x with
    | true=>exact .ok _ (i+1) hlt (by rw [cond_true,aa0];rfl) rfl
    | false=>exact .er i 7 _ hi (by decide) rfl rfl
 ·have hn:=arp po 3 (by decide) t ht i hi
  simp only [show ((3:Int)==1)=false from rfl,show ((3:Int)==7)=false from rfl,show ((3:Int)==4)=false from rfl,show ((3:Int)==3)=true from rfl,cond_false,cond_true,Option.bind_some,imp,Bool.not_false,aah]
  rcases hn with ⟨v,j,hj,hx,hy⟩ | ⟨j,e,z,hj,he,hx,hy⟩
  ·exact .ok v j hj hx (by simp only [hy,Option.bind_some])
  ·exact .er j e z hj he hx (by simp only [hy,Option.bind_some])
 ·have hn:=arp po 4 (by decide) t ht i hi
  simp only [show ((4:Int)==1)=false from rfl,show ((4:Int)==7)=false from rfl,show ((4:Int)==4)=true from rfl,cond_false,cond_true,Option.bind_some,imp,Bool.not_false,aah]
  rcases hn with ⟨v,j,hj,hx,hy⟩ | ⟨j,e,z,hj,he,hx,hy⟩
  ·exact .ok v j hj hx (by simp only [hy,Option.bind_some])
  ·exact .er j e z hj he hx (by simp only [hy,Option.bind_some])
theorem a8h (po:adu) (t:List PV) (ht:TNm t) (i:Nat) (hi:i<=t.length):NP t (ak1 parV aae (ts t i)) (F78 0 t (i:Int)):=by
 have hl:=ht.len
 have hw:IntKind.wrap .i64 ((i:Int)+1)=((i+1:Nat):Int):=ab2 (by omega)
 have hw2:IntKind.wrap .i64 ((i:Int)+2)=((i+2:Nat):Int):=by rw [abf (by omega) (by omega)];omega
 unfold F78 ak1
 rw [aqx,Option.bind_some]
 by_cases hb:aap (ts t i)=1
 ·have e1:(aap (ts t i) != 1)=false:=by rw [hb];rfl
  have e2:(aap (ts t i)==1)=true:=by rw [hb];rfl
  have hlt:i<t.length:=adh rfl e2
  simp only [e1,e2,cond_false,cond_true,aab,hlt,decide_true,Int.toNat_natCast,a91,Option.bind_some,ahu hlt,hw,hw2,ao0]
  generalize hx:((t.getD i .bad).fld 1).asStr=x
  cases hk:(aae x==0) with
  | true=>
   simp only [cond_true]
   exact .er i 8 _ hi (by decide) rfl rfl
  | false=>
   have hne:aae x≠0:=by simpa using hk
   simp only [cond_false,aa0,eatS]
   cases hs:isS 4 [61] (ts t (i+1)) with
   | false=>
    have hm:(if (t.length:Int)<((i+1:Nat):Int) then (t.length:Int) else ((i+1:Nat):Int))=((i+1:Nat):Int):=if_neg (by omega)
    simp only [cond_false,Rs.bind,Bool.not_false,cond_true,hm]
    exact .er (i+1) 2 _ hlt (by decide) rfl rfl
   | true=>
    have hlt2:=adb hs
    simp only [cond_true,Rs.bind,Bool.not_true,cond_false,aa0]
    rcases a5w po (aae x) (atp hne) t ht (i+1+1) hlt2 with ⟨v,j,hj,hx,hy⟩ | ⟨j,e,z,hj,he,hx,hy⟩
    ·rw [show ((i+2:Nat):Int)=((i+1+1:Nat):Int) from rfl,hx,hy]
     exact .ok _ j hj rfl rfl
    ·rw [show ((i+2:Nat):Int)=((i+1+1:Nat):Int) from rfl,hx,hy]
     exact .er j e _ hj he rfl rfl
 ·have e1:(aap (ts t i) != 1)=true:=bneI hb
  have e2:(aap (ts t i)==1)=false:=beqI hb
  simp only [e1,e2,cond_true,cond_false]
  exact .er i 2 _ hi (by decide) rfl rfl
inductive NL (t:List PV) (x:Rs (List PV)) (y:Option (List PV×Int×Int)):Prop
 | ok (v:List PV) (j:Nat):j<=t.length->x=.ok v (ts t j)->y=some (v,((j:Nat):Int),0)->NL t x y
 | er (j:Nat) (e:Int):j<=t.length->e≠0->x=.er (ts t j) e->y=some ([],((j:Nat):Int),e)->NL t x y
theorem a4v (po:adu) (t:List PV) (ht:TNm t):∀ (m i:Nat) (acc:List PV),t.length-i<=m->i<t.length->acc.length<=i->NL t (ab3 parV aae (ts t (i+1)) acc) (abi (S36_5step 0) (t,(i:Int),acc)):=by
 have hl:=ht.len
 intro m
 induction m with
 | zero=>intro i acc hm hi ha;omega
 | succ m ih=>
  intro i acc hm hi ha
  have hw:IntKind.wrap .i64 ((i:Int)+1)=((i+1:Nat):Int):=ab2 (by omega)
  have acm:∀ x:PV,decide (acc.length+[x].length<=aal)=true:=fun x=>decide_eq_true (by unfold aal;simp;omega)
  rw [aby]
  have hn:=a8h po t ht (i+1) hi
  have hsh:=akl parV aae (ts t (i+1))
  rcases hn with ⟨v,j,hj,hx,hy⟩ | ⟨j,e,z,hj,he,hx,hy⟩
  ·have hij:i+1<j:=by
    have:=hsh v _ hx
    rw [abm,abm] at this
    omega
   have hwj:IntKind.wrap .i64 ((j:Int)+1)=((j+1:Nat):Int):=ab2 (by omega)
   simp only [hx,Rs.bind]
   cases h1:isS 4 [93] (ts t j) with
   | true=>
    refine .ok (acc++[v]) (j+1) (adb h1) (by rw [cond_true,aa0]) (aac ?_)
    simp only [S36_5step,S36_5,hw,hy,Option.bind_some,show ((0:Int) != 0)=false from rfl,cond_false,acm,cond_true,ao0,h1,hwj]
   | false=>
    cases h2:isS 4 [44] (ts t j) with
    | true=>
     have hjl:=adb h2
     have st:S36_5step 0 (t,(i:Int),acc)=some (.inl (t,((j:Nat):Int),acc++[v])):=by
      simp only [S36_5step,S36_5,hw,hy,Option.bind_some,show ((0:Int) != 0)=false from rfl,cond_false,acm,cond_true,ao0,h1,h2,Bool.not_true]
     rw [aax st,cond_false,cond_true,aa0]
     exact ih j (acc++[v]) (by omega) hjl (by simp;omega)
    | false=>
     refine .er j 2 hj (by decide) rfl (aac ?_)
     simp only [S36_5step,S36_5,hw,hy,Option.bind_some,show ((0:Int) != 0)=false from rfl,cond_false,acm,cond_true,ao0,h1,h2,Bool.not_false]
  ·simp only [hx,Rs.bind]
   refine .er j e hj he rfl (aac ?_)
   simp only [S36_5step,S36_5,hw,hy,Option.bind_some,bneI he,cond_true]
theorem a7f (po:adu) (t:List PV) (ht:TNm t) (i:Nat) (hi:i<=t.length):NL t (acw parV aae (ts t i)) (F36 0 t (i:Int)):=by
 unfold F36 acw
 rw [ao0,Option.bind_some]
 cases h:isS 4 [91] (ts t i) with
 | false=>exact .ok [] i hi rfl rfl
 | true=>
  simp only [Bool.not_true,cond_false,cond_true,aaq,aa0]
  rcases a4v po t ht _ i [] (Nat.le_refl _) (adb h) (by simp) with ⟨v,j,hj,hx,hy⟩ | ⟨j,e,hj,he,hx,hy⟩
  ·exact .ok v j hj hx (by rw [hy];rfl)
  ·exact .er j e hj he hx (by rw [hy];rfl)
theorem afi (po:adu) (t:List PV) (ht:TNm t) (i:Nat) (hi:i<=t.length) (q:QF):Par t q (fun v s=>(v,s)) (acw parV aae (ts t i)) (F205 0 () (t,(i:Int),q)):=by
 unfold F205
 rcases a7f po t ht i hi with ⟨v,j,hj,hx,hy⟩ | ⟨j,e,hj,he,hx,hy⟩
 ·exact .ok v j hj hx (by simp only [hy,Option.bind_some];rfl)
 ·exact .er j e hj he hx (by simp only [hy,Option.bind_some,bneI he,cond_true])
end Go.Ab
namespace Go.Ab
open Go Go.Proofs
set_option maxRecDepth 100000
theorem a2l (w:List UInt8) (h:w≠[98,111,111,108]/\w≠[105,51,50]/\w≠[105,54,52]/\w≠[117,51,50]/\w≠[117,54,52]/\w≠[100,111,117,98,108,101]/\w≠[116,101,120,116]/\w≠[98,121,116,101,115]):∃ n,F19 0 w=some n/\n=0:=by
 obtain ⟨h1,h2,h3,h4,h5,h6,h7,h8⟩:=h
 have g1:(([98,111,111,108]:List UInt8)==w)=false:=by rw [beq_eq_false_iff_ne];exact fun h=>h1 h.symm
 have g2:(([105,51,50]:List UInt8)==w)=false:=by rw [beq_eq_false_iff_ne];exact fun h=>h2 h.symm
 have g3:(([105,54,52]:List UInt8)==w)=false:=by rw [beq_eq_false_iff_ne];exact fun h=>h3 h.symm
 have g4:(([117,51,50]:List UInt8)==w)=false:=by rw [beq_eq_false_iff_ne];exact fun h=>h4 h.symm
 have g5:(([117,54,52]:List UInt8)==w)=false:=by rw [beq_eq_false_iff_ne];exact fun h=>h5 h.symm
 have g6:(([100,111,117,98,108,101]:List UInt8)==w)=false:=by rw [beq_eq_false_iff_ne];exact fun h=>h6 h.symm
 have g7:(([116,101,120,116]:List UInt8)==w)=false:=by rw [beq_eq_false_iff_ne];exact fun h=>h7 h.symm
 have g8:(([98,121,116,101,115]:List UInt8)==w)=false:=by rw [beq_eq_false_iff_ne];exact fun h=>h8 h.symm
 refine ⟨0,?_,rfl⟩
 unfold F19
 simp only [aaq]
 have e:abi (S19_3step 0) (w,(1:Int))=some (.inr ()):=by
  refine aa1 9 ?_
  simp [adp,S19_3step,S19_3,F21,g1,g2,g3,g4,g5,g6,g7,g8,(by decide:IntKind.wrap .i64 2=2),(by decide:IntKind.wrap .i64 3=3),(by decide:IntKind.wrap .i64 4=4),(by decide:IntKind.wrap .i64 5=5),(by decide:IntKind.wrap .i64 6=6),(by decide:IntKind.wrap .i64 7=7),(by decide:IntKind.wrap .i64 8=8),(by decide:IntKind.wrap .i64 9=9)]
 rw [e];rfl
theorem axz (w:List UInt8):∃ n,F18 0 w=some n/\F19 0 w=some n:=by
 by_cases h1:w=[98,111,111,108]
 ·subst h1
  refine ⟨1,?_,?_⟩
  ·unfold F18 F49;simp only [Option.bind_some,aaq];rw [aa1 9 (y:=.inl 1) (by kernel_rfl)];rfl
  ·unfold F19;simp only [aaq];rw [aa1 9 (y:=.inl 1) (by kernel_rfl)];rfl
 by_cases h2:w=[105,51,50]
 ·subst h2
  refine ⟨2,?_,?_⟩
  ·unfold F18 F49;simp only [Option.bind_some,aaq];rw [aa1 9 (y:=.inl 2) (by kernel_rfl)];rfl
  ·unfold F19;simp only [aaq];rw [aa1 9 (y:=.inl 2) (by kernel_rfl)];rfl
 by_cases h3:w=[105,54,52]
 ·subst h3
  refine ⟨3,?_,?_⟩
  ·unfold F18 F49;simp only [Option.bind_some,aaq];rw [aa1 9 (y:=.inl 3) (by kernel_rfl)];rfl
  ·unfold F19;simp only [aaq];rw [aa1 9 (y:=.inl 3) (by kernel_rfl)];rfl
 by_cases h4:w=[117,51,50]
 ·subst h4
  refine ⟨4,?_,?_⟩
  ·unfold F18 F49;simp only [Option.bind_some,aaq];rw [aa1 9 (y:=.inl 4) (by kernel_rfl)];rfl
  ·unfold F19;simp only [aaq];rw [aa1 9 (y:=.inl 4) (by kernel_rfl)];rfl
 by_cases h5:w=[117,54,52]
 ·subst h5
  refine ⟨5,?_,?_⟩
  ·unfold F18 F49;simp only [Option.bind_some,aaq];rw [aa1 9 (y:=.inl 5) (by kernel_rfl)];rfl
  ·unfold F19;simp only [aaq];rw [aa1 9 (y:=.inl 5) (by kernel_rfl)];rfl
 by_cases h6:w=[100,111,117,98,108,101]
 ·subst h6
  refine ⟨6,?_,?_⟩
  ·unfold F18 F49;simp only [Option.bind_some,aaq];rw [aa1 9 (y:=.inl 6) (by kernel_rfl)];rfl
  ·unfold F19;simp only [aaq];rw [aa1 9 (y:=.inl 6) (by kernel_rfl)];rfl
 by_cases h7:w=[116,101,120,116]
 ·subst h7
  refine ⟨7,?_,?_⟩
  ·unfold F18 F49;simp only [Option.bind_some,aaq];rw [aa1 9 (y:=.inl 7) (by kernel_rfl)];rfl
  ·unfold F19;simp only [aaq];rw [aa1 9 (y:=.inl 7) (by kernel_rfl)];rfl
 by_cases h8:w=[98,121,116,101,115]
 ·subst h8
  refine ⟨8,?_,?_⟩
  ·unfold F18 F49;simp only [Option.bind_some,aaq];rw [aa1 9 (y:=.inl 8) (by kernel_rfl)];rfl
  ·unfold F19;simp only [aaq];rw [aa1 9 (y:=.inl 8) (by kernel_rfl)];rfl
 have g1:(([98,111,111,108]:List UInt8)==w)=false:=by rw [beq_eq_false_iff_ne];exact fun h=>h1 h.symm
 have g2:(([105,51,50]:List UInt8)==w)=false:=by rw [beq_eq_false_iff_ne];exact fun h=>h2 h.symm
 have g3:(([105,54,52]:List UInt8)==w)=false:=by rw [beq_eq_false_iff_ne];exact fun h=>h3 h.symm
 have g4:(([117,51,50]:List UInt8)==w)=false:=by rw [beq_eq_false_iff_ne];exact fun h=>h4 h.symm
 have g5:(([117,54,52]:List UInt8)==w)=false:=by rw [beq_eq_false_iff_ne];exact fun h=>h5 h.symm
 have g6:(([100,111,117,98,108,101]:List UInt8)==w)=false:=by rw [beq_eq_false_iff_ne];exact fun h=>h6 h.symm
 have g7:(([116,101,120,116]:List UInt8)==w)=false:=by rw [beq_eq_false_iff_ne];exact fun h=>h7 h.symm
 have g8:(([98,121,116,101,115]:List UInt8)==w)=false:=by rw [beq_eq_false_iff_ne];exact fun h=>h8 h.symm
 refine ⟨0,?_,?_⟩
 ·unfold F18 F49
  simp only [Option.bind_some,aaq]
  have e:abi (S18_3step 0) (w,PV.agg [(PV.str ([98,111,111,108]:List UInt8)),(PV.str ([105,51,50]:List UInt8)),(PV.str ([105,54,52]:List UInt8)),(PV.str ([117,51,50]:List UInt8)),(PV.str ([117,54,52]:List UInt8)),(PV.str ([100,111,117,98,108,101]:List UInt8)),(PV.str ([116,101,120,116]:List UInt8)),(PV.str ([98,121,116,101,115]:List UInt8))],(0:Int))=some (.inr ()):=by
   refine aa1 9 ?_
   simp [adp,S18_3step,S18_3,aaa,PV.fld,PV.parts,PV.asStr,g1,g2,g3,g4,g5,g6,g7,g8,(by decide:IntKind.wrap .i64 1=1),(by decide:IntKind.wrap .i64 2=2),(by decide:IntKind.wrap .i64 3=3),(by decide:IntKind.wrap .i64 4=4),(by decide:IntKind.wrap .i64 5=5),(by decide:IntKind.wrap .i64 6=6),(by decide:IntKind.wrap .i64 7=7),(by decide:IntKind.wrap .i64 8=8)]
  rw [e];rfl
 ·unfold F19
  simp only [aaq]
  have e:abi (S19_3step 0) (w,(1:Int))=some (.inr ()):=by
   refine aa1 9 ?_
   simp [adp,S19_3step,S19_3,F21,g1,g2,g3,g4,g5,g6,g7,g8,(by decide:IntKind.wrap .i64 2=2),(by decide:IntKind.wrap .i64 3=3),(by decide:IntKind.wrap .i64 4=4),(by decide:IntKind.wrap .i64 5=5),(by decide:IntKind.wrap .i64 6=6),(by decide:IntKind.wrap .i64 7=7),(by decide:IntKind.wrap .i64 8=8),(by decide:IntKind.wrap .i64 9=9)]
  rw [e];rfl
end Go.Ab
namespace Go.Ab
open Go
set_option maxRecDepth 100000
theorem a8a {t:List PV}{j k:Nat} (hj:j<=t.length) (hk:k<=t.length) (h:ts t j=ts t k):j=k:=by
 have:=congrArg List.length h
 rw [abm,abm] at this
 omega
theorem awi (w:List UInt8):F18 0 w=some (aex w)/\F19 0 w=some (aex w):=by
 obtain ⟨n,h1,h2⟩:=axz w
 suffices h:n=aex w by rw [<-h];exact ⟨h1,h2⟩
 have hs:∀ (x:List UInt8) (k:Int),F19 0 x=some k->w=x->n=k:=fun x k hk e=>by
  subst e;rw [h2] at hk;cases hk;rfl
 unfold aex
 by_cases e1:w=[98,111,111,108]
 ·rw [hs _ 1 (by unfold F19;simp only [aaq];rw [aa1 9 (y:=.inl 1) (by kernel_rfl)];rfl) e1,e1];rfl
 by_cases e2:w=[105,51,50]
 ·rw [hs _ 2 (by unfold F19;simp only [aaq];rw [aa1 9 (y:=.inl 2) (by kernel_rfl)];rfl) e2,e2];rfl
 by_cases e3:w=[105,54,52]
 ·rw [hs _ 3 (by unfold F19;simp only [aaq];rw [aa1 9 (y:=.inl 3) (by kernel_rfl)];rfl) e3,e3];rfl
 by_cases e4:w=[117,51,50]
 ·rw [hs _ 4 (by unfold F19;simp only [aaq];rw [aa1 9 (y:=.inl 4) (by kernel_rfl)];rfl) e4,e4];rfl
 by_cases e5:w=[117,54,52]
 ·rw [hs _ 5 (by unfold F19;simp only [aaq];rw [aa1 9 (y:=.inl 5) (by kernel_rfl)];rfl) e5,e5];rfl
 by_cases e6:w=[100,111,117,98,108,101]
 ·rw [hs _ 6 (by unfold F19;simp only [aaq];rw [aa1 9 (y:=.inl 6) (by kernel_rfl)];rfl) e6,e6];rfl
 by_cases e7:w=[116,101,120,116]
 ·rw [hs _ 7 (by unfold F19;simp only [aaq];rw [aa1 9 (y:=.inl 7) (by kernel_rfl)];rfl) e7,e7];rfl
 by_cases e8:w=[98,121,116,101,115]
 ·rw [hs _ 8 (by unfold F19;simp only [aaq];rw [aa1 9 (y:=.inl 8) (by kernel_rfl)];rfl) e8,e8];rfl
 have g:∀ x:List UInt8,w≠x->(w==x)=false:=fun x h=>beq_eq_false_iff_ne.2 h
 rw [g _ e1,g _ e2,g _ e3,g _ e4,g _ e5,g _ e6,g _ e7,g _ e8]
 obtain ⟨m,q1,q2⟩:=a2l w ⟨e1,e2,e3,e4,e5,e6,e7,e8⟩
 rw [h2] at q1;cases q1
 exact q2
theorem avy (t:List PV) (ht:TOk t) (i:Nat) (hi:i<=t.length) (q:QF):Par t q (fun v s=>(v,s)) (typS (ts t i)) (F52 0 () (t,(i:Int),q)):=by
 unfold F52 typS
 rcases ahn t ht i hi q with ⟨v,j,hj,hx,hy⟩ | ⟨j,e,hj,he,hx,hy⟩
 ·rw [hx,Rs.bind_ok]
  simp only [hy,Option.bind_some,abl,(awi v).1]
  refine .ok (tyOf v) j hj rfl ?_
  unfold tyOf
  cases h:(aex v==0) with
  | true=>have:(aex v != 0)=false:=by simp [bne,h]
          simp only [this,cond_true,cond_false]
  | false=>have:(aex v != 0)=true:=by simp [bne,h]
           simp only [this,cond_true,cond_false]
 ·rw [hx,Rs.bind_er]
  exact .er j e hj he rfl (by simp only [hy,Option.bind_some,aa3])
theorem a08 (w:List UInt8):0<=aex w/\aex w<=8:=by
 unfold aex
 cases (w==[98,111,111,108])<;>cases (w==[105,51,50])<;>cases (w==[105,54,52])<;>cases (w==[117,51,50])<;>cases (w==[117,54,52])<;>cases (w==[100,111,117,98,108,101])<;>cases (w==[116,101,120,116])<;>cases (w==[98,121,116,101,115])<;>decide
theorem ark (s:List UInt8):0<=((tyOf s).fld 0).asInt/\((tyOf s).fld 0).asInt<=8:=by
 unfold tyOf
 cases (aex s==0) with
 | true=>exact ⟨Int.le_refl 0,(by decide:(0:Int)<=8)⟩
 | false=>exact a08 s
theorem awh {r z:List Tk}{ty:PV} (h:typS r=.ok ty z):0<=(ty.fld 0).asInt/\(ty.fld 0).asInt<=8:=by
 unfold typS at h
 cases hx:aey r with
 | ok s q=>rw [hx] at h;simp only [Rs.bind_ok,Rs.ok.injEq] at h;rw [<-h.1];exact ark s
 | er q e=>rw [hx] at h;cases h
theorem aj9 (po:adu) (k:Int) (s:List UInt8) (hs:axp k s) (t:List PV) (ht:TOk t) (j:Nat) (hj:j+1<=t.length) (q:QF):
 Par t q (fun v s=>(v,s)) (valS (parV k s) (ts t j) (ts t (j+1))) (F133 0 () k s (t,((j+1:Nat):Int),q)):=by
 have hl:=ht.len
 have w:IntKind.wrap .i64 (((j+1:Nat):Int)-1)=(j:Int):=by rw [abf (by omega) (by omega)];omega
 unfold F133 valS
 rw [po k s hs,Option.bind_some]
 by_cases hz:(parV k s).2=0
 ·have z1:((parV k s).2 != 0)=false:=by rw [hz];rfl
  have z2:((parV k s).2==0)=true:=by rw [hz];rfl
  simp only [z1,z2,cond_true,cond_false]
  exact .ok _ (j+1) hj rfl rfl
 ·simp only [bneI hz,beqI hz,cond_true,cond_false,w]
  exact .er j _ (by omega) hz rfl rfl
theorem ayj {t:List PV}{i j:Nat}{v:List UInt8} (hj:j<=t.length) (h:aa9 (ts t i)=.ok v (ts t j)):i<t.length/\v=((t.getD i .bad).fld 1).asStr/\j=i+1:=by
 unfold aa9 afz at h
 cases hb:(aap (ts t i)==3) with
 | false=>rw [hb] at h;cases h
 | true=>
  have hlt:=adh (show ((3:Int)==0)=false from rfl) hb
  rw [hb,ahu hlt,aa0] at h
  simp only [cond_true,Rs.ok.injEq] at h
  exact ⟨hlt,h.1.symm,a8a hj hlt h.2.symm⟩
theorem anw (po:adu) (k:Int) (f:List UInt8->List UInt8) (hf:∀ s:List UInt8,s.length<=16384->axp k (f s)) (g:List UInt8×Q0->Option (List UInt8)) (hg:∀ (s:List UInt8) z,s.length<=16384->g (s,z)=some (f s)) (t:List PV) (ht:TNum t) (i:Nat) (hi:i<=t.length) (q:QF):
 Par t q (fun v s=>(v,s)) ((aa9 (ts t i)).bind fun s r=>valS (parV k (f s)) (ts t i) r) ((F95 0 () (t,(i:Int),q)).bind fun z=>sumE (fun y31=>(g y31).bind fun y43=>(F133 0 () k y43 y31.2).bind fun z=>sumE (fun y33=>some (.inl y33)) (fun y34=>some (.inr y34)) z) (fun y32=>some (.inr y32)) z):=by
 rcases agb t ht.toTOk i hi q with ⟨v,j,hj,hx,hy⟩ | ⟨j,e,hj,he,hx,hy⟩
 ·obtain ⟨hlt,rfl,rfl⟩:=ayj hj hx
  have hs:=ht.sml _ (aj5 hlt .bad)
  simp only [hx,hy,Rs.bind_ok,Option.bind_some,abl,hg _ _ hs]
  rcases aj9 po k _ (hf _ hs) t ht.toTOk i hlt q with ⟨v,j,hj,hx,hy⟩ | ⟨j,e,hj,he,hx,hy⟩
  ·exact .ok v j hj hx (by simp only [hy,Option.bind_some,abl])
  ·exact .er j e hj he hx (by simp only [hy,Option.bind_some,aa3])
 ·simp only [hx,hy,Rs.bind_er,Option.bind_some,aa3]
  exact .er j e hj he rfl rfl
theorem aph (po:adu) (k:Int) (hk:2<=k/\k<=5) (t:List PV) (ht:TNum t) (neg:Bool) (pre:List UInt8) (hp:pre=bif neg then [45] else []) (i:Nat) (hi:i<=t.length) (q:QF):Par t q (fun v s=>(v,s)) (intS parV k neg (ts t i))
 ((F117 0 () (t,(i:Int),q)).bind fun y60=>bif (y60.1 != (2:Int)) then some (.inr ((PV.agg [(PV.int y60.2.2.1),(PV.int (2:Int))]),y60.2)) else
   bif aaa (IntKind.wrap .i64 (IntKind.wrap .i64 (y60.2.2.1+(1:Int))-1)) y60.2.1.length then
   (F135 0 (IntKind.wrap .u64 ((y60.2.1.getD (IntKind.wrap .i64 (IntKind.wrap .i64 (y60.2.2.1+(1:Int))-1)).toNat .bad).fld 2).asInt) (10:Int)).bind fun y70=>
   bif decide (pre.length+y70.length<=aa2) then
   (F133 0 () k (pre++y70) (y60.2.1,IntKind.wrap .i64 (y60.2.2.1+(1:Int)),y60.2.2.2)).bind fun z=>sumE (fun y71=>some (.inl y71)) (fun y72=>some (.inr y72)) z
   else none else none):=by
 have hl:=ht.len
 rw [ad9,Option.bind_some]
 unfold intS
 by_cases hb:aap (ts t i)=2
 ·have e1:(aap (ts t i) != 2)=false:=by rw [hb];rfl
  have e2:(aap (ts t i)==2)=true:=by rw [hb];rfl
  have h:i<t.length:=adh rfl e2
  obtain ⟨u,hu,h1,h2⟩:=a8k (n:=((t.getD i .bad).fld 2).asInt)
  have hlen:=ap8 u
  have hpl:pre.length<=1:=by subst hp;cases neg<;>simp
  have l1:decide (pre.length+(decB u).length<=aa2)=true:=agu (by omega)
  have w1:IntKind.wrap .i64 ((i:Int)+1)=((i+1:Nat):Int):=ab2 (by omega)
  have w2:IntKind.wrap .i64 (((i+1:Nat):Int)-1)=(i:Int):=by rw [abf (by omega) (by omega)];omega
  simp only [e1,e2,cond_false,cond_true,w1,w2,aab,h,decide_true,Int.toNat_natCast,h1,fmtB hu,Option.bind_some,l1,a2g h,<-hp,aa0]
  rcases aj9 po k (pre++decB u) (Or.inr (Or.inr ⟨hk,neg,u,hu,by rw [hp]⟩)) t ht.toTOk i h q with ⟨v,j,hj,hx,hy⟩ | ⟨j,e,hj,he,hx,hy⟩
  ·exact .ok v j hj hx (by simp only [hy,Option.bind_some,abl])
  ·exact .er j e hj he hx (by simp only [hy,Option.bind_some,aa3])
 ·simp only [bneI hb,beqI hb,cond_true,cond_false]
  exact .er i 2 hi (by decide) rfl rfl
theorem a8u (po:adu) (k:Int) (hk:0<=k/\k<=8) (t:List PV) (ht:TNum t) (i:Nat) (hi:i<=t.length) (q:QF):Par t q (fun v s=>(v,s)) (litS parV k (ts t i)) (F63 0 () k (t,(i:Int),q)):=by
 have hl:=ht.len
 unfold F63 litS
 by_cases k0:k=0
 ·subst k0
  rw [show ((0:Int)==0)=true from rfl,cond_true,cond_true]
  rcases ai1 t ht.toTOk i hi q with ⟨v,j,hj,hx,hy⟩ | ⟨j,e,hj,he,hx,hy⟩
  ·simp only [hx,hy,Rs.bind_ok,Option.bind_some,abl]
   exact .ok (azw v) j hj rfl rfl
  ·simp only [hx,hy,Rs.bind_er,Option.bind_some,aa3]
   exact .er j e hj he rfl rfl
 rw [beqI k0,cond_false,cond_false]
 by_cases k1:k=1
 ·subst k1
  rw [show ((1:Int)==1)=true from rfl,cond_true,cond_true]
  have w1:IntKind.wrap .i64 ((i:Int)+1)=((i+1:Nat):Int):=ab2 (by omega)
  have w2:IntKind.wrap .i64 (((i+1:Nat):Int)-1)=(i:Int):=by rw [abf (by omega) (by omega)];omega
  have fin:∀ h:i<t.length,Par t q (fun v s=>(v,s)) (valS (parV 1 (abw (ts t i))) (ts t i) (ts t (i+1))) ((F133 0 () 1 ((t.getD i .bad).fld 1).asStr (t,((i+1:Nat):Int),q)).bind fun z=>sumE (fun y18=>some (.inl y18)) (fun y19=>some (.inr y19)) z):=fun h=>by
   have hs:=ht.sml _ (aj5 h .bad)
   rw [ahu h]
   rcases aj9 po 1 ((t.getD i .bad).fld 1).asStr (Or.inl ⟨Or.inl rfl,hs⟩) t ht.toTOk i h q with ⟨v,j,hj,hx,hy⟩ | ⟨j,e,hj,he,hx,hy⟩
   ·exact .ok v j hj hx (by simp only [hy,Option.bind_some,abl])
   ·exact .er j e hj he hx (by simp only [hy,Option.bind_some,aa3])
  simp only [aoy [116,114,117,101] 1 (by decide) t ht.toTOk i hi,aoy [102,97,108,115,101] 1 (by decide) t ht.toTOk i hi,Option.bind_some]
  cases h1:isS 1 [116,114,117,101] (ts t i) with
  | true=>
   have h:=adb h1
   simp only [Bool.not_true,cond_false,Bool.true_or,cond_true,w1,w2,aab,h,decide_true,Int.toNat_natCast,aa0]
   exact fin h
  | false=>
   cases h2:isS 1 [102,97,108,115,101] (ts t i) with
   | true=>
    have h:=adb h2
    simp only [Bool.not_true,Bool.not_false,cond_false,Bool.or_true,cond_true,w1,w2,aab,h,decide_true,Int.toNat_natCast,aa0]
    exact fin h
   | false=>
    simp only [Bool.not_false,cond_true,Bool.or_false,cond_false]
    exact .er i 2 hi (by decide) rfl rfl
 rw [beqI k1,cond_false,cond_false]
 have id_par:=fun (h:k=6∨k=8)=>anw po k (fun s=>s) (fun s hs=>Or.inl ⟨Or.inr h,hs⟩) (fun y=>some y.1) (fun s z h=>rfl) t ht i hi q
 by_cases k6:k=6
 ·subst k6
  rw [show ((6:Int)==6)=true from rfl,cond_true,Bool.true_or,cond_true]
  exact id_par (Or.inl rfl)
 by_cases k8:k=8
 ·subst k8
  rw [show ((8:Int)==6)=false from rfl,show ((8:Int)==8)=true from rfl,cond_false,cond_true,Bool.or_true,cond_true]
  exact id_par (Or.inr rfl)
 rw [beqI k6,beqI k8,cond_false,cond_false,Bool.or_false,cond_false]
 by_cases k7:k=7
 ·subst k7
  rw [show ((7:Int)==7)=true from rfl,cond_true,cond_true]
  exact anw po 7 aa6 (fun s h=>Or.inr (Or.inl ⟨rfl,s,h,rfl⟩)) (fun y=>F134 0 y.1) (fun s z h=>aqu s (by omega)) t ht i hi q
 rw [beqI k7,cond_false,cond_false]
 simp only [akq [45] 4 (by decide) t ht.toTOk i hi,Option.bind_some]
 cases hs:isS 4 [45] (ts t i) with
 | true=>
  simp only [cond_true,aa0]
  exact aph po k (by omega) t ht true [45] rfl (i+1) (adb hs) q
 | false=>
  simp only [cond_false]
  exact aph po k (by omega) t ht false [] rfl i hi q
end Go.Ab
namespace Go.Ab
open Go
set_option maxRecDepth 100000
theorem Par.seq {α β R R':Type}{t:List PV}{q:QF}{mk:α->Q0->R}{mk':β->Q0->R'}{x:Rs α}{y:Option (R⊕(PV×Q0))}{f:α->List Tk->Rs β}{g:R->Option (R'⊕(PV×Q0))} (h:Par t q mk x y)
 (hc:∀ v j,j<=t.length->x=.ok v (ts t j)->Par t q mk' (f v (ts t j)) (g (mk v (t,((j:Nat):Int),q)))):Par t q mk' (x.bind f) (y.bind fun z=>sumE g (fun e=>some (.inr e)) z):=by
 rcases h with ⟨v,j,hj,hx,hy⟩ | ⟨j,e,hj,he,hx,hy⟩
 ·have:=hc v j hj hx
  rw [hx,hy]
  exact this
 ·rw [hx,hy]
  exact .er j e hj he rfl rfl
theorem Par.map {α β R R':Type}{t:List PV}{q:QF}{mk:α->Q0->R}{mk':β->Q0->R'}{x:Rs α}{y:Option (R⊕(PV×Q0))}{f:α->β}{g:R->R'} (h:Par t q mk x y)
 (hc:∀ v s,g (mk v s)=mk' (f v) s):Par t q mk' (x.bind fun v r=>.ok (f v) r) (y.bind fun z=>sumE (fun a=>some (.inl (g a))) (fun e=>some (.inr e)) z):=
 h.seq fun v j hj hx=>.ok (f v) j hj rfl (by rw [hc])
def fld0 (card key:Int) (ty:PV) (un:List UInt8):PV:=PV.agg [PV.int 0,PV.str [],PV.int card,PV.int key,ty,PV.str un,PV.bool false,adf,PV.slice []]
theorem ari (po:adu) (card key:Int) (ty:PV) (un nm:List UInt8) (n:Int) (hd:Bool) (df:PV) (t:List PV) (ht:TNum t) (j:Nat) (hj:j<=t.length) (q:QF):
 Par t q (fun v s=>(v,s)) ((acw parV aae (ts t j)).bind fun l r5=>(eatS 4 [59] r5).bind fun _ r6=>.ok (akx n nm card key ty un hd df l) r6)
  ((F205 0 () (t,(j:Int),q)).bind fun z=>sumE (fun y12=>(F94 0 () [59] y12.2).bind fun z=>sumE (fun y14=>
    some (.inl (akx n nm card key ty un hd df y12.1,y14))) (fun y15=>some (.inr y15)) z) (fun y13=>some (.inr y13)) z):=
 (afi po t ht.toTNm j hj q).seq fun l k hk _=>(ad2 [59] 4 (by decide) t ht.toTOk k hk q).seq fun _ m hm _=>.ok _ m hm rfl rfl
theorem aq6 (po:adu) (card key:Int) (ty:PV) (un:List UInt8) (wd:Bool) (hty:0<=(ty.fld 0).asInt/\(ty.fld 0).asInt<=8) (t:List PV) (ht:TNum t) (i:Nat) (hi:i<=t.length) (q:QF):
 Par t q (fun v s=>(v,s)) (aim parV aae card key ty un wd (ts t i)) (F119 0 () (fld0 card key ty un) wd (t,(i:Int),q)):=by
 unfold F119 aim
 refine (ai1 t ht.toTOk i hi q).seq fun nm j hj _=>(ad2 [61] 4 (by decide) t ht.toTOk j hj q).seq fun _ k hk _=>(aqn t ht.toTOk k hk 65535 (by decide) ht.num q).seq fun n m hm _=>?_
 cases wd with
 | true=>
  simp only [cond_true,akq [100,101,102,97,117,108,116] 1 (by decide) t ht.toTOk m hm,Option.bind_some,aoj,Bool.true_and]
  cases hd:isS 1 [100,101,102,97,117,108,116] (ts t m) with
  | true=>
   simp only [cond_true,aa0]
   have hlt:=adb hd
   rcases a8u po ((ty.fld 0).asInt) hty t ht (m+1) hlt q with ⟨v,p,hp,hx,hy⟩ | ⟨p,e,hp,he,hx,hy⟩
   ·rw [hx,show F63 0 () (((fld0 card key ty un).fld 4).fld 0).asInt (t,((m+1:Nat):Int),q)=F63 0 () (ty.fld 0).asInt (t,((m+1:Nat):Int),q) from rfl,hy]
    exact ari po card key ty un nm n true v t ht p hp q
   ·rw [hx,show F63 0 () (((fld0 card key ty un).fld 4).fld 0).asInt (t,((m+1:Nat):Int),q)=F63 0 () (ty.fld 0).asInt (t,((m+1:Nat):Int),q) from rfl,hy]
    exact .er p e hp he rfl rfl
  | false=>
   simp only [cond_false,Rs.bind_ok]
   exact ari po card key ty un nm n false adf t ht m hm q
 | false=>
  simp only [cond_false,aoj,Bool.false_and,Rs.bind_ok]
  exact ari po card key ty un nm n false adf t ht m hm q
theorem a8z (w:List UInt8):F120 0 w=some (ai7 w):=by
 unfold F120 ai7
 cases (w==[114,101,113,117,105,114,101,100])<;>cases (w==[111,112,116,105,111,110,97,108])<;>cases (w==[112,108,97,105,110])<;>cases (w==[108,105,115,116])<;>rfl
theorem anz (po:adu) (t:List PV) (ht:TNum t) (i:Nat) (hi:i<=t.length) (q:QF):Par t q (fun v s=>(v,s)) (ad0 parV aae (ts t i)) (F55 0 () (t,(i:Int),q)):=by
 have hl:=ht.len
 have o:=ht.toTOk
 unfold F55 ad0
 simp only [akq [109,97,112] 1 (by decide) t o i hi,Option.bind_some]
 cases h0:isS 1 [109,97,112] (ts t i) with
 | true=>
  simp only [cond_true,aa0]
  refine (ad2 [60] 4 (by decide) t o (i+1) (adb h0) q).seq fun _ j hj _=>?_
  simp only [ad9,Option.bind_some]
  by_cases hb:aap (ts t j)=1
  ·have e1:(aap (ts t j) != 1)=false:=by rw [hb];rfl
   have e2:(aap (ts t j)==1)=true:=by rw [hb];rfl
   have h:j<t.length:=adh rfl e2
   simp only [e1,e2,imp,aab,h,decide_true,Bool.not_false,cond_true,cond_false,Int.toNat_natCast,(awi _).1,Option.bind_some,ahu h,Bool.true_and,ab2 (show j<=9223372036854775000 by omega),aa0]
   cases hk:(aex ((t.getD j .bad).fld 1).asStr==0) with
   | true=>exact .er j 2 hj (by decide) rfl rfl
   | false=>
    simp only [Bool.not_false,cond_true,cond_false]
    exact (ad2 [44] 4 (by decide) t o (j+1) h q).seq fun _ k hk _=>(avy t o k hk q).seq fun ty m hm hty=>(ad2 [62] 4 (by decide) t o m hm q).seq fun _ p hp _=>by
     rcases aq6 po 5 (aex ((t.getD j .bad).fld 1).asStr) ty [] false (awh hty) t ht p hp q with ⟨v,a,ha,hx,hy⟩ | ⟨a,e,ha,he,hx,hy⟩
     ·exact .ok v a ha hx (by
       have hy:F119 0 () (PV.agg [(PV.int (0:Int)),(PV.str ([]:List UInt8)),(PV.int (5:Int)),(PV.int (aex ((t.getD j .bad).fld 1).asStr)),ty,(PV.str ([]:List UInt8)),(PV.bool false),(PV.agg [(PV.int (0:Int)),(PV.int (0:Int)),(PV.str ([]:List UInt8)),(PV.slice []),(PV.slice []),(PV.slice []),(PV.slice [])]),(PV.slice [])]) false (t,((p:Nat):Int),q)=_:=hy
       simp only [hy,Option.bind_some,abl])
     ·exact .er a e ha he hx (by
       have hy:F119 0 () (PV.agg [(PV.int (0:Int)),(PV.str ([]:List UInt8)),(PV.int (5:Int)),(PV.int (aex ((t.getD j .bad).fld 1).asStr)),ty,(PV.str ([]:List UInt8)),(PV.bool false),(PV.agg [(PV.int (0:Int)),(PV.int (0:Int)),(PV.str ([]:List UInt8)),(PV.slice []),(PV.slice []),(PV.slice []),(PV.slice [])]),(PV.slice [])]) false (t,((p:Nat):Int),q)=_:=hy
       simp only [hy,Option.bind_some,aa3])
  ·have e1:(aap (ts t j) != 1)=true:=bneI hb
   have e2:(aap (ts t j)==1)=false:=beqI hb
   simp only [e1,e2,imp,Bool.not_true,Bool.not_false,cond_true,cond_false,aah,Option.bind_some,Bool.false_and]
   exact .er j 2 hj (by decide) rfl rfl
 | false=>
  simp only [cond_false,ad9,Option.bind_some]
  by_cases hb:aap (ts t i)=1
  ·have e1:(aap (ts t i) != 1)=false:=by rw [hb];rfl
   have e2:(aap (ts t i)==1)=true:=by rw [hb];rfl
   have h:i<t.length:=adh rfl e2
   simp only [e1,e2,imp,aab,h,decide_true,Bool.not_false,cond_true,cond_false,Int.toNat_natCast,a8z,Option.bind_some,ahu h,Bool.true_and,ab2 (show i<=9223372036854775000 by omega),aa0]
   cases hk:(ai7 ((t.getD i .bad).fld 1).asStr==0) with
   | true=>exact .er i 2 hi (by decide) rfl rfl
   | false=>
    simp only [Bool.not_false,cond_true,cond_false]
    exact (avy t o (i+1) h q).seq fun ty p hp hty=>by
     rcases aq6 po (ai7 ((t.getD i .bad).fld 1).asStr) 0 ty [] true (awh hty) t ht p hp q with ⟨v,a,ha,hx,hy⟩ | ⟨a,e,ha,he,hx,hy⟩
     ·exact .ok v a ha hx (by
       have hy:F119 0 () (PV.agg [(PV.int (0:Int)),(PV.str ([]:List UInt8)),(PV.int (ai7 ((t.getD i .bad).fld 1).asStr)),(PV.int (0:Int)),ty,(PV.str ([]:List UInt8)),(PV.bool false),(PV.agg [(PV.int (0:Int)),(PV.int (0:Int)),(PV.str ([]:List UInt8)),(PV.slice []),(PV.slice []),(PV.slice []),(PV.slice [])]),(PV.slice [])]) true (t,((p:Nat):Int),q)=_:=hy
       simp only [hy,Option.bind_some,abl])
     ·exact .er a e ha he hx (by
       have hy:F119 0 () (PV.agg [(PV.int (0:Int)),(PV.str ([]:List UInt8)),(PV.int (ai7 ((t.getD i .bad).fld 1).asStr)),(PV.int (0:Int)),ty,(PV.str ([]:List UInt8)),(PV.bool false),(PV.agg [(PV.int (0:Int)),(PV.int (0:Int)),(PV.str ([]:List UInt8)),(PV.slice []),(PV.slice []),(PV.slice []),(PV.slice [])]),(PV.slice [])]) true (t,((p:Nat):Int),q)=_:=hy
       simp only [hy,Option.bind_some,aa3])
  ·have e1:(aap (ts t i) != 1)=true:=bneI hb
   have e2:(aap (ts t i)==1)=false:=beqI hb
   simp only [e1,e2,imp,Bool.not_true,Bool.not_false,cond_true,cond_false,aah,Option.bind_some,Bool.false_and]
   exact .er i 2 hi (by decide) rfl rfl
def outS {α:Type} (t:List PV) (dflt:α) (x:Rs α):α×Int×Int:=
 match x with
 | .ok v r=>(v,((t.length-r.length:Nat):Int),0)
 | .er r e=>(dflt,((t.length-r.length:Nat):Int),e)
theorem a09 {α:Type}{t:List PV}{d v:α}{j:Nat} (hj:j<=t.length):outS t d (.ok v (ts t j))=(v,(j:Int),0):=by
 show (v,((t.length-(ts t j).length:Nat):Int),(0:Int))=_
 rw [abm,show t.length-(t.length-j)=j by omega]
theorem azx {α:Type}{t:List PV}{d:α}{j:Nat}{e:Int} (hj:j<=t.length):outS t d (.er (ts t j) e:Rs α)=(d,(j:Int),e):=by
 show (d,((t.length-(ts t j).length:Nat):Int),e)=_
 rw [abm,show t.length-(t.length-j)=j by omega]
def af5 (t:List PV) (a:Int):Bool:=bif decide (a<0) then true else decide (a>(t.length:Int))
theorem a0n {t:List PV}{a:Int} (h:af5 t a=false):∃ i:Nat,a=(i:Int)/\i<=t.length:=by
 unfold af5 at h
 by_cases h0:a<0
 ·simp [h0] at h
 ·simp only [h0,decide_false,cond_false,decide_eq_false_iff_not] at h
  exact ⟨a.toNat,by omega,by omega⟩
def a2t:PV:=PV.agg [PV.int 0,PV.str [],PV.int 0,PV.int 0,PV.agg [PV.int 0,PV.str []],PV.str [],PV.bool false,adf,PV.slice []]
theorem a3l (po:adu) (t:List PV) (ht:TNum t) (a:Int):F25 0 t a=some (bif af5 t a then (a2t,0,1) else outS t a2t (ad0 parV aae (ts t a.toNat))):=by
 unfold F25 F50_v2
 rw [show (bif decide (a<0) then true else decide (a>(t.length:Int)))=af5 t a from rfl]
 cases hb:af5 t a with
 | true=>rfl
 | false=>
  obtain ⟨i,rfl,hi⟩:=a0n hb
  rw [Int.toNat_natCast]
  unfold F43_v3 F114_v2 F54
  rcases anz po t ht i hi ([],[],(),(),(),[],[],[],[]) with ⟨v,j,hj,hx,hy⟩ | ⟨j,e,hj,he,hx,hy⟩
  ·simp only [hy,Option.bind_some,abl,cond_false,hx,a09 hj]
   rfl
  ·simp only [hy,Option.bind_some,aa3,cond_false,hx,azx hj]
   have:((((PV.agg [PV.int ((j:Nat):Int),PV.int e]).fld 1).asInt) != (0:Int))=true:=bneI he
   rw [this];rfl
end Go.Ab
namespace Go.Ab
open Go
set_option maxRecDepth 100000
inductive RPar {α R:Type} (t:List PV) (q:QF) (mk:α->Q4->R) (x:Rs α) (y:Option R):Prop
 | ok (v:α) (j:Nat):j<=t.length->x=.ok v (ts t j)->y=some (mk v (t,((j:Nat):Int),0,q))->RPar t q mk x y
 | er (j:Nat) (e:Int) (v:α):j<=t.length->e≠0->x=.er (ts t j) e->y=some (mk v (t,((j:Nat):Int),e,q))->RPar t q mk x y
structure RF {α R:Type} (t:List PV) (q:QF) (mk:α->Q4->R) (c:Prop) (f:List Tk->Rs α) (F:Q4->Option R):Prop where
 rp:c->∀ i:Nat,i<=t.length->RPar t q mk (f (ts t i)) (F (t,(i:Int),0,q))
 st:∀ (j:Nat) (e:Int),j<=t.length->e≠0->∃ v,F (t,(j:Int),e,q)=some (mk v (t,(j:Int),e,q))
section
variable {t:List PV}{q:QF}{c:Prop}
theorem RF.bind {α β R R':Type}{mk:α->Q4->R}{mk':β->Q4->R'}{f:List Tk->Rs α}{F:Q4->Option R}{f2:α->List Tk->Rs β}{g:R->Option R'} (h:RF t q mk c f F)
 (hc:∀ v,RF t q mk' (c/\∃ i j,i<=t.length/\j<=t.length/\f (ts t i)=.ok v (ts t j)) (f2 v) (fun s=>g (mk v s))):RF t q mk' c (fun r=>(f r).bind f2) (fun s=>(F s).bind g):=by
 refine ⟨fun hq i hi=>?_,fun j e hj he=>?_⟩
 ·rcases h.rp hq i hi with ⟨v,j,hj,hx,hy⟩ | ⟨j,e,v,hj,he,hx,hy⟩
  ·simp only [hx,hy,Rs.bind_ok,Option.bind_some]
   exact (hc v).rp ⟨hq,i,j,hi,hj,hx⟩ j hj
  ·simp only [hx,hy,Rs.bind_er,Option.bind_some]
   obtain ⟨w,hw⟩:=(hc v).st j e hj he
   exact .er j e w hj he rfl hw
 ·obtain ⟨v,hv⟩:=h.st j e hj he
  obtain ⟨w,hw⟩:=(hc v).st j e hj he
  exact ⟨w,by simp only [hv,Option.bind_some];exact hw⟩
theorem RF.imp {α R:Type}{mk:α->Q4->R}{c':Prop}{f:List Tk->Rs α}{F:Q4->Option R} (h:RF t q mk c f F) (hc:c'->c):RF t q mk c' f F:=⟨fun x=>h.rp (hc x),h.st⟩
theorem RF.ret {α β R:Type}{mk:α->Q4->R} (v:α):RF t q mk c (fun r=>.ok v r) (fun s=>some (mk v s)):=⟨fun _ i hi=>.ok v i hi rfl rfl,fun j e _ _=>⟨v,rfl⟩⟩
theorem RF.congr {α R:Type}{mk:α->Q4->R}{f f':List Tk->Rs α}{F F':Q4->Option R} (h:RF t q mk c f F) (hf:∀ r,f' r=f r) (hF:∀ s,F' s=F s):RF t q mk c f' F':=
 ⟨fun hc i hi=>by rw [hf,hF];exact h.rp hc i hi,fun j e hj he=>by rw [hF];exact h.st j e hj he⟩
theorem hereR (k:Int) (hk:(k==0)=false) (i:Nat):F105 0 () k (t,(i:Int),0,q)=some (aap (ts t i)==k,(t,(i:Int),0,q)):=by
 unfold F105
 by_cases h:i<t.length
 ·have e1:decide ((i:Int)<(t.length:Int))=true:=decide_eq_true (by omega)
  simp only [show ((0:Int)==0)=true from rfl,e1,cond_true,imp,aab,h,decide_true,Int.toNat_natCast,auz h]
 ·have e1:decide ((i:Int)<(t.length:Int))=false:=decide_eq_false (by omega)
  have e2:(aap (ts t i)==k)=false:=by
   rw [afv (by omega)]
   have:k≠0:=by simpa using hk
   simp only [aap,beq_eq_false_iff_ne]
   exact fun x=>this x.symm
  simp only [show ((0:Int)==0)=true from rfl,e1,e2,cond_true,cond_false,imp,Bool.not_false,aah]
theorem hereE (k:Int) (a e:Int) (he:e≠0):F105 0 () k (t,a,e,q)=some (false,(t,a,e,q)):=by
 unfold F105
 simp only [beqI he,cond_false,imp,Bool.not_false,cond_true,aah]
theorem isR (k:Int) (hk:(k==0)=false) (s:List UInt8) (i:Nat):F107 0 () k s (t,(i:Int),0,q)=some (isS k s (ts t i),(t,(i:Int),0,q)):=by
 unfold F107
 rw [hereR k hk,Option.bind_some]
 cases h:(aap (ts t i)==k) with
 | true=>
  have hlt:=adh hk h
  rw [auz hlt] at h
  simp only [imp,cond_true,aab,hlt,decide_true,Int.toNat_natCast,a8c hlt,h,Bool.true_and]
 | false=>
  have:isS k s (ts t i)=false:=by
   cases hx:ts t i with
   | nil=>rfl
   | cons x r=>rw [hx] at h;simp only [aap] at h;simp only [isS,h,Bool.false_and]
  simp only [imp,cond_false,Bool.not_false,cond_true,aah,this]
theorem isE (k:Int) (s:List UInt8) (a e:Int) (he:e≠0):F107 0 () k s (t,a,e,q)=some (false,(t,a,e,q)):=by
 unfold F107
 rw [hereE k a e he]
 simp only [Option.bind_some,imp,cond_false,Bool.not_false,cond_true,aah]
theorem mayR (ht:TOk t) (k:Int) (hk:(k==0)=false) (s:List UInt8) (i:Nat):F102 0 () k s (t,(i:Int),0,q)=some (bif isS k s (ts t i) then (true,(t,((i+1:Nat):Int),0,q)) else (false,(t,(i:Int),0,q))):=by
 have hl:=ht.len
 unfold F102
 rw [isR k hk,Option.bind_some]
 cases h:isS k s (ts t i) with
 | true=>
  have hlt:=adb h
  simp only [Bool.not_true,cond_false,cond_true,ab2 (show i<=9223372036854775000 by omega)]
 | false=>rfl
theorem mayE (k:Int) (s:List UInt8) (a e:Int) (he:e≠0):F102 0 () k s (t,a,e,q)=some (false,(t,a,e,q)):=by
 unfold F102
 rw [isE k s a e he];rfl
theorem RF.may {β R':Type}{mk':β->Q4->R'} (ht:TOk t) (k:Int) (hk:(k==0)=false) (s:List UInt8) {f1 f2:List Tk->Rs β}{g:Bool×Q4->Option R'} (h1:RF t q mk' c f1 (fun z=>g (true,z))) (h2:RF t q mk' c f2 (fun z=>g (false,z))):
 RF t q mk' c (fun r=>bif isS k s r then f1 r.tail else f2 r) (fun z=>(F102 0 () k s z).bind g):=by
 refine ⟨fun hc i hi=>?_,fun j e hj he=>?_⟩
 ·simp only [mayR ht k hk,Option.bind_some,aa0]
  cases h:isS k s (ts t i) with
  | true=>exact h1.rp hc (i+1) (adb h)
  | false=>exact h2.rp hc i hi
 ·simp only [mayE k s _ e he,Option.bind_some]
  exact h2.st j e hj he
end
theorem a2d (t:List PV) (hl:t.length<=1048576):∃ b,F22 0 t=some b/\(b=true->t.length<=80/\∀ x,x∈t->(x.fld 1).asStr.length<=300):=by
 unfold F22
 by_cases h:t.length>80
 ·have e:decide ((t.length:Int)>80)=true:=decide_eq_true (by omega)
  exact ⟨false,by rw [e];rfl,fun h=>by cases h⟩
 ·have e:decide ((t.length:Int)>80)=false:=decide_eq_false (by omega)
  have hlp:=ai9 (step:=S22_5step 0) (fun i=>(t,(i:Int))) t.length (fun i=>decide (((t.getD i .bad).fld 1).asStr.length<=300)) (.inl false) (.inr ())
   (fun i hi=>by
    simp only [S22_5step,S22_5,ac0,hi,decide_true,cond_true,aab,Int.toNat_natCast,ab2 (show i<=9223372036854775000 by omega)]
    by_cases h3:((t.getD i .bad).fld 1).asStr.length<=300
    ·rw [decide_eq_true h3,decide_eq_false (by omega)];rfl
    ·rw [decide_eq_false h3,decide_eq_true (by omega)];rfl)
   (by simp only [S22_5step,S22_5,ac0,Nat.lt_irrefl,decide_false,cond_false]) t.length 0 (by omega)
  rw [aug (fun x:PV=>decide ((x.fld 1).asStr.length<=300)) .bad t] at hlp
  rw [e,cond_false,aaq,show (0:Int)=((0:Nat):Int) from rfl,hlp]
  cases ha:t.all (fun x=>decide ((x.fld 1).asStr.length<=300)) with
  | true=>exact ⟨true,rfl,fun _=>⟨by omega,fun x hx=>by simpa using List.all_eq_true.1 ha x hx⟩⟩
  | false=>exact ⟨false,rfl,fun h=>by cases h⟩
end Go.Ab
namespace Go.Ab
open Go
set_option maxRecDepth 100000
section
variable {t:List PV}{q:QF}{c:Prop}
end
end Go.Ab
