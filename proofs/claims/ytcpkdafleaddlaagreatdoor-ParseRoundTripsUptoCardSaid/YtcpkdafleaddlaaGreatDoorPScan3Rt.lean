/- The scanner on texts that are written token by token: texts, the loop. -/
import Derived.Test.YtcpkdafleaddlaaGreatDoorPUtfRt
import Derived.Test.YtcpkdafleaddlaaGreatDoorAbEqL
import Derived.Test.YtcpkdafleaddlaaGreatDoorGenRt
import Derived.Test.YtcpkdafleaddlaaGreatDoorAbPlain
set_option linter.unusedVariables false
set_option linter.unusedSimpArgs false
set_option linter.unnecessarySimpa false
namespace Go.Ab
open Go
set_option maxRecDepth 100000
theorem a03:((List.range 16).all fun h=>(F305 0 ((hexd h).toNat:Int))==some (h:Int))=true:=by kernel_rfl
theorem av1 {h:Nat} (hh:h<16):F305 0 ((hexd h).toNat:Int)=some (h:Int):=by
 have:=List.all_eq_true.1 a03 h (List.mem_range.2 hh)
 simpa using this
theorem bah:((List.range 256).all fun b=>IntKind.wrap .u8 (afj .or .i64 (IntKind.wrap .i64 (((b / 16:Nat):Int)*2^(min (4:Int).toNat (IntKind.bits .i64)))) ((b%16:Nat):Int))==(b:Int))=true:=by kernel_rfl
theorem bag {b:Nat} (h:b<256):IntKind.wrap .u8 (afj .or .i64 (IntKind.wrap .i64 (((b / 16:Nat):Int)*2^(min (4:Int).toNat (IntKind.bits .i64)))) ((b%16:Nat):Int))=(b:Int):=by
 have:=List.all_eq_true.1 bah b (List.mem_range.2 h)
 simpa using this
theorem esc2 {src:List UInt8}{i:Nat}{e:UInt8}{q:List UInt8} (hl:src.length<=1048576) (h:src.drop i=92::e::q) {v:Int} (hv:F304 0 ((e.toNat:Nat):Int)=some (v,true)):F237 0 src (i:Int)=some (v,2):=by
 obtain ⟨h1,_,h2⟩:=abx 0 h
 obtain ⟨h3,h4,_⟩:=abx 0 h2
 have w1:IntKind.wrap .i64 ((i:Int)+1)=((i+1:Nat):Int):=abk (by omega)
 have d1:decide (((i+1:Nat):Int)≥(src.length:Int))=false:=decide_eq_false (by omega)
 have d2:aaa ((i+1:Nat):Int) src.length=true:=by rw [aab];exact decide_eq_true h3
 unfold F237
 simp only [w1,d1,d2,cond_true,cond_false,Int.toNat_natCast,h4,hv,Option.bind_some]
theorem escX {src:List UInt8}{i:Nat}{b:UInt8}{q:List UInt8} (hl:src.length<=1048576) (h:src.drop i=92::120::(hex2 b.toNat++q)):F237 0 src (i:Int)=some ((b.toNat:Int),4):=by
 have h:src.drop i=92::120::hexd (b.toNat / 16)::hexd (b.toNat%16)::q:=h
 have hb:=b.toNat_lt
 obtain ⟨h1,_,h2⟩:=abx 0 h
 obtain ⟨h3,h4,h5⟩:=abx 0 h2
 obtain ⟨h6,h7,h8⟩:=abx 0 h5
 obtain ⟨h9,h10,_⟩:=abx 0 h8
 have w1:IntKind.wrap .i64 ((i:Int)+1)=((i+1:Nat):Int):=abk (by omega)
 have w2:IntKind.wrap .i64 ((i:Int)+2)=((i+1+1:Nat):Int):=by rw [abd (by omega) (by omega)];omega
 have w3:IntKind.wrap .i64 ((i:Int)+3)=((i+1+1+1:Nat):Int):=by rw [abd (by omega) (by omega)];omega
 have d1:decide (((i+1:Nat):Int)≥(src.length:Int))=false:=decide_eq_false (by omega)
 have d3:decide (((i+1+1+1:Nat):Int)≥(src.length:Int))=false:=decide_eq_false (by omega)
 have r1:aaa ((i+1:Nat):Int) src.length=true:=by rw [aab];exact decide_eq_true h3
 have r2:aaa ((i+1+1:Nat):Int) src.length=true:=by rw [aab];exact decide_eq_true h6
 have r3:aaa ((i+1+1+1:Nat):Int) src.length=true:=by rw [aab];exact decide_eq_true h9
 have hp:F304 0 (((120:UInt8).toNat:Nat):Int)=some (0,false):=rfl
 have hx:((((120:UInt8).toNat:Nat):Int) != (120:Int))=false:=rfl
 have v1:=av1 (h:=b.toNat / 16) (by omega)
 have v2:=av1 (h:=b.toNat%16) (by omega)
 have n1:decide (((b.toNat / 16:Nat):Int)<0)=false:=decide_eq_false (by omega)
 have n2:decide (((b.toNat%16:Nat):Int)<0)=false:=decide_eq_false (by omega)
 unfold F237
 simp only [w1,w2,w3,d1,d3,r1,r2,r3,cond_true,cond_false,Int.toNat_natCast,h4,h7,h10,hp,hx,v1,v2,n1,n2,imp,Bool.not_false,Bool.true_or,aag,Option.bind_some,bag hb]
theorem a42 {src:List UInt8} (hl:src.length<=1048576) {i:Nat}{acc:List PV} (ha:acc.length<=i) {b:UInt8}{c q:List UInt8} (hc:aln b c) (h:src.drop i=c++q):S131_6step 0 (src,acc,(i:Int))=some (.inl (src,acc++[PV.int (b.toNat:Int)],((i+c.length:Nat):Int))):=by
 have ne:c≠[]:=by
  rcases hc with ⟨rfl,_⟩ | ⟨_,rfl⟩ | ⟨_,rfl⟩ | ⟨_,rfl⟩ | ⟨_,rfl⟩ | ⟨_,rfl⟩ | rfl<;>simp
 have hi:i<src.length:=by
  have:=congrArg List.length h
  rw [List.length_drop,List.length_append] at this
  have:0<c.length:=List.length_pos_iff.2 ne
  omega
 have e1:decide ((i:Int)<(src.length:Int))=true:=decide_eq_true (by omega)
 have e2:aaa (i:Int) src.length=true:=by rw [aab];exact decide_eq_true hi
 have ea:∀ x:PV,decide (acc.length+[x].length<=aal)=true:=fun x=>decide_eq_true (by simp only [List.length_cons,List.length_nil];unfold aal;omega)
 have esc:∀ (e:UInt8) (r:List UInt8) (v:Int),src.drop i=92::e::r->F237 0 src (i:Int)=some (v,2)->S131_6step 0 (src,acc,(i:Int))=some (.inl (src,acc++[PV.int v],((i+2:Nat):Int))):=fun e r v hd hv=>by
  obtain ⟨_,h4,_⟩:=abx 0 hd
  have w:IntKind.wrap .i64 ((i:Int)+2)=((i+2:Nat):Int):=by rw [abd (by omega) (by omega)];omega
  simp only [S131_6step,S131_6,e1,e2,ea,h4,hv,w,imp,cond_true,cond_false,Bool.not_true,Bool.true_or,aag,Option.bind_some,Int.toNat_natCast]
  rfl
 rcases hc with ⟨rfl,b1,b2⟩ | ⟨rfl,rfl⟩ | ⟨rfl,rfl⟩ | ⟨rfl,rfl⟩ | ⟨rfl,rfl⟩ | ⟨rfl,rfl⟩ | rfl
 ·obtain ⟨_,h4,_⟩:=abx 0 (show src.drop i=b::q from h)
  have w:IntKind.wrap .i64 ((i:Int)+1)=((i+1:Nat):Int):=abk (by omega)
  have g1:((b.toNat:Int) != (34:Int))=true:=by
   show (!((b.toNat:Int)==(34:Int)))=true
   rw [bqI (c:=b) (k:=34) (n:=34) rfl,beq_eq_false_iff_ne.2 b1];rfl
  have g2:((b.toNat:Int)==(92:Int))=false:=by rw [bqI (c:=b) (k:=92) (n:=92) rfl];exact beq_eq_false_iff_ne.2 b2
  simp only [S131_6step,S131_6,e1,e2,ea,h4,w,g1,g2,imp,cond_true,cond_false,Bool.not_true,Bool.true_or,aag,Option.bind_some,Int.toNat_natCast]
  rfl
 ·exact esc _ _ _ h (esc2 hl h rfl)
 ·exact esc _ _ _ h (esc2 hl h rfl)
 ·exact esc _ _ _ h (esc2 hl h rfl)
 ·exact esc _ _ _ h (esc2 hl h rfl)
 ·exact esc _ _ _ h (esc2 hl h rfl)
 ·have hv:=escX (b:=b) (q:=q) hl h
  obtain ⟨_,h4,_⟩:=abx 0 (show src.drop i=92::(120::(hex2 b.toNat++q)) from h)
  have w:IntKind.wrap .i64 ((i:Int)+4)=((i+4:Nat):Int):=by rw [abd (by omega) (by omega)];omega
  simp only [S131_6step,S131_6,e1,e2,ea,h4,hv,w,imp,cond_true,cond_false,Bool.not_true,Bool.true_or,aag,Option.bind_some,Int.toNat_natCast]
  rfl
theorem a3y {src:List UInt8} (hl:src.length<=1048576) {a x:List UInt8} (hc:Codes a x):∀ (i:Nat) (acc:List PV) (s:List UInt8),src.drop i=x++34::s->acc.length<=i->aba (S131_6step 0) (src,acc,(i:Int))=some (.inr (src,acc++a.map (fun c=>PV.int (c.toNat:Int)),((i+x.length:Nat):Int))):=by
 induction hc with
 | nil=>
  intro i acc s h ha
  obtain ⟨hi,h4,_⟩:=abx 0 (show src.drop i=34::s from h)
  have e1:decide ((i:Int)<(src.length:Int))=true:=decide_eq_true (by omega)
  have e2:aaa (i:Int) src.length=true:=by rw [aab];exact decide_eq_true hi
  have g1:((((34:UInt8).toNat:Nat):Int) != (34:Int))=false:=rfl
  refine (aac (y:=.inr (src,acc,(i:Int))) ?_).trans (by simp)
  simp only [S131_6step,S131_6,e1,e2,h4,g1,imp,cond_true,cond_false,Bool.not_true,Bool.true_or,aag,Option.bind_some,Int.toNat_natCast]
 | @cons b c r q hb hr ih=>
  intro i acc s h ha
  rw [List.append_assoc] at h
  have st:=a42 hl ha hb h
  have hn:src.drop (i+c.length)=q++34::s:=by
   rw [<-List.drop_drop,h,List.drop_left]
  have hp:0<c.length:=by
   rcases hb with ⟨rfl,_⟩ | ⟨_,rfl⟩ | ⟨_,rfl⟩ | ⟨_,rfl⟩ | ⟨_,rfl⟩ | ⟨_,rfl⟩ | rfl<;>simp
  rw [aaw st,ih (i+c.length) _ s hn (by simp;omega)]
  simp [Nat.add_assoc]
theorem an1 {a:List UInt8} (ha:a.length<=1048576) (s:List UInt8) (hl:(aa4 a++s).length<=1048576):F131 0 (aa4 a++s)=some (a,(((aa4 a).length:Nat):Int),0):=by
 have hq:aa4 a=34::(aaq a 0++[34]):=by unfold aa4;rfl
 have hlen:(aa4 a).length=(aaq a 0).length+2:=by rw [hq];simp
 have hc:=ael a a.length 0 (by omega)
 rw [List.drop_zero] at hc
 have hd:(aa4 a++s).drop 1=aaq a 0++34::s:=by rw [hq];simp
 have lp:aba (S131_6step 0) (aa4 a++s,[],(1:Int))=some (.inr (aa4 a++s,[]++a.map (fun c:UInt8=>PV.int (c.toNat:Int)),((1+(aaq a 0).length:Nat):Int))):=a3y hl hc 1 [] s hd (by simp)
 have hall:(aa4 a++s).length=(aaq a 0).length+2+s.length:=by rw [List.length_append,hlen]
 have e0:((aa4 a++s)==([]:List UInt8))=false:=by rw [hq];rfl
 have e1:aaa (0:Int) (aa4 a++s).length=true:=by rw [hq,List.cons_append,in0]
 have e2:((((aa4 a++s).getD (0:Int).toNat 0).toNat:Int) != (34:Int))=false:=by rw [hq];rfl
 have e3:([]++a.map (fun c:UInt8=>PV.int (c.toNat:Int))).map aap=a:=by
  rw [List.nil_append,List.map_map]
  refine (List.map_congr_left (g:=id) (fun x _=>agr x)).trans (List.map_id _)
 have e4:decide (((1+(aaq a 0).length:Nat):Int)≥((aa4 a++s).length:Int))=false:=decide_eq_false (by omega)
 have w:IntKind.wrap .i64 (((1+(aaq a 0).length:Nat):Int)+1)=(((aa4 a).length:Nat):Int):=by rw [abk (by omega),hlen];congr 1;omega
 have e5:decide (0<=(0:Int)/\(0:Int)<=(((aa4 a).length:Nat):Int)/\(((aa4 a).length:Nat):Int)<=((aa4 a++s).length:Int))=true:=decide_eq_true (by omega)
 have e6:((aa4 a++s).take (((aa4 a).length:Nat):Int).toNat).drop (0:Int).toNat=aa4 a:=by
  rw [Int.toNat_natCast,List.take_left];rfl
 unfold F131
 rw [aan,lp]
 simp only [e0,e1,e2,imp,Bool.not_false,Bool.true_or,aag,cond_true,cond_false,Option.bind_some,aa2,e3,e4,akz a ha,w,e5,e6,beq_self_eq_true,Bool.not_true]
inductive Tok:List UInt8->List UInt8->Prop
 | name {t s:List UInt8}:afw t=true->endN s->Tok t s
 | int {u:Nat}{s:List UInt8}:u<18446744073709551616->endI s->Tok (decB u) s
 | text {t s:List UInt8}:t.length<=1048576->Tok (aa4 t) s
 | sign {c:UInt8}{s:List UInt8}:af3 c=true->Tok [c] s
theorem a4v:((List.range 256).all fun n=>!af3 (UInt8.ofNat n)||(!(n==32)&&!(n==9)&&!(n==13)&&!(n==10)&&!(n==47)&&!(n==46)&&!(n==34)&&!letB (UInt8.ofNat n)&&!digC (UInt8.ofNat n)))=true:=by kernel_rfl
theorem ay0 {c:UInt8} (h:af3 c=true):noSp c/\letB c=false/\(c==46)=false/\(c==34)=false/\digC c=false:=by
 have:=List.all_eq_true.1 a4v c.toNat (List.mem_range.2 c.toNat_lt)
 rw [show UInt8.ofNat c.toNat=c by simp] at this
 rw [h] at this
 simp only [Bool.not_true,Bool.false_or,Bool.and_eq_true,Bool.not_eq_true',beq_eq_false_iff_ne] at this
 obtain ⟨⟨⟨⟨⟨⟨⟨⟨h1,h2⟩,h3⟩,h4⟩,h5⟩,h6⟩,h7⟩,h8⟩,h9⟩:=this
 refine ⟨⟨?_,?_,?_,?_,?_⟩,h8,?_,?_,h9⟩
 all_goals first | (rintro rfl;contradiction) | (rw [beq_eq_false_iff_ne];rintro rfl;contradiction)
theorem ao5 (t s:List UInt8):F123 0 (aa4 t++s)=some 5:=by
 have hq:aa4 t++s=34::(aaq t 0++[34]++s):=by unfold aa4;rfl
 rw [hq,ahs _ _ ⟨by decide,by decide,by decide,by decide,by decide⟩];rfl
theorem aoq {c:UInt8} (h:af3 c=true) (s:List UInt8):F123 0 ([c]++s)=some 6:=by
 obtain ⟨h1,h2,h3,h4,h5⟩:=ay0 h
 rw [List.singleton_append,ahs _ _ h1]
 unfold adq
 rw [h2,h3,h4,h5,h];rfl
theorem a3l {t s:List UInt8} (h:Tok t s):∃ k:Int,F123 0 (t++s)=some k/\(k==1)=false/\(k==2)=false:=by
 cases h with
 | name h1 h2=>exact ⟨3,ao8 h1 s,rfl,rfl⟩
 | int h1 h2=>exact ⟨4,state_int h1 s,rfl,rfl⟩
 | text h1=>exact ⟨5,ao5 _ s,rfl,rfl⟩
 | sign h1=>exact ⟨6,aoq h1 s,rfl,rfl⟩
theorem awb {t s:List UInt8} (h:Tok t s):t≠[]:=by
 cases h with
 | name h1 h2=>rintro rfl;exact absurd h1 (by decide)
 | int h1 h2=>exact atz _
 | text h1=>unfold aa4;simp
 | sign h1=>simp
end Go.Ab
namespace Go.Ab
open Go
set_option maxRecDepth 100000
end Go.Ab
namespace Go.Ab
open Go
set_option maxRecDepth 100000
theorem aw4 (s:List UInt8) (neg:Bool) (V:Nat) (hV:V<18446744073709551616) (hd:∀ c,c∈s->aib c) (hl:s.length<=1048576):∀ (m i acc:Nat),s.length-i<=m->i<=s.length->valD acc (s.drop i)=V->
 aba (S365_9step 0) (s,neg,(acc:Int),false,(i:Int))=some (.inr (neg,(V:Int),false)):=by
 intro m
 induction m with
 | zero=>
  intro i acc hm hi hv
  have hlt:¬i<s.length:=by omega
  rw [List.drop_eq_nil_of_le (by omega)] at hv
  have e:acc=V:=hv
  subst e
  exact aac (by simp only [S365_9step,S365_9,abn,hlt,decide_false,cond_false])
 | succ m ih=>
  intro i acc hm hi hv
  by_cases hlt:i<s.length
  ·rw [aat hlt 0] at hv
   have hc:aib (s.getD i 0):=hd _ (by rw [afr hlt];exact List.getElem_mem _)
   generalize hx:s.getD i 0=c at hv hc
   have hv':valD (acc*10+(c.toNat-48)) (s.drop (i+1))=V:=hv
   have hs:acc*10+(c.toNat-48)<=V:=by rw [<-hv'];exact a1c _ _
   unfold aib at hc
   obtain ⟨d,hdd⟩:∃ d:Nat,c.toNat=48+d:=⟨c.toNat-48,by omega⟩
   rw [<-ih (i+1) (acc*10+(c.toNat-48)) (by omega) (by omega) hv']
   rw [hdd] at hs hc ⊢
   have d1:decide (((48+d:Nat):Int)<(48:Int))=false:=decide_eq_false (by omega)
   have d2:decide (((48+d:Nat):Int)>(57:Int))=false:=decide_eq_false (by omega)
   have w1:IntKind.wrap .u64 (IntKind.wrap .u8 (((48+d:Nat):Int)-(48:Int)))=(d:Int):=by rw [IntKind.wrap_u8,IntKind.wrap_u64];omega
   have w2:IntKind.wrap .u64 ((18446744073709551615:Int)-(d:Int))=((18446744073709551615-d:Nat):Int):=by rw [IntKind.wrap_u64];omega
   have w3:IntKind.wrap .u64 (((18446744073709551615-d:Nat):Int).tdiv (10:Int))=(((18446744073709551615-d) / 10:Nat):Int):=by
    rw [show ((18446744073709551615-d:Nat):Int).tdiv (10:Int)=(((18446744073709551615-d) / 10:Nat):Int) from rfl,IntKind.wrap_u64];omega
   have d3:decide ((acc:Int)>(((18446744073709551615-d) / 10:Nat):Int))=false:=decide_eq_false (by omega)
   have w4:IntKind.wrap .u64 ((10:Int)*(acc:Int))=((10*acc:Nat):Int):=by rw [IntKind.wrap_u64];omega
   have w5:IntKind.wrap .u64 (((10*acc:Nat):Int)+(d:Int))=((acc*10+(48+d-48):Nat):Int):=by rw [IntKind.wrap_u64];omega
   refine aaw ?_
   simp only [S365_9step,S365_9,abn,aab,hlt,decide_true,cond_true,Int.toNat_natCast,hx,hdd,d1,d2,d3,w1,w2,w3,w4,w5,imp,Bool.not_false,cond_false,ayv (i:=i) (by omega)]
  ·have e:acc=V:=by rw [List.drop_eq_nil_of_le (by omega)] at hv;exact hv
   subst e
   exact aac (by simp only [S365_9step,S365_9,abn,hlt,decide_false,cond_false])
theorem ap1 (u:Nat) (hu:u<18446744073709551616):(Lib.decDigits u).length<=20:=by
 rw [<-agb (by omega)];exact ak2 u
theorem a9k (u:Nat) (hu:u<18446744073709551616):F365 0 (Lib.decDigits u)=some ((u:Int),false,0):=by
 obtain ⟨h1,h2,h3,h4⟩:=aeo u
 have hlen:=ap1 u hu
 have hloop:=aw4 (Lib.decDigits u) false u hu h1 (by omega) (Lib.decDigits u).length 0 0 (by omega) (by omega) (by rw [List.drop_zero];exact h2)
 have hz:u=0->Lib.decDigits u=[48]:=fun h=>by subst h;rw [Lib.decDigits];rfl
 generalize Lib.decDigits u=s at*
 match s,h3 with
 | c::r,_=>
  have hc:=h1 c (by simp)
  unfold aib at hc
  have k45:((c.toNat:Int)==(45:Int))=false:=by simp;omega
  have hp:decide (((c::r).length:Int)>(0:Int))=true:=decide_eq_true (by simp)
  have hi:aaa (0:Int) (c::r).length=true:=by rw [show (0:Int)=((0:Nat):Int) from rfl,aab];exact decide_eq_true (by simp)
  have hg:((c::r).getD (0:Int).toNat 0)=c:=rfl
  have hn:((c::r)==([]:List UInt8))=false:=rfl
  have ht:(bif ((c.toNat:Int)==(48:Int)) then (!((c::r)==([48]:List UInt8))) else false)=false:=by
   by_cases h0:u=0
   ·rw [hz h0];simp
   ·have:=h4 h0 c rfl
    have:((c.toNat:Int)==(48:Int))=false:=by simp;omega
    rw [this];rfl
  rw [show ((0:Nat):Int)=(0:Int) from rfl] at hloop
  unfold F365
  simp only [hp,imp,hi,cond_true,hg,k45,cond_false,hn,Bool.not_false,ht,aan,hloop,Option.bind_some,aa2]
theorem a9m (u:Nat) (hu:u<18446744073709551616):F365 0 (45::Lib.decDigits u)=some (if u=0 then (0,false,2) else ((u:Int),true,0)):=by
 obtain ⟨h1,h2,h3,h4⟩:=aeo u
 have hlen:=ap1 u hu
 have hloop:=aw4 (Lib.decDigits u) true u hu h1 (by omega) (Lib.decDigits u).length 0 0 (by omega) (by omega) (by rw [List.drop_zero];exact h2)
 have hz:u=0->Lib.decDigits u=[48]:=fun h=>by subst h;rw [Lib.decDigits];rfl
 generalize Lib.decDigits u=s at*
 match s,h3 with
 | c::r,_=>
  have hc:=h1 c (by simp)
  unfold aib at hc
  have k45:(((45:UInt8).toNat:Int)==(45:Int))=true:=rfl
  have hp:decide (((45::c::r).length:Int)>(0:Int))=true:=decide_eq_true (by simp;omega)
  have hi:aaa (0:Int) (45::c::r).length=true:=by rw [show (0:Int)=((0:Nat):Int) from rfl,aab];exact decide_eq_true (by simp)
  have hi2:aaa (0:Int) (c::r).length=true:=by rw [show (0:Int)=((0:Nat):Int) from rfl,aab];exact decide_eq_true (by simp)
  have hg:((45::c::r).getD (0:Int).toNat 0)=45:=rfl
  have hg2:((c::r).getD (0:Int).toNat 0)=c:=rfl
  have hsl:decide ((0:Int)<=(1:Int)/\(1:Int)<=((45::c::r).length:Int)/\((45::c::r).length:Int)<=((45::c::r).length:Int))=true:=decide_eq_true (by simp;omega)
  have htk:((45::c::r).take ((45::c::r).length:Int).toNat).drop (1:Int).toNat=c::r:=by rw [Int.toNat_natCast,List.take_length];rfl
  have hn:((c::r)==([]:List UInt8))=false:=rfl
  have hne:((45::c::r)==([48]:List UInt8))=false:=rfl
  rw [show ((0:Nat):Int)=(0:Int) from rfl] at hloop
  by_cases h0:u=0
  ·have hcc:c=48:=by have:=hz h0;simp at this;exact this.1
   have ht:((c.toNat:Int)==(48:Int))=true:=by rw [hcc];rfl
   unfold F365
   simp only [hp,imp,hi,hi2,cond_true,hg,hg2,k45,hsl,htk,hn,Bool.not_false,cond_false,ht,hne,h0,if_true]
  ·have:=h4 h0 c rfl
   have ht:((c.toNat:Int)==(48:Int))=false:=by simp;omega
   unfold F365
   simp only [hp,imp,hi,hi2,cond_true,hg,hg2,k45,hsl,htk,hn,Bool.not_false,cond_false,ht,aan,hloop,Option.bind_some,aa2,h0,if_false]
end Go.Ab
namespace Go.Ab
open Go
set_option maxRecDepth 100000
def ah7:PV:=PV.agg [(PV.int (0:Int)),(PV.int (0:Int)),(PV.str ([]:List UInt8)),(PV.slice []),(PV.slice []),(PV.slice []),(PV.slice [])]
def mkV (k b:Int):PV:=PV.agg [(PV.int k),(PV.int b),(PV.str ([]:List UInt8)),(PV.slice []),(PV.slice []),(PV.slice []),(PV.slice [])]
def signed (neg:Bool) (l:List UInt8):List UInt8:=if neg=true then 45::l else l
theorem a0w (k:Int) {b:Int} (h0:0<=b) (h1:b<18446744073709551616):awr (mkV k b):=⟨Nat.zero_le _,Nat.zero_le _,h0,h1⟩
theorem ard (neg:Bool) (u:Nat) (hu:u<18446744073709551616):F365 0 (signed neg (Lib.decDigits u))=some (if neg=true/\u=0 then (0,false,2) else ((u:Int),neg,0)):=by
 cases neg with
 | false=>simp only [signed,Bool.false_eq_true,if_false,false_and];exact a9k u hu
 | true=>simp only [signed,if_true,true_and];exact a9m u hu
end Go.Ab
namespace Go.Ab
open Go
set_option maxRecDepth 100000
theorem a6m (l:List UInt8):F141 0 (45::l) [45]=some l:=by
 unfold F141 F245 F297
 have h1:decide (((45::l:List UInt8).length:Int)≥(([45]:List UInt8).length:Int))=true:=decide_eq_true (by simp;omega)
 have h2:decide ((0:Int)<=0/\(0:Int)<=(([45]:List UInt8).length:Int)/\(([45]:List UInt8).length:Int)<=((45::l:List UInt8).length:Int))=true:=decide_eq_true (by simp;omega)
 have h3:decide ((0:Int)<=(([45]:List UInt8).length:Int)/\(([45]:List UInt8).length:Int)<=((45::l:List UInt8).length:Int)/\((45::l:List UInt8).length:Int)<=((45::l:List UInt8).length:Int))=true:=decide_eq_true (by simp;omega)
 have h4:(((45::l:List UInt8).take ((([45]:List UInt8).length:Int)).toNat).drop (0:Int).toNat==([45]:List UInt8))=true:=by
  simp
 have h5:((45::l:List UInt8).take ((45::l:List UInt8).length:Int).toNat).drop ((([45]:List UInt8).length:Int)).toNat=l:=by
  rw [show (((45::l:List UInt8).length:Int)).toNat=(45::l:List UInt8).length from Int.toNat_natCast _,List.take_length];rfl
 simp only [h1,h2,h3,h4,h5,imp,cond_true,Option.bind_some]
theorem a4z (c:UInt8) (l:List UInt8) (hc:c≠45):F141 0 (c::l) [45]=some (c::l):=by
 unfold F141 F245 F297
 have h1:decide (((c::l:List UInt8).length:Int)≥(([45]:List UInt8).length:Int))=true:=decide_eq_true (by simp;omega)
 have h2:decide ((0:Int)<=0/\(0:Int)<=(([45]:List UInt8).length:Int)/\(([45]:List UInt8).length:Int)<=((c::l:List UInt8).length:Int))=true:=decide_eq_true (by simp;omega)
 have h4:(((c::l:List UInt8).take ((([45]:List UInt8).length:Int)).toNat).drop (0:Int).toNat==([45]:List UInt8))=false:=by
  simp [hc]
 simp only [h1,h2,h4,imp,cond_true,cond_false,Option.bind_some]
theorem a4t (s:List UInt8) (hd:∀ c,c∈s->aib c) (hl:s.length<=1048576):∀ (m i:Nat),s.length-i<=m->i<=s.length->
 aba (S357_6step 0) (s,(s.length:Int),(i:Int))=some (.inr ()):=by
 intro m
 induction m with
 | zero=>
  intro i hm hi
  have hlt:¬i<s.length:=by omega
  exact aac (by simp only [S357_6step,S357_6,abn,hlt,decide_false,cond_false])
 | succ m ih=>
  intro i hm hi
  by_cases hlt:i<s.length
  ·have hc:aib (s.getD i 0):=hd _ (by rw [afr hlt];exact List.getElem_mem _)
   generalize hx:s.getD i 0=c at hc
   unfold aib at hc
   have d1:decide ((c.toNat:Int)<(48:Int))=false:=decide_eq_false (by omega)
   have d2:decide ((c.toNat:Int)>(57:Int))=false:=decide_eq_false (by omega)
   rw [aaw (x1:=(s,(s.length:Int),((i+1:Nat):Int))),ih (i+1) (by omega) (by omega)]
   simp only [S357_6step,S357_6,abn,aab,hlt,decide_true,cond_true,Int.toNat_natCast,hx,d1,d2,imp,Bool.not_false,cond_false,ayv (i:=i) (by omega)]
  ·exact aac (by simp only [S357_6step,S357_6,abn,hlt,decide_false,cond_false])
theorem ayy (neg:Bool) (u:Nat) (hu:u<18446744073709551616):F357 0 (signed neg (Lib.decDigits u))=some (!(neg&&decide (u=0))):=by
 obtain ⟨h1,h2,h3,h4⟩:=aeo u
 have hlen:=ap1 u hu
 have hloop:=a4t (Lib.decDigits u) h1 (by omega) (Lib.decDigits u).length 0 (by omega) (by omega)
 have hz:u=0->Lib.decDigits u=[48]:=fun h=>by subst h;rw [Lib.decDigits];rfl
 generalize Lib.decDigits u=s at*
 match s,h3 with
 | c::r,_=>
  have hc:=h1 c (by simp)
  unfold aib at hc
  have hne:c≠45:=fun h=>by subst h;simp at hc
  have hi:aaa (0:Int) (c::r).length=true:=by rw [show (0:Int)=((0:Nat):Int) from rfl,aab];exact decide_eq_true (by simp)
  have hg:((c::r).getD (0:Int).toNat 0)=c:=rfl
  have hn:((c::r)==([]:List UInt8))=false:=rfl
  rw [show ((0:Nat):Int)=(0:Int) from rfl] at hloop
  have ht:F141 0 (signed neg (c::r)) [45]=some (c::r):=by
   cases neg with
   | true=>exact a6m _
   | false=>exact a4z c r hne
  unfold F357
  rw [ht]
  by_cases h0:u=0
  ·have hz:=hz h0
   simp at hz
   obtain ⟨rfl,rfl⟩:=hz
   cases neg with
   | true=>simp only [signed,if_true,Option.bind_some];rw [h0];rfl
   | false=>
    have e48:((([48]:List UInt8))==[48])=true:=rfl
    simp only [signed,Bool.false_eq_true,if_false,Option.bind_some,hn,hi,imp,Bool.not_false,cond_true,cond_false,hg,e48,Bool.not_true,aag,aan,hloop,aa2,Bool.false_and]
  ·have:=h4 h0 c rfl
   have hk:((c.toNat:Int)==(48:Int))=false:=by simp;omega
   simp only [Option.bind_some,hn,hi,imp,Bool.not_false,cond_true,cond_false,hg,hk,aan,hloop,aa2,h0,decide_false,Bool.and_false]
theorem axg (neg:Bool) (u:Nat) (hu:u<18446744073709551616):(signed neg (Lib.decDigits u)).length<=21:=by
 have:=ap1 u hu
 unfold signed
 split
 ·simp;omega
 ·omega
theorem arb (s:List UInt8) (hs:s.length<=1048576):afq 0 s 10 64=some (aor s (Lib.parseIntB 64 s)):=by
 unfold afq
 have:Nat.ble s.length 281474976710656=true:=Nat.ble_eq_true_of_le (by omega)
 simp [this]
theorem aiz (s:List UInt8) (hs:s.length<=1048576):abu 0 s 10 64=some (ab1 (Lib.parseUintB 64 s)):=by
 unfold abu
 have:Nat.ble s.length 281474976710656=true:=Nat.ble_eq_true_of_le (by omega)
 simp [this]
end Go.Ab
namespace Go.Ab
open Go
end Go.Ab
namespace Go.Ab
open Go
set_option maxRecDepth 100000
def axd (t:PV):Int:=(t.fld 0).asInt
def a8p (t:PV):List UInt8:=(t.fld 1).asStr
def sgn (t:List PV) (i:Nat) (s:List UInt8):Bool:=decide (i<t.length)&&((axd (t.getD i .bad)==4)&&(a8p (t.getD i .bad)==s))
theorem bap (t:List PV) (i:Nat) (s:List UInt8):F77 0 t (i:Int) s=some (sgn t i s):=by
 unfold F77 sgn
 have h0:decide ((i:Int)≥0)=true:=decide_eq_true (by omega)
 have e0:((t.getD i .bad).fld 0).asInt=axd (t.getD i .bad):=rfl
 have e1:((t.getD i .bad).fld 1).asStr=a8p (t.getD i .bad):=rfl
 by_cases hlt:i<t.length
 ·simp only [h0,abn,hlt,decide_true,cond_true,imp,aab,Int.toNat_natCast,e0,e1,Bool.true_and]
  cases (axd (t.getD i .bad)==4)<;>simp
 ·simp only [h0,abn,hlt,decide_false,cond_true,cond_false,imp,Bool.not_false,Bool.false_and,aag]
theorem ayo (t:List PV) (i:Nat):F158 0 t (i:Int)=some (if i<t.length then axd (t.getD i .bad) else 0):=by
 unfold F158
 have h0:decide ((i:Int)<0)=false:=decide_eq_false (by omega)
 have e0:((t.getD i .bad).fld 0).asInt=axd (t.getD i .bad):=rfl
 by_cases hlt:i<t.length
 ·have h1:decide ((i:Int)≥(t.length:Int))=false:=decide_eq_false (by omega)
  simp only [h0,h1,cond_false,aab,hlt,decide_true,cond_true,Int.toNat_natCast,e0,if_true]
 ·have h1:decide ((i:Int)≥(t.length:Int))=true:=decide_eq_true (by omega)
  simp only [h0,h1,cond_false,cond_true,hlt,if_false]
theorem bau (n:Int):∃ u:Nat,u<18446744073709551616/\IntKind.wrap .u64 n=(u:Int):=by
 refine ⟨(n%18446744073709551616).toNat,by omega,?_⟩
 rw [IntKind.wrap_u64];omega
theorem baw (u:Nat) (hu:u<18446744073709551616):F135 0 (u:Int) 10=some (Lib.decDigits u):=by
 have d0:decide ((0:Int)<=(u:Int))=true:=decide_eq_true (by omega)
 have d1:decide ((u:Int)<=18446744073709551615)=true:=decide_eq_true (by omega)
 have hf:Lfmt 0 (u:Int) (10:Int)=some (decB u):=by
  first
   | (unfold ayg;simp [d0,d1])
   | (unfold Lfmt;rw [decide_eq_true rfl,cond_true];unfold ayg;simp [d0,d1])
 unfold F135
 rw [hf,Option.bind_some,agb (by omega)]
theorem ar7 {name:List UInt8} (h:aai name≠0):aai name=1∨aai name=7∨aai name=3∨aai name=4:=by
 by_cases hk:name∈ac2
 ·simp only [ac2,List.mem_cons,List.not_mem_nil,or_false] at hk
  have e:∀ k:Int,(k=1∨k=7∨k=3∨k=4)->some (aai name)=some k->aai name=1∨aai name=7∨aai name=3∨aai name=4:=fun k hk he=>by cases he;exact hk
  rcases hk with rfl | rfl | rfl | rfl | rfl | rfl | rfl | rfl | rfl | rfl | rfl | rfl | rfl
  ·exact e 1 (by decide) (by kernel_rfl)
  ·exact e 1 (by decide) (by kernel_rfl)
  ·exact e 1 (by decide) (by kernel_rfl)
  ·exact e 7 (by decide) (by kernel_rfl)
  ·exact e 7 (by decide) (by kernel_rfl)
  ·exact e 7 (by decide) (by kernel_rfl)
  ·exact e 7 (by decide) (by kernel_rfl)
  ·exact e 4 (by decide) (by kernel_rfl)
  ·exact e 4 (by decide) (by kernel_rfl)
  ·exact e 4 (by decide) (by kernel_rfl)
  ·exact e 4 (by decide) (by kernel_rfl)
  ·exact e 3 (by decide) (by kernel_rfl)
  ·exact e 3 (by decide) (by kernel_rfl)
 ·exact absurd (ah4 hk) h
end Go.Ab
namespace Go.Ab
open Go
set_option maxRecDepth 100000
noncomputable section
structure Tk where
 k:Int
 s:List UInt8
 n:Int
def tkOf (x:PV):Tk:=⟨(x.fld 0).asInt,(x.fld 1).asStr,(x.fld 2).asInt⟩
inductive Rs (α:Type) where
 | ok (v:α) (r:List Tk)
 | er (r:List Tk) (e:Int)
def Rs.bind {α β:Type} (x:Rs α) (f:α->List Tk->Rs β):Rs β:=match x with | .ok v r=>f v r | .er r e=>.er r e
theorem Rs.bind_ok {α β:Type} (v:α) (r:List Tk) (f:α->List Tk->Rs β):(Rs.ok v r).bind f=f v r:=rfl
theorem Rs.bind_er {α β:Type} (r:List Tk) (e:Int) (f:α->List Tk->Rs β):(Rs.er r e:Rs α).bind f=.er r e:=rfl
def isS (k:Int) (s:List UInt8):List Tk->Bool
 | []=>false
 | x::_=>x.k==k&&x.s==s
def aax:List Tk->Int
 | []=>0
 | x::_=>x.k
def aco:List Tk->List UInt8
 | []=>[]
 | x::_=>x.s
def alh:List Tk->Int
 | []=>0
 | x::_=>x.n
def eatS (k:Int) (s:List UInt8) (ts:List Tk):Rs Unit:=bif isS k s ts then .ok () ts.tail else .er ts 2
def takeS (k:Int) (p:List UInt8->Bool) (ts:List Tk):Rs (List UInt8):=
 bif aax ts==k then (bif p (aco ts) then .ok (aco ts) ts.tail else .er ts 8) else .er ts 2
def aq4 (ts:List Tk):Rs (List UInt8):=takeS 1 a4x ts
def aq3 (outer s:List UInt8):List UInt8:=bif outer==[] then s else outer++[46]++s
def ao1 (outer s:List UInt8):Bool:=defP s&&(outer==[]||(adx s&&ahg (aq3 outer s)))
def ao4 (outer:List UInt8) (ts:List Tk):Rs (List UInt8):=(takeS 1 (ao1 outer) ts).bind fun s r=>.ok (aq3 outer s) r
def afd (ts:List Tk):Rs (List UInt8):=takeS 1 afw ts
def aes (w:List UInt8):Int:=
 bif w==[98,111,111,108] then 1 else bif w==[105,51,50] then 2 else bif w==[105,54,52] then 3 else bif w==[117,51,50] then 4 else bif w==[117,54,52] then 5 else bif w==[100,111,117,98,108,101] then 6 else bif w==[116,101,120,116] then 7 else bif w==[98,121,116,101,115] then 8 else 0
def tyOf (s:List UInt8):PV:=bif aes s==0 then PV.agg [PV.int 0,PV.str s] else PV.agg [PV.int (aes s),PV.str []]
def typS (ts:List Tk):Rs PV:=(afd ts).bind fun s r=>.ok (tyOf s) r
def abg (ts:List Tk):Rs (List UInt8):=takeS 3 (fun _=>true) ts
def numS (most:Int) (ts:List Tk):Rs Int:=
 bif aax ts==2 then (bif decide (0<=alh ts/\alh ts<=most) then .ok (alh ts) ts.tail else .er ts 6) else .er ts 2
def valS (pv:PV×Int) (back r:List Tk):Rs PV:=bif pv.2==0 then .ok pv.1 r else .er back pv.2
def az8 (s:List UInt8):PV:=PV.agg [(PV.int 9),(PV.int 0),(PV.str s),(PV.slice []),(PV.slice []),(PV.slice []),(PV.slice [])]
def intS (pv:Int->List UInt8->PV×Int) (k:Int) (neg:Bool) (ts:List Tk):Rs PV:=
 bif aax ts==2 then valS (pv k ((bif neg then [45] else [])++decB (IntKind.wrap .u64 (alh ts)).toNat)) ts ts.tail else .er ts 2
def litS (pv:Int->List UInt8->PV×Int) (k:Int) (ts:List Tk):Rs PV:=
 bif k==0 then (aq4 ts).bind fun s r=>.ok (az8 s) r
 else bif k==1 then (bif isS 1 [116,114,117,101] ts||isS 1 [102,97,108,115,101] ts then valS (pv k (aco ts)) ts ts.tail else .er ts 2)
 else bif k==6||k==8 then (abg ts).bind fun s r=>valS (pv k s) ts r
 else bif k==7 then (abg ts).bind fun s r=>valS (pv k (aa4 s)) ts r
 else bif isS 4 [45] ts then intS pv k true ts.tail else intS pv k false ts
def ade (k b:Int) (s:List UInt8):PV:=PV.agg [(PV.int k),(PV.int b),(PV.str s),(PV.slice []),(PV.slice []),(PV.slice []),(PV.slice [])]
def af7 (pv:Int->List UInt8->PV×Int) (k:Int) (ts:List Tk):Rs PV:=
 bif k==1 then (bif isS 1 [116,114,117,101] ts then .ok (ade 1 1 []) ts.tail else bif isS 1 [102,97,108,115,101] ts then .ok (ade 1 0 []) ts.tail else .er ts 2)
 else bif k==7 then (bif aax ts==3 then (bif decide ((aco ts).length>4096) then .er ts 3 else bif valid (aco ts) then .ok (ade 7 0 (aco ts)) ts.tail else .er ts 7) else .er ts 2)
 else bif isS 4 [45] ts then intS pv k true ts.tail else intS pv k false ts
def ann (pv:Int->List UInt8->PV×Int) (kd:List UInt8->Int) (ts:List Tk):Rs PV:=
 bif aax ts==1 then
  bif kd (aco ts)==0 then .er ts 8
  else (eatS 4 [61] ts.tail).bind fun _ r=>(af7 pv (kd (aco ts)) r).bind fun v r=>.ok (PV.agg [PV.str (aco ts),v]) r
 else .er ts 2
def acl (pv:Int->List UInt8->PV×Int) (kd:List UInt8->Int) (ts:List Tk) (acc:List PV):Rs (List PV):=
 (ann pv kd ts).bind fun n r=>
  bif isS 4 [93] r then .ok (acc++[n]) r.tail
  else bif isS 4 [44] r then (if h:r.tail.length<ts.length then acl pv kd r.tail (acc++[n]) else .er r 0)
  else .er r 2
termination_by ts.length
decreasing_by all_goals (simp only [List.length_tail] at *;omega)
def adj (pv:Int->List UInt8->PV×Int) (kd:List UInt8->Int) (ts:List Tk):Rs (List PV):=
 bif isS 4 [91] ts then acl pv kd ts.tail [] else .ok [] ts
def ac9:PV:=PV.agg [(PV.int 0),(PV.int 0),(PV.str []),(PV.slice []),(PV.slice []),(PV.slice []),(PV.slice [])]
def aj1 (num:Int) (nm:List UInt8) (card key:Int) (ty:PV) (un:List UInt8) (hd:Bool) (df:PV) (nts:List PV):PV:=
 PV.agg [PV.int num,PV.str nm,PV.int card,PV.int key,ty,PV.str un,PV.bool hd,df,PV.slice nts]
section
variable (pv:Int->List UInt8->PV×Int) (kd:List UInt8->Int)
def au3 (wd:Bool) (k:Int) (ts:List Tk):Rs (Bool×PV):=bif wd&&isS 1 [100,101,102,97,117,108,116] ts then (litS pv k ts.tail).bind fun v r=>.ok (true,v) r else .ok (false,ac9) ts
def akr (card key:Int) (ty:PV) (un:List UInt8) (wd:Bool) (ts:List Tk):Rs PV:=
 (aq4 ts).bind fun nm r1=>(eatS 4 [61] r1).bind fun _ r2=>(numS 65535 r2).bind fun n r3=>(au3 pv wd (ty.fld 0).asInt r3).bind fun d r4=>
 (adj pv kd r4).bind fun l r5=>(eatS 4 [59] r5).bind fun _ r6=>.ok (aj1 n nm card key ty un d.1 d.2 l) r6
def alo (w:List UInt8):Int:=bif w==[114,101,113,117,105,114,101,100] then 1 else bif w==[111,112,116,105,111,110,97,108] then 2 else bif w==[112,108,97,105,110] then 3 else bif w==[108,105,115,116] then 4 else 0
def ahz (ts:List Tk):Rs PV:=
 bif isS 1 [109,97,112] ts then (eatS 4 [60] ts.tail).bind fun _ r=>
  bif aax r==1&&!(aes (aco r)==0) then (eatS 4 [44] r.tail).bind fun _ r2=>(typS r2).bind fun ty r3=>(eatS 4 [62] r3).bind fun _ r4=>akr pv kd 5 (aes (aco r)) ty [] false r4
  else .er r 2
 else bif aax ts==1&&!(alo (aco ts)==0) then (typS ts.tail).bind fun ty r=>akr pv kd (alo (aco ts)) 0 ty [] true r
 else .er ts 2
def adm (un:List UInt8) (ts:List Tk) (acc:List PV):Rs (List PV):=
 (typS ts).bind fun ty r=>(akr pv kd 2 0 ty un false r).bind fun x r2=>
  bif isS 4 [125] r2 then .ok (acc++[x]) r2.tail else if h:r2.length<ts.length then adm un r2 (acc++[x]) else .er r2 0
termination_by ts.length
def asc (ts:List Tk):Rs (List PV):=(eatS 1 [117,110,105,111,110] ts).bind fun _ r=>(aq4 r).bind fun un r2=>(eatS 4 [123] r2).bind fun _ r3=>adm pv kd un r3 []
def auu (most:Int) (ts:List Tk):Rs PV:=(numS most ts).bind fun a r=>(bif isS 4 [45] r then numS most r.tail else .ok a r).bind fun b r2=>.ok (PV.agg [PV.int a,PV.int b]) r2
def adh (most:Int) (ts:List Tk) (acc:List PV):Rs (List PV):=
 (auu most ts).bind fun x r2=>
  bif isS 4 [59] r2 then .ok (acc++[x]) r2.tail
  else (eatS 4 [44] r2).bind fun _ r3=>if h:r3.length<ts.length then adh most r3 (acc++[x]) else .er r3 0
termination_by ts.length
def al5 (ts:List Tk) (acc:List PV):Rs (List PV):=
 (abg ts).bind fun s r2=>
  bif isS 4 [59] r2 then .ok (acc++[PV.str s]) r2.tail
  else (eatS 4 [44] r2).bind fun _ r3=>if h:r3.length<ts.length then al5 r3 (acc++[PV.str s]) else .er r3 0
termination_by ts.length
def a6y (ts:List Tk):Rs PV:=
 (aq4 ts).bind fun nm r1=>(eatS 4 [61] r1).bind fun _ r2=>(numS 2147483647 r2).bind fun n r3=>(adj pv kd r3).bind fun l r4=>(eatS 4 [59] r4).bind fun _ r5=>.ok (PV.agg [PV.str nm,PV.int n,PV.slice l]) r5
def aeg (ts:List Tk) (its rs:List PV):Rs (List PV×List PV):=
 bif isS 4 [125] ts then .ok (its,rs) ts.tail
 else bif isS 1 [114,101,115,101,114,118,101,100] ts then (adh 2147483647 ts.tail []).bind fun l r=>if h:r.length<ts.length then aeg r its (rs++l) else .er r 0
 else (a6y pv kd ts).bind fun x r=>if h:r.length<ts.length then aeg r (its++[x]) rs else .er r 0
termination_by ts.length
def avn (outer:List UInt8) (ts:List Tk):Rs PV:=
 (eatS 1 [101,110,117,109] (bif isS 1 [111,112,101,110] ts then ts.tail else ts)).bind fun _ r=>(ao4 outer r).bind fun nm r2=>(adj pv kd r2).bind fun l r3=>(eatS 4 [123] r3).bind fun _ r4=>
  (aeg pv kd r4 [] []).bind fun x r5=>.ok (PV.agg [PV.str nm,PV.bool (isS 1 [111,112,101,110] ts),PV.slice x.1,PV.slice x.2,PV.slice l]) r5
structure MB where
 fs:List PV
 rs:List PV
 gs:List PV
 ms:List PV
 es:List PV
def ac0 (msg:List UInt8->List PV->List PV->List Tk->Rs (List PV×List PV)) (name:List UInt8) (ts:List Tk) (b:MB):Rs MB:=
 bif isS 4 [125] ts then .ok b ts.tail
 else bif isS 1 [117,110,105,111,110] ts then (asc pv kd ts).bind fun l r=>if h:r.length<ts.length then ac0 msg name r { b with fs:=b.fs++l } else .er r 0
 else bif isS 1 [109,101,115,115,97,103,101] ts then (msg name b.ms b.es ts).bind fun x r=>if h:r.length<ts.length then ac0 msg name r { b with ms:=x.1,es:=x.2 } else .er r 0
 else bif isS 1 [101,110,117,109] ts||isS 1 [111,112,101,110] ts then (avn pv kd name ts).bind fun x r=>if h:r.length<ts.length then ac0 msg name r { b with es:=b.es++[x] } else .er r 0
 else bif isS 1 [114,101,115,101,114,118,101,100] ts then
  (bif aax ts.tail==3 then (al5 ts.tail []).bind fun l r=>if h:r.length<ts.length then ac0 msg name r { b with gs:=b.gs++l } else .er r 0
   else (adh 65535 ts.tail []).bind fun l r=>if h:r.length<ts.length then ac0 msg name r { b with rs:=b.rs++l } else .er r 0)
 else (ahz pv kd ts).bind fun x r=>if h:r.length<ts.length then ac0 msg name r { b with fs:=b.fs++[x] } else .er r 0
termination_by ts.length
def auv (nm:List UInt8) (fs rs gs nts:List PV):PV:=PV.agg [PV.str nm,PV.slice fs,PV.slice rs,PV.slice gs,PV.slice nts]
def msgS:Nat->List UInt8->List PV->List PV->List Tk->Rs (List PV×List PV)
 | 0,_,_,_,ts=>.er ts 17
 | d+1,outer,ms,es,ts=>(eatS 1 [109,101,115,115,97,103,101] ts).bind fun _ r=>(ao4 outer r).bind fun nm r2=>(adj pv kd r2).bind fun l r3=>(eatS 4 [123] r3).bind fun _ r4=>
  (ac0 pv kd (msgS d) nm r4 ⟨[],[],[],ms++[auv nm [] [] [] []],es⟩).bind fun b r5=>.ok (b.ms.set ms.length (auv nm b.fs b.rs b.gs l),b.es) r5
def axw (ts:List Tk):Rs (Bool×List UInt8):=(eatS 4 [40] ts).bind fun _ r=>(afd (bif isS 1 [115,116,114,101,97,109] r then r.tail else r)).bind fun s r2=>(eatS 4 [41] r2).bind fun _ r3=>.ok (isS 1 [115,116,114,101,97,109] r,s) r3
def a8i (a b:Bool):Int:=bif a&&b then 4 else bif a then 3 else bif b then 2 else 1
def rpcS (ts:List Tk):Rs PV:=
 (eatS 1 [114,112,99] ts).bind fun _ r=>(aq4 r).bind fun nm r1=>(axw r1).bind fun a r2=>(eatS 1 [114,101,116,117,114,110,115] r2).bind fun _ r3=>(axw r3).bind fun b r4=>(adj pv kd r4).bind fun l r5=>(eatS 4 [59] r5).bind fun _ r6=>
  .ok (PV.agg [PV.str nm,PV.str a.2,PV.str b.2,PV.int (a8i a.1 b.1),PV.slice l]) r6
def anp (ts:List Tk) (acc:List PV):Rs (List PV):=
 bif isS 4 [125] ts then .ok acc ts.tail
 else (rpcS pv kd ts).bind fun x r=>if h:r.length<ts.length then anp r (acc++[x]) else .er r 0
termination_by ts.length
def svcS (ts:List Tk):Rs PV:=
 (eatS 1 [115,101,114,118,105,99,101] ts).bind fun _ r=>(ao4 [] r).bind fun nm r1=>(adj pv kd r1).bind fun l r2=>(eatS 4 [123] r2).bind fun _ r3=>(anp pv kd r3 []).bind fun x r4=>.ok (PV.agg [PV.str nm,PV.slice x,PV.slice l]) r4
def ado (ts:List Tk) (acc:List PV):Rs (List PV):=
 bif isS 1 [105,109,112,111,114,116] ts then (abg ts.tail).bind fun s r=>(eatS 4 [59] r).bind fun _ r2=>if h:r2.length<ts.length then ado r2 (acc++[PV.str s]) else .er r2 0
 else .ok acc ts
termination_by ts.length
structure FB where
 ms:List PV
 es:List PV
 ss:List PV
def aix (ts:List Tk) (b:FB):Rs FB:=
 bif ts.isEmpty then .ok b ts
 else bif isS 1 [109,101,115,115,97,103,101] ts then (msgS pv kd 16 [] b.ms b.es ts).bind fun x r=>if h:r.length<ts.length then aix r { b with ms:=x.1,es:=x.2 } else .er r 0
 else bif isS 1 [101,110,117,109] ts||isS 1 [111,112,101,110] ts then (avn pv kd [] ts).bind fun x r=>if h:r.length<ts.length then aix r { b with es:=b.es++[x] } else .er r 0
 else (svcS pv kd ts).bind fun x r=>if h:r.length<ts.length then aix r { b with ss:=b.ss++[x] } else .er r 0
termination_by ts.length
def awi (ts:List Tk):Rs (List UInt8):=bif isS 1 [115,112,97,99,101] ts then (takeS 1 defP ts.tail).bind fun s r=>(eatS 4 [59] r).bind fun _ r2=>.ok s r2 else .ok [] ts
def azq (name:List UInt8) (ts:List Tk):Rs PV:=
 (awi ts).bind fun sp r=>(ado r []).bind fun im r2=>(aix pv kd r2 ⟨[],[],[]⟩).bind fun b r3=>.ok (PV.agg [PV.str name,PV.str sp,PV.slice im,PV.slice b.ms,PV.slice b.es,PV.slice b.ss]) r3
end
def Sh {α:Type} (x:Rs α) (ts:List Tk):Prop:=∀ v r,x=.ok v r->r.length<ts.length
def Sh0 {α:Type} (x:Rs α) (ts:List Tk):Prop:=∀ v r,x=.ok v r->r.length<=ts.length
theorem Sh.le {α:Type}{x:Rs α}{ts:List Tk} (h:Sh x ts):Sh0 x ts:=fun v r e=>Nat.le_of_lt (h v r e)
theorem sh_bind {α β:Type}{x:Rs α}{f:α->List Tk->Rs β}{ts:List Tk} (hx:Sh x ts) (hf:∀ v r,Sh0 (f v r) r):Sh (x.bind f) ts:=by
 intro v r h
 cases x with
 | ok a q=>have:=hx a q rfl;have:=hf a q v r h;omega
 | er=>cases h
theorem aau {α β:Type}{x:Rs α}{f:α->List Tk->Rs β}{ts:List Tk} (hx:Sh0 x ts) (hf:∀ v r,Sh0 (f v r) r):Sh0 (x.bind f) ts:=by
 intro v r h
 cases x with
 | ok a q=>have:=hx a q rfl;have:=hf a q v r h;omega
 | er=>cases h
theorem adz {α:Type} (v:α) (r:List Tk):Sh0 (Rs.ok v r) r:=fun _ _ h=>by cases h;exact Nat.le_refl _
theorem aj7 {α:Type} (q r:List Tk) (e:Int):Sh (Rs.er q e:Rs α) r:=fun _ _ h=>by cases h
theorem act {k:Int}{s:List UInt8}{ts:List Tk} (h:isS k s ts=true):ts.tail.length<ts.length:=by
 cases ts with
 | nil=>cases h
 | cons x r=>simp
theorem ahm {k:Int}{ts:List Tk} (h:(aax ts==k)=true) (hk:(k==0)=false):ts.tail.length<ts.length:=by
 cases ts with
 | nil=>simp only [aax,beq_iff_eq] at h;subst h;simp at hk
 | cons x r=>simp
theorem eat_sh (k:Int) (s:List UInt8) (ts:List Tk):Sh (eatS k s ts) ts:=by
 intro v r h
 unfold eatS at h
 cases hb:isS k s ts with
 | true=>rw [hb] at h;cases h;exact act hb
 | false=>rw [hb] at h;cases h
theorem ami (k:Int) (hk:(k==0)=false) (p:List UInt8->Bool) (ts:List Tk):Sh (takeS k p ts) ts:=by
 intro v r h
 unfold takeS at h
 cases hb:(aax ts==k) with
 | true=>
  rw [hb] at h
  cases hp:p (aco ts)<;>simp only [hp,cond_true,cond_false] at h
  ·cases h
  ·cases h;exact ahm hb hk
 | false=>rw [hb] at h;cases h
theorem amr (most:Int) (ts:List Tk):Sh (numS most ts) ts:=by
 intro v r h
 unfold numS at h
 cases hb:(aax ts==2) with
 | true=>
  rw [hb] at h
  cases hp:decide (0<=alh ts/\alh ts<=most)<;>simp only [hp,cond_true,cond_false] at h
  ·cases h
  ·cases h;exact ahm hb rfl
 | false=>rw [hb] at h;cases h
theorem aif (ts:List Tk):Sh (aq4 ts) ts:=ami 1 rfl _ ts
theorem ak8 (o:List UInt8) (ts:List Tk):Sh (ao4 o ts) ts:=sh_bind (ami 1 rfl _ ts) fun v r=>adz _ _
theorem aq8 (ts:List Tk):Sh (typS ts) ts:=sh_bind (ami 1 rfl _ ts) fun v r=>adz _ _
theorem acz (ts:List Tk):Sh (abg ts) ts:=ami 3 rfl _ ts
theorem avw {x:PV×Int}{back r ts:List Tk} (h:r.length<ts.length):Sh (valS x back r) ts:=by
 intro v q e
 unfold valS at e
 cases hb:(x.2==0)<;>rw [hb] at e<;>cases e
 exact h
theorem awo (pv:Int->List UInt8->PV×Int) (k:Int) (neg:Bool) (ts:List Tk):Sh (intS pv k neg ts) ts:=by
 intro v r h
 unfold intS at h
 cases hb:(aax ts==2) with
 | true=>rw [hb] at h;exact avw (ahm hb rfl) v r h
 | false=>rw [hb] at h;cases h
theorem aby (ts:List Tk):ts.tail.length<=ts.length:=by simp
theorem ag7 {α:Type}{x:Rs α}{ts:List Tk} (h:Sh x ts.tail):Sh x ts:=fun v r e=>Nat.lt_of_lt_of_le (h v r e) (aby ts)
theorem a7o (pv:Int->List UInt8->PV×Int) (k:Int) (ts:List Tk):Sh (litS pv k ts) ts:=by
 unfold litS
 cases (k==0) with
 | true=>exact sh_bind (aif ts) fun v r=>adz _ _
 | false=>
  cases (k==1) with
  | true=>
   cases hb:(isS 1 [116,114,117,101] ts||isS 1 [102,97,108,115,101] ts) with
   | true=>
    refine avw ?_
    cases h1:isS 1 [116,114,117,101] ts with
    | true=>exact act h1
    | false=>rw [h1] at hb;exact act (by simpa using hb)
   | false=>exact aj7 _ _ _
  | false=>
   cases (k==6||k==8) with
   | true=>
    intro v r h
    cases ha:abg ts with
    | ok s q=>simp only [cond_true,cond_false,ha,Rs.bind] at h;exact avw (acz ts s q ha) v r h
    | er q e=>simp only [cond_true,cond_false,ha,Rs.bind] at h;cases h
   | false=>
    cases (k==7) with
    | true=>
     intro v r h
     cases ha:abg ts with
     | ok s q=>simp only [cond_true,cond_false,ha,Rs.bind] at h;exact avw (acz ts s q ha) v r h
     | er q e=>simp only [cond_true,cond_false,ha,Rs.bind] at h;cases h
    | false=>
     cases isS 4 [45] ts with
     | true=>exact ag7 (awo pv k true ts.tail)
     | false=>exact awo pv k false ts
theorem aym (pv:Int->List UInt8->PV×Int) (k:Int) (ts:List Tk):Sh (af7 pv k ts) ts:=by
 unfold af7
 cases (k==1) with
 | true=>
  cases h1:isS 1 [116,114,117,101] ts with
  | true=>intro v r e;cases e;exact act h1
  | false=>
   cases h2:isS 1 [102,97,108,115,101] ts with
   | true=>intro v r e;cases e;exact act h2
   | false=>exact aj7 _ _ _
 | false=>
  cases (k==7) with
  | true=>
   cases h3:(aax ts==3) with
   | true=>
    cases decide ((aco ts).length>4096) with
    | true=>exact aj7 _ _ _
    | false=>
     cases valid (aco ts) with
     | true=>intro v r e;cases e;exact ahm h3 rfl
     | false=>exact aj7 _ _ _
   | false=>exact aj7 _ _ _
  | false=>
   cases isS 4 [45] ts with
   | true=>exact ag7 (awo pv k true ts.tail)
   | false=>exact awo pv k false ts
theorem anb (pv:Int->List UInt8->PV×Int) (kd:List UInt8->Int) (ts:List Tk):Sh (ann pv kd ts) ts:=by
 unfold ann
 cases (aax ts==1) with
 | true=>
  cases (kd (aco ts)==0) with
  | true=>exact aj7 _ _ _
  | false=>exact ag7 (sh_bind (eat_sh _ _ _) fun _ r=>aau (aym pv _ r).le fun v q=>adz _ _)
 | false=>exact aj7 _ _ _
theorem acg (pv:Int->List UInt8->PV×Int) (kd:List UInt8->Int) (ts:List Tk) (acc:List PV):acl pv kd ts acc=(ann pv kd ts).bind fun n r=>
 bif isS 4 [93] r then .ok (acc++[n]) r.tail else bif isS 4 [44] r then acl pv kd r.tail (acc++[n]) else .er r 2:=by
 rw [acl]
 cases h:ann pv kd ts with
 | er r e=>rfl
 | ok n r=>
  have:=anb pv kd ts n r h
  have:=aby r
  simp only [Rs.bind,show r.tail.length<ts.length by omega,dite_true]
theorem asy (pv:Int->List UInt8->PV×Int) (kd:List UInt8->Int):∀ (m:Nat) (ts:List Tk) (acc:List PV),ts.length<=m->Sh (acl pv kd ts acc) ts:=by
 intro m
 induction m with
 | zero=>
  intro ts acc hm
  have:ts=[]:=List.eq_nil_of_length_eq_zero (by omega)
  subst this
  rw [acg]
  exact aj7 _ _ _
 | succ m ih=>
  intro ts acc hm
  rw [acg]
  cases h:ann pv kd ts with
  | er r e=>exact aj7 _ _ _
  | ok n r=>
   have h1:=anb pv kd ts n r h
   have h2:=aby r
   simp only [Rs.bind]
   cases isS 4 [93] r with
   | true=>intro v q e;cases e;omega
   | false=>
    cases isS 4 [44] r with
    | true=>intro v q e;have:=ih r.tail (acc++[n]) (by omega) v q e;omega
    | false=>exact aj7 _ _ _
theorem ae3 (pv:Int->List UInt8->PV×Int) (kd:List UInt8->Int) (ts:List Tk):Sh0 (adj pv kd ts) ts:=by
 unfold adj
 cases isS 4 [91] ts with
 | true=>exact (ag7 (asy pv kd _ ts.tail [] (Nat.le_refl _))).le
 | false=>exact adz _ _
end
end Go.Ab
namespace Go.Ab
open Go
set_option maxRecDepth 100000
section
variable (pv:Int->List UInt8->PV×Int) (kd:List UInt8->Int)
theorem a8k (wd:Bool) (k:Int) (ts:List Tk):Sh0 (au3 pv wd k ts) ts:=by
 unfold au3
 cases h:(wd&&isS 1 [100,101,102,97,117,108,116] ts) with
 | true=>exact (ag7 (sh_bind (a7o pv k ts.tail) fun v r=>adz _ _)).le
 | false=>exact adz _ _
theorem alv (card key:Int) (ty:PV) (un:List UInt8) (wd:Bool) (ts:List Tk):Sh (akr pv kd card key ty un wd ts) ts:=by
 unfold akr
 exact sh_bind (aif ts) fun _ r=>aau (eat_sh _ _ r).le fun _ r=>aau (amr _ r).le fun _ r=>aau (a8k pv _ _ r) fun _ r=>aau (ae3 pv kd r) fun _ r=>aau (eat_sh _ _ r).le fun _ r=>adz _ _
theorem aqb (ts:List Tk):Sh (ahz pv kd ts) ts:=by
 unfold ahz
 cases h:isS 1 [109,97,112] ts with
 | true=>
  refine ag7 (sh_bind (eat_sh _ _ _) fun _ r=>?_)
  cases (aax r==1&&!(aes (aco r)==0)) with
  | true=>exact fun v q e=>Nat.le_trans ((sh_bind (eat_sh _ _ r.tail) fun _ r=>aau (aq8 r).le fun _ r=>aau (eat_sh _ _ r).le fun _ r=>(alv pv kd _ _ _ _ _ r).le).le v q e) (aby r)
  | false=>exact (aj7 _ _ _).le
 | false=>
  cases (aax ts==1&&!(alo (aco ts)==0)) with
  | true=>exact ag7 (sh_bind (aq8 ts.tail) fun _ r=>(alv pv kd _ _ _ _ _ r).le)
  | false=>exact aj7 _ _ _
theorem aop (un:List UInt8) (ts:List Tk) (acc:List PV):adm pv kd un ts acc=(typS ts).bind fun ty r=>(akr pv kd 2 0 ty un false r).bind fun x r2=>bif isS 4 [125] r2 then .ok (acc++[x]) r2.tail else adm pv kd un r2 (acc++[x]):=by
 rw [adm]
 cases h:typS ts with
 | er r e=>rfl
 | ok ty r=>
  simp only [Rs.bind]
  cases h2:akr pv kd 2 0 ty un false r with
  | er r e=>rfl
  | ok x r2=>
   have:=aq8 ts ty r h
   have:=alv pv kd 2 0 ty un false r x r2 h2
   simp only [show r2.length<ts.length by omega,dite_true]
theorem ajw {α β:Type} (f:List Tk->β->Rs α) (hf:∀ ts b,(∀ (m:List Tk) b,m.length<ts.length->Sh0 (f m b) m)->Sh0 (f ts b) ts):∀ ts b,Sh0 (f ts b) ts:=by
 have H:∀ (n:Nat) ts b,ts.length<=n->Sh0 (f ts b) ts:=by
  intro n
  induction n with
  | zero=>intro ts b hn;exact hf ts b fun m b hm=>by omega
  | succ n ih=>intro ts b hn;exact hf ts b fun m b hm=>ih m b (by omega)
 exact fun ts b=>H _ ts b (Nat.le_refl _)
theorem ayp (un:List UInt8) (ts:List Tk) (acc:List PV):Sh0 (adm pv kd un ts acc) ts:=by
 refine ajw (fun ts acc=>adm pv kd un ts acc) (fun ts acc ih=>?_) ts acc
 show Sh0 (adm pv kd un ts acc) ts
 rw [aop]
 intro v q e
 cases h:typS ts with
 | er r e2=>rw [h] at e;cases e
 | ok ty r=>
  rw [h] at e
  simp only [Rs.bind] at e
  cases h2:akr pv kd 2 0 ty un false r with
  | er r e2=>rw [h2] at e;cases e
  | ok x r2=>
   rw [h2] at e
   have h3:=aq8 ts ty r h
   have h4:=alv pv kd 2 0 ty un false r x r2 h2
   have h5:=aby r2
   simp only at e
   cases hb:isS 4 [125] r2 with
   | true=>rw [hb] at e;cases e;omega
   | false=>rw [hb] at e;have:=ih r2 (acc++[x]) (by omega) v q e;omega
theorem apf (ts:List Tk):Sh (asc pv kd ts) ts:=sh_bind (eat_sh _ _ ts) fun _ r=>aau (aif r).le fun _ r=>aau (eat_sh _ _ r).le fun _ r=>ayp pv kd _ r []
theorem a00 (most:Int) (ts:List Tk):Sh (auu most ts) ts:=by
 unfold auu
 refine sh_bind (amr _ ts) fun a r=>aau ?_ fun _ _=>adz _ _
 cases isS 4 [45] r with
 | true=>exact (ag7 (amr most r.tail)).le
 | false=>exact adz _ _
theorem awm (most:Int) (ts:List Tk) (acc:List PV):adh most ts acc=(auu most ts).bind fun x r2=>bif isS 4 [59] r2 then .ok (acc++[x]) r2.tail else (eatS 4 [44] r2).bind fun _ r3=>adh most r3 (acc++[x]):=by
 rw [adh]
 cases h:auu most ts with
 | er r e=>rfl
 | ok x r2=>
  simp only [Rs.bind]
  cases h2:eatS 4 [44] r2 with
  | er r e=>rfl
  | ok u r3=>
   have:=a00 most ts x r2 h
   have:=eat_sh 4 [44] r2 u r3 h2
   simp only [show r3.length<ts.length by omega,dite_true]
theorem ak4 (most:Int) (ts:List Tk) (acc:List PV):Sh0 (adh most ts acc) ts:=by
 refine ajw (fun ts acc=>adh most ts acc) (fun ts acc ih=>?_) ts acc
 show Sh0 (adh most ts acc) ts
 rw [awm]
 intro v q e
 cases h:auu most ts with
 | er r e2=>rw [h] at e;cases e
 | ok x r2=>
  rw [h] at e
  have h3:=a00 most ts x r2 h
  have h5:=aby r2
  simp only [Rs.bind] at e
  cases hb:isS 4 [59] r2 with
  | true=>rw [hb] at e;cases e;omega
  | false=>
   rw [hb] at e
   simp only [cond_false] at e
   cases h2:eatS 4 [44] r2 with
   | er r e2=>rw [h2] at e;cases e
   | ok u r3=>
    rw [h2] at e
    have h4:=eat_sh 4 [44] r2 u r3 h2
    have:=ih r3 (acc++[x]) (by omega) v q e
    omega
theorem aqk (ts:List Tk) (acc:List PV):al5 ts acc=(abg ts).bind fun s r2=>bif isS 4 [59] r2 then .ok (acc++[PV.str s]) r2.tail else (eatS 4 [44] r2).bind fun _ r3=>al5 r3 (acc++[PV.str s]):=by
 rw [al5]
 cases h:abg ts with
 | er r e=>rfl
 | ok x r2=>
  simp only [Rs.bind]
  cases h2:eatS 4 [44] r2 with
  | er r e=>rfl
  | ok u r3=>
   have:=acz ts x r2 h
   have:=eat_sh 4 [44] r2 u r3 h2
   simp only [show r3.length<ts.length by omega,dite_true]
theorem a0e (ts:List Tk) (acc:List PV):Sh0 (al5 ts acc) ts:=by
 refine ajw (fun ts acc=>al5 ts acc) (fun ts acc ih=>?_) ts acc
 show Sh0 (al5 ts acc) ts
 rw [aqk]
 intro v q e
 cases h:abg ts with
 | er r e2=>rw [h] at e;cases e
 | ok x r2=>
  rw [h] at e
  have h3:=acz ts x r2 h
  have h5:=aby r2
  simp only [Rs.bind] at e
  cases hb:isS 4 [59] r2 with
  | true=>rw [hb] at e;cases e;omega
  | false=>
   rw [hb] at e
   simp only [cond_false] at e
   cases h2:eatS 4 [44] r2 with
   | er r e2=>rw [h2] at e;cases e
   | ok u r3=>
    rw [h2] at e
    have h4:=eat_sh 4 [44] r2 u r3 h2
    have:=ih r3 (acc++[PV.str x]) (by omega) v q e
    omega
theorem a01 (ts:List Tk):Sh (a6y pv kd ts) ts:=sh_bind (aif ts) fun _ r=>aau (eat_sh _ _ r).le fun _ r=>aau (amr _ r).le fun _ r=>aau (ae3 pv kd r) fun _ r=>aau (eat_sh _ _ r).le fun _ r=>adz _ _
theorem abv {α β:Type}{x:Rs α}{ts:List Tk} (hx:Sh x ts) (f:α->List Tk->Rs β):(x.bind fun v r=>if h:r.length<ts.length then f v r else .er r 0)=x.bind f:=by
 cases x with
 | er r e=>rfl
 | ok v r=>simp only [Rs.bind,hx v r rfl,dite_true]
theorem ax4 {α:Type}{x:Rs α}{ts:List Tk} (h1:ts.tail.length<ts.length) (h:Sh0 x ts.tail):Sh x ts:=fun v r e=>Nat.lt_of_le_of_lt (h v r e) h1
theorem aw5 (ts:List Tk) (its rs:List PV):aeg pv kd ts its rs=
 bif isS 4 [125] ts then .ok (its,rs) ts.tail
 else bif isS 1 [114,101,115,101,114,118,101,100] ts then (adh 2147483647 ts.tail []).bind fun l r=>aeg pv kd r its (rs++l)
 else (a6y pv kd ts).bind fun x r=>aeg pv kd r (its++[x]) rs:=by
 rw [aeg,abv (a01 pv kd ts)]
 cases h:isS 1 [114,101,115,101,114,118,101,100] ts with
 | true=>rw [abv (ax4 (act h) (ak4 2147483647 ts.tail []))]
 | false=>rfl
theorem ad4 {α β:Type}{x:Rs α}{f:α->List Tk->Rs β}{ts:List Tk} (hx:Sh x ts) (hf:∀ v r,r.length<ts.length->Sh0 (f v r) r):Sh0 (x.bind f) ts:=by
 intro v r h
 cases x with
 | ok a q=>have h1:=hx a q rfl;have:=hf a q h1 v r h;omega
 | er=>cases h
theorem a6b (ts:List Tk) (its rs:List PV):Sh0 (aeg pv kd ts its rs) ts:=by
 refine ajw (fun ts (b:List PV×List PV)=>aeg pv kd ts b.1 b.2) (fun ts b ih=>?_) ts (its,rs)
 show Sh0 (aeg pv kd ts b.1 b.2) ts
 rw [aw5]
 cases h0:isS 4 [125] ts with
 | true=>intro v q e;cases e;exact aby ts
 | false=>
  cases h:isS 1 [114,101,115,101,114,118,101,100] ts with
  | true=>exact ad4 (ax4 (act h) (ak4 2147483647 ts.tail [])) fun v r hr=>ih r (b.1,b.2++v) hr
  | false=>exact ad4 (a01 pv kd ts) fun v r hr=>ih r (b.1++[v],b.2) hr
theorem a0o (ts:List Tk) (w:List UInt8):(bif isS 1 w ts then ts.tail else ts).length<=ts.length:=by
 cases isS 1 w ts with
 | true=>exact aby ts
 | false=>exact Nat.le_refl _
theorem aik (outer:List UInt8) (ts:List Tk):Sh (avn pv kd outer ts) ts:=by
 intro v q e
 have:=(sh_bind (eat_sh 1 [101,110,117,109] (bif isS 1 [111,112,101,110] ts then ts.tail else ts)) fun _ r=>aau (ak8 outer r).le fun _ r=>aau (ae3 pv kd r) fun _ r=>aau (eat_sh _ _ r).le fun _ r=>aau (a6b pv kd r [] []) fun _ r=>adz _ _) v q e
 have:=a0o ts [111,112,101,110]
 omega
theorem awa (msg:List UInt8->List PV->List PV->List Tk->Rs (List PV×List PV)) (hm:∀ n a b ts,Sh (msg n a b ts) ts) (name:List UInt8) (ts:List Tk) (b:MB):ac0 pv kd msg name ts b=
 bif isS 4 [125] ts then .ok b ts.tail
 else bif isS 1 [117,110,105,111,110] ts then (asc pv kd ts).bind fun l r=>ac0 pv kd msg name r { b with fs:=b.fs++l }
 else bif isS 1 [109,101,115,115,97,103,101] ts then (msg name b.ms b.es ts).bind fun x r=>ac0 pv kd msg name r { b with ms:=x.1,es:=x.2 }
 else bif isS 1 [101,110,117,109] ts||isS 1 [111,112,101,110] ts then (avn pv kd name ts).bind fun x r=>ac0 pv kd msg name r { b with es:=b.es++[x] }
 else bif isS 1 [114,101,115,101,114,118,101,100] ts then
  (bif aax ts.tail==3 then (al5 ts.tail []).bind fun l r=>ac0 pv kd msg name r { b with gs:=b.gs++l }
   else (adh 65535 ts.tail []).bind fun l r=>ac0 pv kd msg name r { b with rs:=b.rs++l })
 else (ahz pv kd ts).bind fun x r=>ac0 pv kd msg name r { b with fs:=b.fs++[x] }:=by
 rw [ac0,abv (apf pv kd ts),abv (hm name b.ms b.es ts),abv (aik pv kd name ts),abv (aqb pv kd ts)]
 cases h:isS 1 [114,101,115,101,114,118,101,100] ts with
 | true=>rw [abv (ax4 (act h) (a0e ts.tail [])),abv (ax4 (act h) (ak4 65535 ts.tail []))]
 | false=>rfl
theorem a5o (msg:List UInt8->List PV->List PV->List Tk->Rs (List PV×List PV)) (hm:∀ n a b ts,Sh (msg n a b ts) ts) (name:List UInt8) (ts:List Tk) (b:MB):Sh0 (ac0 pv kd msg name ts b) ts:=by
 refine ajw (fun ts b=>ac0 pv kd msg name ts b) (fun ts b ih=>?_) ts b
 show Sh0 (ac0 pv kd msg name ts b) ts
 rw [awa pv kd msg hm]
 cases isS 4 [125] ts with
 | true=>intro v q e;cases e;exact aby ts
 | false=>
  cases isS 1 [117,110,105,111,110] ts with
  | true=>exact ad4 (apf pv kd ts) fun v r hr=>ih r _ hr
  | false=>
   cases isS 1 [109,101,115,115,97,103,101] ts with
   | true=>exact ad4 (hm _ _ _ ts) fun v r hr=>ih r _ hr
   | false=>
    cases (isS 1 [101,110,117,109] ts||isS 1 [111,112,101,110] ts) with
    | true=>exact ad4 (aik pv kd _ ts) fun v r hr=>ih r _ hr
    | false=>
     cases h:isS 1 [114,101,115,101,114,118,101,100] ts with
     | true=>
      cases (aax ts.tail==3) with
      | true=>exact ad4 (ax4 (act h) (a0e ts.tail [])) fun v r hr=>ih r _ hr
      | false=>exact ad4 (ax4 (act h) (ak4 65535 ts.tail [])) fun v r hr=>ih r _ hr
     | false=>exact ad4 (aqb pv kd ts) fun v r hr=>ih r _ hr
theorem avq:∀ (d:Nat) (n:List UInt8) (a b:List PV) (ts:List Tk),Sh (msgS pv kd d n a b ts) ts:=by
 intro d
 induction d with
 | zero=>intro n a b ts;exact aj7 _ _ _
 | succ d ih=>
  intro n a b ts
  exact sh_bind (eat_sh _ _ ts) fun _ r=>aau (ak8 _ r).le fun _ r=>aau (ae3 pv kd r) fun _ r=>aau (eat_sh _ _ r).le fun _ r=>aau (a5o pv kd _ ih _ r _) fun _ r=>adz _ _
theorem azs (ts:List Tk):Sh (axw ts) ts:=by
 unfold axw
 refine sh_bind (eat_sh _ _ ts) fun _ r=>?_
 intro v q e
 have:=(aau (ami 1 rfl afw (bif isS 1 [115,116,114,101,97,109] r then r.tail else r)).le fun _ r=>aau (eat_sh _ _ r).le fun _ r=>adz _ _) v q e
 have:=a0o r [115,116,114,101,97,109]
 omega
theorem a1i (ts:List Tk):Sh (rpcS pv kd ts) ts:=
 sh_bind (eat_sh _ _ ts) fun _ r=>aau (aif r).le fun _ r=>aau (azs r).le fun _ r=>aau (eat_sh _ _ r).le fun _ r=>aau (azs r).le fun _ r=>aau (ae3 pv kd r) fun _ r=>aau (eat_sh _ _ r).le fun _ r=>adz _ _
theorem a1t (ts:List Tk) (acc:List PV):anp pv kd ts acc=bif isS 4 [125] ts then .ok acc ts.tail else (rpcS pv kd ts).bind fun x r=>anp pv kd r (acc++[x]):=by
 rw [anp,abv (a1i pv kd ts)]
theorem a8o (ts:List Tk) (acc:List PV):Sh0 (anp pv kd ts acc) ts:=by
 refine ajw (fun ts b=>anp pv kd ts b) (fun ts b ih=>?_) ts acc
 show Sh0 (anp pv kd ts b) ts
 rw [a1t]
 cases isS 4 [125] ts with
 | true=>intro v q e;cases e;exact aby ts
 | false=>exact ad4 (a1i pv kd ts) fun v r hr=>ih r _ hr
theorem a7v (ts:List Tk):Sh (svcS pv kd ts) ts:=
 sh_bind (eat_sh _ _ ts) fun _ r=>aau (ak8 _ r).le fun _ r=>aau (ae3 pv kd r) fun _ r=>aau (eat_sh _ _ r).le fun _ r=>aau (a8o pv kd r []) fun _ r=>adz _ _
theorem aoy (ts:List Tk) (acc:List PV):ado ts acc=bif isS 1 [105,109,112,111,114,116] ts then (abg ts.tail).bind fun s r=>(eatS 4 [59] r).bind fun _ r2=>ado r2 (acc++[PV.str s]) else .ok acc ts:=by
 rw [ado]
 cases h0:isS 1 [105,109,112,111,114,116] ts with
 | false=>rfl
 | true=>
  simp only [cond_true]
  cases h:abg ts.tail with
  | er r e=>rfl
  | ok x r=>
   simp only [Rs.bind]
   cases h2:eatS 4 [59] r with
   | er r e=>rfl
   | ok u r3=>
    have:=acz ts.tail x r h
    have:=eat_sh 4 [59] r u r3 h2
    have:=act h0
    simp only [show r3.length<ts.length by omega,dite_true]
theorem a1v (ts:List Tk) (b:FB):aix pv kd ts b=
 bif ts.isEmpty then .ok b ts
 else bif isS 1 [109,101,115,115,97,103,101] ts then (msgS pv kd 16 [] b.ms b.es ts).bind fun x r=>aix pv kd r { b with ms:=x.1,es:=x.2 }
 else bif isS 1 [101,110,117,109] ts||isS 1 [111,112,101,110] ts then (avn pv kd [] ts).bind fun x r=>aix pv kd r { b with es:=b.es++[x] }
 else (svcS pv kd ts).bind fun x r=>aix pv kd r { b with ss:=b.ss++[x] }:=by
 rw [aix,abv (avq pv kd 16 _ _ _ ts),abv (aik pv kd _ ts),abv (a7v pv kd ts)]
end
end Go.Ab
namespace Go.Ab
open Go
set_option maxRecDepth 100000
def ts (t:List PV) (i:Nat):List Tk:=(t.drop i).map tkOf
structure TOk (t:List PV):Prop where
 len:t.length<=1048576
 txt:∀ x,x∈t->(x.fld 1).asStr.length<=1048576
theorem aej {t:List PV}{i:Nat} (h:t.length<=i):ts t i=[]:=by unfold ts;rw [List.drop_eq_nil_of_le h];rfl
theorem ac5 {t:List PV}{i:Nat} (h:i<t.length):ts t i=tkOf (t.getD i .bad)::ts t (i+1):=by unfold ts;rw [aat h .bad];rfl
theorem aa0 (t:List PV) (i:Nat):(ts t i).tail=ts t (i+1):=by
 unfold ts
 by_cases h:i<t.length
 ·rw [aat h .bad];rfl
 ·rw [List.drop_eq_nil_of_le (by omega),List.drop_eq_nil_of_le (by omega)];rfl
theorem ab6 (t:List PV) (i:Nat):(ts t i).length=t.length-i:=by unfold ts;simp
theorem ac1 {k:Int}{s:List UInt8}{t:List PV}{i:Nat} (h:isS k s (ts t i)=true):i<t.length:=by
 by_cases hi:i<t.length
 ·exact hi
 ·rw [aej (by omega)] at h;cases h
theorem ac6 {k:Int}{t:List PV}{i:Nat} (hk:(k==0)=false) (h:(aax (ts t i)==k)=true):i<t.length:=by
 by_cases hi:i<t.length
 ·exact hi
 ·rw [aej (by omega)] at h
  simp only [aax,beq_iff_eq] at h
  subst h;simp at hk
abbrev QF:Type:=List UInt8×List UInt8×Unit×Unit×Unit×List PV×List PV×List PV×List PV
inductive Par {α R:Type} (t:List PV) (q:QF) (mk:α->Q0->R) (x:Rs α) (y:Option (R⊕(PV×Q0))):Prop
 | ok (v:α) (j:Nat):j<=t.length->x=.ok v (ts t j)->y=some (.inl (mk v (t,((j:Nat):Int),q)))->Par t q mk x y
 | er (j:Nat) (e:Int):j<=t.length->e≠0->x=.er (ts t j) e->y=some (.inr (PV.agg [PV.int ((j:Nat):Int),PV.int e],(t,((j:Nat):Int),q)))->Par t q mk x y
theorem ad1 (t:List PV) (i:Nat) (q:QF):F117 0 () (t,(i:Int),q)=some (aax (ts t i),(t,(i:Int),q)):=by
 unfold F117
 by_cases h:i<t.length
 ·have e1:decide ((i:Int)≥(t.length:Int))=false:=decide_eq_false (by omega)
  simp only [e1,cond_false,aab,h,decide_true,cond_true,Int.toNat_natCast,ac5 h,aax,tkOf]
 ·have e1:decide ((i:Int)≥(t.length:Int))=true:=decide_eq_true (by omega)
  simp only [e1,cond_true,aej (show t.length<=i by omega),aax]
def isA (s:List UInt8):List Tk->Bool
 | []=>false
 | x::_=>(x.k==4||x.k==1)&&x.s==s
theorem a7y (t:List PV) (ht:TOk t) (i:Nat) (hi:i<=t.length) (s:List UInt8) (q:QF):F203 0 () 0 s (t,(i:Int),q)=some (isA s (ts t i),(t,(i:Int),q)):=by
 have hl:=ht.len
 have w:IntKind.wrap .i64 ((i:Int)+0)=(i:Int):=by rw [abd (by omega) (by omega)];omega
 unfold F203
 simp only [w]
 by_cases h:i<t.length
 ·have e1:decide ((i:Int)<(t.length:Int))=true:=decide_eq_true (by omega)
  simp only [e1,imp,aab,h,decide_true,cond_true,Int.toNat_natCast,F286,Option.bind_some,ac5 h,isA,tkOf]
  cases (((t.getD i .bad).fld 0).asInt==(4:Int))<;>cases (((t.getD i .bad).fld 0).asInt==(1:Int))<;>simp
 ·have e1:decide ((i:Int)<(t.length:Int))=false:=decide_eq_false (by omega)
  simp only [e1,imp,cond_false,Bool.not_false,aag,cond_true,Option.bind_some,aej (show t.length<=i by omega),isA]
theorem baf {s:List UInt8} (hs:adx s=true) (t:List PV) (ht:TOk t) (i:Nat) (hi:i<=t.length) (q:QF):F96 0 () s (t,(i:Int),q)=some (isS 1 s (ts t i),(t,(i:Int),q)):=by
 unfold F96
 rw [ago,hs]
 simp only [Option.bind_some,cond_true,a7y t ht i hi,ad1]
 cases ts t i with
 | nil=>rfl
 | cons x r=>
  simp only [isA,isS,aax]
  cases h4:(x.k==4)<;>cases h1:(x.k==1)<;>cases (x.s==s)<;>simp [h1]
theorem bab {s:List UInt8} (hs:adx s=false) (t:List PV) (ht:TOk t) (i:Nat) (hi:i<=t.length) (q:QF):F96 0 () s (t,(i:Int),q)=some (isS 4 s (ts t i),(t,(i:Int),q)):=by
 unfold F96
 rw [ago,hs]
 simp only [Option.bind_some,cond_false,a7y t ht i hi,ad1]
 cases ts t i with
 | nil=>rfl
 | cons x r=>
  simp only [isA,isS,aax]
  cases h4:(x.k==4)<;>cases h1:(x.k==1)<;>cases (x.s==s)<;>simp [h4]
def kOf (s:List UInt8):Int:=bif adx s then 1 else 4
theorem aoh (s:List UInt8) (k:Int) (hk:kOf s=k) (t:List PV) (ht:TOk t) (i:Nat) (hi:i<=t.length) (q:QF):F96 0 () s (t,(i:Int),q)=some (isS k s (ts t i),(t,(i:Int),q)):=by
 unfold kOf at hk
 cases hp:adx s with
 | true=>rw [hp] at hk;subst hk;exact baf hp t ht i hi q
 | false=>rw [hp] at hk;subst hk;exact bab hp t ht i hi q
theorem ajo (s:List UInt8) (k:Int) (hk:kOf s=k) (t:List PV) (ht:TOk t) (i:Nat) (hi:i<=t.length) (q:QF):
 F91 0 () s (t,(i:Int),q)=some (bif isS k s (ts t i) then (true,(t,((i+1:Nat):Int),q)) else (false,(t,(i:Int),q))):=by
 have hl:=ht.len
 unfold F91
 simp only [aoh s k hk t ht i hi,Option.bind_some,abk (show i<=9223372036854775000 by omega)]
 cases isS k s (ts t i)<;>rfl
theorem adr (s:List UInt8) (k:Int) (hk:kOf s=k) (t:List PV) (ht:TOk t) (i:Nat) (hi:i<=t.length) (q:QF):
 Par t q (fun _ s=>s) (eatS k s (ts t i)) (F94 0 () s (t,(i:Int),q)):=by
 unfold F94 eatS
 simp only [ajo s k hk t ht i hi,Option.bind_some]
 cases h:isS k s (ts t i) with
 | true=>exact .ok () (i+1) (ac1 h) (by rw [cond_true,aa0]) rfl
 | false=>exact .er i 2 hi (by decide) rfl rfl
theorem a0h {t:List PV} (ht:TOk t) {i:Nat} (h:i<t.length):((t.getD i .bad).fld 1).asStr.length<=1048576:=ht.txt _ (acs h _)
theorem auk (s:List UInt8) (xs:List (List UInt8)) (hx:xs.length<=9223372036854770000):aba (S93_3step 0) (s,xs.map PV.str,((xs.map PV.str).length:Int),((0:Nat):Int))=some (bif xs.all (fun x=>!akt x) then .inr s else .inl false):=by
 have h:=ai9 (step:=S93_3step 0) (fun i=>(s,xs.map PV.str,((xs.map PV.str).length:Int),(i:Int))) (xs.map PV.str).length (fun i=>!akt ((xs.map PV.str).getD i .bad).asStr) (.inl false) (.inr s)
  (fun i hi=>by
   have hl:i<=9223372036854775000:=by simp only [List.length_map] at hi;omega
   simp only [S93_3step,S93_3,abn,hi,decide_true,cond_true,aab,Int.toNat_natCast,a3o,Option.bind_some,abk hl]
   cases akt ((xs.map PV.str).getD i .bad).asStr<;>rfl)
  (by simp only [S93_3step,S93_3,abn,Nat.lt_irrefl,decide_false,cond_false]) (xs.map PV.str).length 0 (by omega)
 rw [h]
 have e:allF (fun i=>!akt ((xs.map PV.str).getD i .bad).asStr) 0 (xs.map PV.str).length=xs.all fun x=>!akt x:=by
  have:=a1o (fun x:PV=>!akt x.asStr) .bad (xs.map PV.str)
  rw [this]
  simp [List.all_map,Function.comp_def,PV.asStr]
 rw [e]
theorem arp (s:List UInt8) (hs:s.length<=1048576):F93 0 s=some (defP s):=by
 have hlen:=ao9 46 s
 unfold F93 defP
 rw [ase s hs,Option.bind_some,aan,show (0:Int)=((0:Nat):Int) from rfl,auk s _ (by omega),Option.bind_some]
 cases h:(abq 46 s).all (fun x=>!akt x) with
 | true=>simp only [cond_true,aa2,ajk s hs,Option.bind_some,Bool.and_true]
 | false=>simp only [cond_false,abo,Bool.and_false]
theorem a4u (s:List UInt8):F238 0 s=some (a4x s):=by
 unfold F238 a4x
 rw [ago]
 cases adx s with
 | true=>simp only [Option.bind_some,cond_true,a3o,Bool.true_and]
 | false=>simp only [Option.bind_some,cond_false,Bool.false_and]
theorem a5j (s:List UInt8) (hs:s.length<=1048576):F229 0 s=some (afw s):=alj s hs
theorem apo {T:List UInt8->Option Bool}{p:List UInt8->Bool} (hT:∀ s,s.length<=1048576->T s=some (p s)) {f:Q0->Option ((List UInt8×Q0)⊕(PV×Q0))} (k:Int) (hk:(k==0)=false)
 (hf:∀ s:Q0,f s=(F117 0 () s).bind fun y1=>bif y1.1 != k then some (.inr (PV.agg [PV.int y1.2.2.1,PV.int 2],y1.2)) else bif aaa y1.2.2.1 y1.2.1.length then (T ((y1.2.1.getD y1.2.2.1.toNat .bad).fld 1).asStr).bind fun y8=>
  bif !y8 then some (.inr (PV.agg [PV.int y1.2.2.1,PV.int 8],y1.2)) else some (.inl (((y1.2.1.getD y1.2.2.1.toNat .bad).fld 1).asStr,y1.2.1,IntKind.wrap .i64 (y1.2.2.1+1),y1.2.2.2)) else none)
 (t:List PV) (ht:TOk t) (i:Nat) (hi:i<=t.length) (q:QF):Par t q (fun v s=>(v,s)) (takeS k p (ts t i)) (f (t,(i:Int),q)):=by
 have hl:=ht.len
 rw [hf,ad1,Option.bind_some]
 unfold takeS
 by_cases hb:aax (ts t i)=k
 ·have e1:(aax (ts t i) != k)=false:=by rw [hb];simp
  have e2:(aax (ts t i)==k)=true:=by rw [hb];simp
  have h:i<t.length:=ac6 hk e2
  have hx:aco (ts t i)=((t.getD i .bad).fld 1).asStr:=by rw [ac5 h];rfl
  simp only [e1,e2,cond_false,cond_true,aab,h,decide_true,Int.toNat_natCast,hT _ (a0h ht h),Option.bind_some,hx,abk (show i<=9223372036854775000 by omega)]
  cases hp:p ((t.getD i .bad).fld 1).asStr with
  | true=>exact .ok _ (i+1) h (by rw [cond_true,aa0]) rfl
  | false=>exact .er i 8 hi (by decide) rfl rfl
 ·have e1:(aax (ts t i) != k)=true:=bneI hb
  have e2:(aax (ts t i)==k)=false:=beqI hb
  simp only [e1,e2,cond_true,cond_false]
  exact .er i 2 hi (by decide) rfl rfl
theorem a5h (t:List PV) (ht:TOk t) (i:Nat) (hi:i<=t.length) (q:QF):Par t q (fun v s=>(v,s)) (takeS 1 defP (ts t i)) (F92 0 () 1 () (t,(i:Int),q)):=
 apo (f:=fun s=>F92 0 () 1 () s) arp 1 rfl (fun s=>rfl) t ht i hi q
theorem af1 (t:List PV) (ht:TOk t) (i:Nat) (hi:i<=t.length) (q:QF):Par t q (fun v s=>(v,s)) (abg (ts t i)) (F95 0 () (t,(i:Int),q)):=by
 have h:=apo (f:=fun s=>F92_v1 0 () 3 () s) (T:=F201 0) (p:=fun _=>true) (fun s _=>rfl) 3 rfl (fun s=>rfl) t ht i hi q
 unfold F95
 rcases h with ⟨v,j,hj,hx,hy⟩ | ⟨j,e,hj,he,hx,hy⟩
 ·exact .ok v j hj hx (by simp only [hy,Option.bind_some,abo])
 ·exact .er j e hj he hx (by simp only [hy,Option.bind_some,aa2])
theorem ajc (t:List PV) (ht:TOk t) (i:Nat) (hi:i<=t.length) (q:QF):Par t q (fun v s=>(v,s)) (aq4 (ts t i)) (F132 0 () (t,(i:Int),q)):=by
 have h:=apo (f:=fun s=>F92_v3 0 () 1 () s) (T:=F238 0) (p:=a4x) (fun s _=>a4u s) 1 rfl (fun s=>rfl) t ht i hi q
 unfold F132
 rcases h with ⟨v,j,hj,hx,hy⟩ | ⟨j,e,hj,he,hx,hy⟩
 ·exact .ok v j hj hx (by simp only [hy,Option.bind_some,abo])
 ·exact .er j e hj he hx (by simp only [hy,Option.bind_some,aa2])
theorem agy (t:List PV) (ht:TOk t) (i:Nat) (hi:i<=t.length) (q:QF):Par t q (fun v s=>(v,s)) (afd (ts t i)) (F115 0 () (t,(i:Int),q)):=by
 have h:=apo (f:=fun s=>F92_v4 0 () 1 () s) (T:=F229 0) (p:=afw) (fun s hs=>a5j s hs) 1 rfl (fun s=>rfl) t ht i hi q
 unfold F115
 rcases h with ⟨v,j,hj,hx,hy⟩ | ⟨j,e,hj,he,hx,hy⟩
 ·exact .ok v j hj hx (by simp only [hy,Option.bind_some,abo])
 ·exact .er j e hj he hx (by simp only [hy,Option.bind_some,aa2])
theorem a6l {n most:Int} (h:-9223372036854775808<=n/\n<=9223372036854775807) (hm:0<=most/\most<=2147483647):decide (IntKind.wrap .u64 n>most)=!decide (0<=n/\n<=most):=by
 rw [IntKind.wrap_u64]
 by_cases hc:0<=n/\n<=most
 ·rw [decide_eq_true hc,decide_eq_false (by omega)];rfl
 ·rw [decide_eq_false hc,decide_eq_true (by omega)];rfl
theorem apj (t:List PV) (ht:TOk t) (i:Nat) (hi:i<=t.length) (most:Int) (hm:0<=most/\most<=2147483647) (hn:∀ x,x∈t->-9223372036854775808<=(x.fld 2).asInt/\(x.fld 2).asInt<=9223372036854775807) (q:QF):
 Par t q (fun v s=>(v,s)) (numS most (ts t i)) (F209 0 () most (t,(i:Int),q)):=by
 have hl:=ht.len
 unfold F209 numS
 rw [ad1,Option.bind_some]
 by_cases hb:aax (ts t i)=2
 ·have e1:(aax (ts t i) != 2)=false:=by rw [hb];rfl
  have e2:(aax (ts t i)==2)=true:=by rw [hb];rfl
  have h:i<t.length:=ac6 rfl e2
  have hx:alh (ts t i)=((t.getD i .bad).fld 2).asInt:=by rw [ac5 h];rfl
  have hr:=hn _ (acs h .bad)
  simp only [e1,e2,cond_false,cond_true,aab,h,decide_true,Int.toNat_natCast,hx,abk (show i<=9223372036854775000 by omega),a6l hr hm]
  cases hp:decide (0<=((t.getD i .bad).fld 2).asInt/\((t.getD i .bad).fld 2).asInt<=most) with
  | true=>exact .ok _ (i+1) h (by rw [cond_true,aa0]) rfl
  | false=>exact .er i 6 hi (by decide) rfl rfl
 ·have e1:(aax (ts t i) != 2)=true:=bneI hb
  have e2:(aax (ts t i)==2)=false:=beqI hb
  simp only [e1,e2,cond_true,cond_false]
  exact .er i 2 hi (by decide) rfl rfl
end Go.Ab
namespace Go.Ab
open Go
set_option maxRecDepth 100000
noncomputable def parV (k:Int) (s:List UInt8):PV×Int:=(F239 0 k s).getD (ac9,0)
def ax9 (k:Int) (s:List UInt8):Prop:=((k=1∨k=6∨k=8)/\s.length<=16384)∨(k=7/\∃ x:List UInt8,x.length<=16384/\s=aa4 x)∨((2<=k/\k<=5)/\∃ (neg:Bool) (u:Nat),u<18446744073709551616/\s=(bif neg then [45] else [])++decB u)
def adf:Prop:=∀ (k:Int) (s:List UInt8),ax9 k s->F239 0 k s=some (parV k s)
structure TNm (t:List PV):Prop extends TOk t where
 num:∀ x,x∈t->-9223372036854775808<=(x.fld 2).asInt/\(x.fld 2).asInt<=9223372036854775807
structure TNum (t:List PV):Prop extends TNm t where
 sml:∀ x,x∈t->(x.fld 1).asStr.length<=16384
inductive NP (t:List PV) (x:Rs PV) (y:Option (PV×Int×Int)):Prop
 | ok (v:PV) (j:Nat):j<=t.length->x=.ok v (ts t j)->y=some (v,((j:Nat):Int),0)->NP t x y
 | er (j:Nat) (e:Int) (z:PV):j<=t.length->e≠0->x=.er (ts t j) e->y=some (z,((j:Nat):Int),e)->NP t x y
theorem aou (t:List PV) (i:Nat) (s:List UInt8):F77 0 t (i:Int) s=some (isS 4 s (ts t i)):=by
 rw [bap]
 unfold sgn
 by_cases h:i<t.length
 ·rw [ac5 h];simp [h,isS,tkOf,axd,a8p]
 ·rw [aej (by omega)];simp [h,isS]
theorem apt (t:List PV) (i:Nat):F158 0 t (i:Int)=some (aax (ts t i)):=by
 rw [ayo]
 by_cases h:i<t.length
 ·rw [ac5 h,if_pos h];rfl
 ·rw [aej (by omega),if_neg h];rfl
theorem a8z {n:Int}:∃ u:Nat,u<18446744073709551616/\IntKind.wrap .u64 n=(u:Int)/\(IntKind.wrap .u64 n).toNat=u:=by
 obtain ⟨u,h1,h2⟩:=bau n
 exact ⟨u,h1,h2,by rw [h2];rfl⟩
theorem fmtB {u:Nat} (h:u<18446744073709551616):F135 0 (u:Int) 10=some (decB u):=by rw [baw u h,agb (by omega)]
theorem azx {t:List PV}{i:Nat} (h:i<t.length):alh (ts t i)=((t.getD i .bad).fld 2).asInt:=by rw [ac5 h];rfl
theorem ahi {t:List PV}{i:Nat} (h:i<t.length):aco (ts t i)=((t.getD i .bad).fld 1).asStr:=by rw [ac5 h];rfl
theorem aux {t:List PV}{i:Nat} (h:i<t.length):aax (ts t i)=((t.getD i .bad).fld 0).asInt:=by rw [ac5 h];rfl
theorem a7p {k:Int}{s:List UInt8}{t:List PV}{i:Nat} (h:i<t.length):isS k s (ts t i)=((((t.getD i .bad).fld 0).asInt==k)&&(((t.getD i .bad).fld 1).asStr==s)):=by rw [ac5 h];rfl
theorem a0i (po:adf) (k:Int) (hk:2<=k/\k<=5) (t:List PV) (ht:TNm t) (neg:Bool) (pre:List UInt8) (hp:pre=bif neg then [45] else []) (i:Nat) (hi:i<=t.length):NP t (intS parV k neg (ts t i))
 ((F158 0 t (i:Int)).bind fun y3=>bif (y3 != (2:Int)) then some (ac9,(i:Int),(2:Int)) else
   bif aaa (i:Int) t.length then (F135 0 (IntKind.wrap .u64 ((t.getD (i:Int).toNat .bad).fld 2).asInt) (10:Int)).bind fun y9=>
   bif decide (pre.length+y9.length<=aa9) then (F239 0 k (pre++y9)).bind fun y10=>
   bif (y10.2 != (0:Int)) then some (ac9,(i:Int),y10.2) else some (y10.1,(IntKind.wrap .i64 ((i:Int)+(1:Int))),(0:Int)) else none else none):=by
 have hl:=ht.len
 rw [apt,Option.bind_some]
 unfold intS
 by_cases hb:aax (ts t i)=2
 ·have e1:(aax (ts t i) != 2)=false:=by rw [hb];rfl
  have e2:(aax (ts t i)==2)=true:=by rw [hb];rfl
  have h:i<t.length:=ac6 rfl e2
  obtain ⟨u,hu,h1,h2⟩:=a8z (n:=((t.getD i .bad).fld 2).asInt)
  have hlen:=ak2 u
  have hpl:pre.length<=1:=by subst hp;cases neg<;>simp
  have l1:decide (pre.length+(decB u).length<=aa9)=true:=ahx (by omega)
  have hpo:=po k (pre++decB u) (Or.inr (Or.inr ⟨hk,neg,u,hu,by rw [hp]⟩))
  simp only [e1,e2,cond_false,cond_true,aab,h,decide_true,Int.toNat_natCast,h1,fmtB hu,Option.bind_some,l1,hpo,azx h,<-hp]
  unfold valS
  by_cases hz:(parV k (pre++decB u)).2=0
  ·have z1:((parV k (pre++decB u)).2 != 0)=false:=by rw [hz];rfl
   have z2:((parV k (pre++decB u)).2==0)=true:=by rw [hz];rfl
   simp only [z1,z2,cond_true,cond_false,abk (show i<=9223372036854775000 by omega)]
   exact .ok _ (i+1) h (by rw [aa0]) rfl
  ·have z1:((parV k (pre++decB u)).2 != 0)=true:=bneI hz
   have z2:((parV k (pre++decB u)).2==0)=false:=beqI hz
   simp only [z1,z2,cond_true,cond_false]
   exact .er i _ _ hi hz rfl rfl
 ·have e1:(aax (ts t i) != 2)=true:=bneI hb
  have e2:(aax (ts t i)==2)=false:=beqI hb
  simp only [e1,e2,cond_true,cond_false]
  exact .er i 2 _ hi (by decide) rfl rfl
theorem asm (po:adf) (k:Int) (hk:2<=k/\k<=5) (t:List PV) (ht:TNm t) (i:Nat) (hi:i<=t.length):NP t (bif isS 4 [45] (ts t i) then intS parV k true (ts t i).tail else intS parV k false (ts t i)) (F260 0 k t (i:Int)):=by
 have hl:=ht.len
 have hw:IntKind.wrap .i64 ((i:Int)+1)=((i+1:Nat):Int):=abk (by omega)
 unfold F260
 rw [aou,Option.bind_some]
 cases hs:isS 4 [45] (ts t i) with
 | true=>
  have:=a0i po k hk t ht true [45] rfl (i+1) (ac1 hs)
  simp only [hw,cond_true,aa0]
  exact this
 | false=>
  have:=a0i po k hk t ht false [] rfl i hi
  simp only [cond_false]
  exact this
theorem parB1:F239 0 1 [116,114,117,101]=some (ade 1 1 [],0):=by kernel_rfl
theorem parB0:F239 0 1 [102,97,108,115,101]=some (ade 1 0 [],0):=by kernel_rfl
theorem fits7 (x:List UInt8) (h:x.length<=4096):F146 0 7 (PV.agg [(PV.int 7),(PV.int (0:Int)),(PV.str x),(PV.slice []),(PV.slice []),(PV.slice []),(PV.slice [])])=some (valid x):=by
 have hsm:awr (PV.agg [(PV.int 7),(PV.int (0:Int)),(PV.str x),(PV.slice []),(PV.slice []),(PV.slice []),(PV.slice [])]):=⟨Nat.zero_le _,by show x.length<=1048576;omega,by show (0:Int)<=0;omega,by show (0:Int)<18446744073709551616;omega⟩
 have hle:decide (x.length<=4096)=true:=decide_eq_true h
 rw [a62 _ _ hsm]
 congr 1
 unfold ayn amt ad6 aer vLists
 simp [PV.fld,PV.parts,PV.asInt,PV.asStr,PV.asList,akc,adb,hle]
theorem a4n (po:adf) (k:Int) (hk:k=1∨k=7∨k=3∨k=4) (t:List PV) (ht:TNm t) (i:Nat) (hi:i<=t.length):NP t (af7 parV k (ts t i)) (F159 0 k t (i:Int)):=by
 have hl:=ht.len
 have hw:IntKind.wrap .i64 ((i:Int)+1)=((i+1:Nat):Int):=abk (by omega)
 unfold F159 af7
 simp only [apt]
 rcases hk with rfl | rfl | rfl | rfl
 · -- bool
  simp only [show ((1:Int)==1)=true from rfl,cond_true,Option.bind_some,show ((1:Int)==7)=false from rfl,show ((1:Int)==4)=false from rfl,show ((1:Int)==3)=false from rfl,cond_false]
  by_cases hlt:i<t.length
  ·simp only [aab,hlt,decide_true,imp,cond_true,aag,Int.toNat_natCast,aux hlt,a7p hlt]
   cases hn:(((t.getD i .bad).fld 0).asInt==1) with
   | true=>
    cases h1:(((t.getD i .bad).fld 1).asStr==[116,114,117,101]) with
    | true=>
     have e:=eq_of_beq h1
     simp only [cond_true,Bool.and_self,e,parB1,Option.bind_some,hw,Bool.not_true,cond_false,aag]
     exact .ok _ (i+1) hlt (by rw [aa0]) rfl
    | false=>
     cases h2:(((t.getD i .bad).fld 1).asStr==[102,97,108,115,101]) with
     | true=>
      have e:=eq_of_beq h2
      simp only [cond_true,cond_false,Bool.and_false,Bool.and_self,e,parB0,Option.bind_some,hw,Bool.not_false,aag]
      exact .ok _ (i+1) hlt (by rw [aa0]) rfl
     | false=>
      simp only [cond_true,cond_false,Bool.and_false,Bool.not_false,aag]
      exact .er i 2 _ hi (by decide) rfl rfl
   | false=>
    simp only [cond_false,Bool.false_and,aag,Bool.not_false,cond_true]
    exact .er i 2 _ hi (by decide) rfl rfl
  ·have:ts t i=[]:=aej (by omega)
   simp only [this,aax,isS,show ((0:Int)==1)=false from rfl,cond_false,imp,Bool.not_false,cond_true,aag]
   exact .er i 2 _ hi (by decide) (by rw [this]) rfl
 · -- text
  simp only [show ((7:Int)==1)=false from rfl,show ((7:Int)==7)=true from rfl,cond_false,cond_true,Option.bind_some,imp,Bool.not_false,aag]
  cases hn:(aax (ts t i)==3) with
  | false=>
   simp only [cond_false,show ((7:Int)==4)=false from rfl,show ((7:Int)==3)=false from rfl]
   exact .er i 2 _ hi (by decide) rfl rfl
  | true=>
   have hlt:=ac6 (show ((3:Int)==0)=false from rfl) hn
   simp only [aab,hlt,decide_true,cond_true,Int.toNat_natCast,ahi hlt]
   obtain ⟨x,hx⟩:∃ x,((t.getD i .bad).fld 1).asStr=x:=⟨_,rfl⟩
   simp only [hx]
   by_cases hle:x.length>4096
   ·have b3:decide ((x.length:Int)>4096)=true:=decide_eq_true (by omega)
    have b4:decide (x.length>4096)=true:=decide_eq_true hle
    simp only [b3,b4,cond_true]
    exact .er i 3 _ hi (by decide) rfl rfl
   ·have b3:decide ((x.length:Int)>4096)=false:=decide_eq_false (by omega)
    have b4:decide (x.length>4096)=false:=decide_eq_false hle
    simp only [b3,b4,cond_false,fits7 x (by omega),Option.bind_some,hw]
    cases valid x with
    | true=>exact .ok _ (i+1) hlt (by rw [cond_true,aa0];rfl) rfl
    | false=>exact .er i 7 _ hi (by decide) rfl rfl
 ·have hn:=asm po 3 (by decide) t ht i hi
  simp only [show ((3:Int)==1)=false from rfl,show ((3:Int)==7)=false from rfl,show ((3:Int)==4)=false from rfl,show ((3:Int)==3)=true from rfl,cond_false,cond_true,Option.bind_some,imp,Bool.not_false,aag]
  rcases hn with ⟨v,j,hj,hx,hy⟩ | ⟨j,e,z,hj,he,hx,hy⟩
  ·exact .ok v j hj hx (by simp only [hy,Option.bind_some])
  ·exact .er j e z hj he hx (by simp only [hy,Option.bind_some])
 ·have hn:=asm po 4 (by decide) t ht i hi
  simp only [show ((4:Int)==1)=false from rfl,show ((4:Int)==7)=false from rfl,show ((4:Int)==4)=true from rfl,cond_false,cond_true,Option.bind_some,imp,Bool.not_false,aag]
  rcases hn with ⟨v,j,hj,hx,hy⟩ | ⟨j,e,z,hj,he,hx,hy⟩
  ·exact .ok v j hj hx (by simp only [hy,Option.bind_some])
  ·exact .er j e z hj he hx (by simp only [hy,Option.bind_some])
theorem a8w (po:adf) (t:List PV) (ht:TNm t) (i:Nat) (hi:i<=t.length):NP t (ann parV aai (ts t i)) (F78 0 t (i:Int)):=by
 have hl:=ht.len
 have hw:IntKind.wrap .i64 ((i:Int)+1)=((i+1:Nat):Int):=abk (by omega)
 have hw2:IntKind.wrap .i64 ((i:Int)+2)=((i+2:Nat):Int):=by rw [abd (by omega) (by omega)];omega
 unfold F78 ann
 rw [apt,Option.bind_some]
 by_cases hb:aax (ts t i)=1
 ·have e1:(aax (ts t i) != 1)=false:=by rw [hb];rfl
  have e2:(aax (ts t i)==1)=true:=by rw [hb];rfl
  have hlt:i<t.length:=ac6 rfl e2
  simp only [e1,e2,cond_false,cond_true,aab,hlt,decide_true,Int.toNat_natCast,a9l,Option.bind_some,ahi hlt,hw,hw2,aou]
  generalize hx:((t.getD i .bad).fld 1).asStr=x
  cases hk:(aai x==0) with
  | true=>
   simp only [cond_true]
   exact .er i 8 _ hi (by decide) rfl rfl
  | false=>
   have hne:aai x≠0:=by simpa using hk
   simp only [cond_false,aa0,eatS]
   cases hs:isS 4 [61] (ts t (i+1)) with
   | false=>
    have hm:(if (t.length:Int)<((i+1:Nat):Int) then (t.length:Int) else ((i+1:Nat):Int))=((i+1:Nat):Int):=if_neg (by omega)
    simp only [cond_false,Rs.bind,Bool.not_false,cond_true,hm]
    exact .er (i+1) 2 _ hlt (by decide) rfl rfl
   | true=>
    have hlt2:=ac1 hs
    simp only [cond_true,Rs.bind,Bool.not_true,cond_false,aa0]
    rcases a4n po (aai x) (ar7 hne) t ht (i+1+1) hlt2 with ⟨v,j,hj,hx,hy⟩ | ⟨j,e,z,hj,he,hx,hy⟩
    ·rw [show ((i+2:Nat):Int)=((i+1+1:Nat):Int) from rfl,hx,hy]
     exact .ok _ j hj rfl rfl
    ·rw [show ((i+2:Nat):Int)=((i+1+1:Nat):Int) from rfl,hx,hy]
     exact .er j e _ hj he rfl rfl
 ·have e1:(aax (ts t i) != 1)=true:=bneI hb
  have e2:(aax (ts t i)==1)=false:=beqI hb
  simp only [e1,e2,cond_true,cond_false]
  exact .er i 2 _ hi (by decide) rfl rfl
inductive NL (t:List PV) (x:Rs (List PV)) (y:Option (List PV×Int×Int)):Prop
 | ok (v:List PV) (j:Nat):j<=t.length->x=.ok v (ts t j)->y=some (v,((j:Nat):Int),0)->NL t x y
 | er (j:Nat) (e:Int):j<=t.length->e≠0->x=.er (ts t j) e->y=some ([],((j:Nat):Int),e)->NL t x y
theorem a4m (po:adf) (t:List PV) (ht:TNm t):∀ (m i:Nat) (acc:List PV),t.length-i<=m->i<t.length->acc.length<=i->NL t (acl parV aai (ts t (i+1)) acc) (aba (S36_5step 0) (t,(i:Int),acc)):=by
 have hl:=ht.len
 intro m
 induction m with
 | zero=>intro i acc hm hi ha;omega
 | succ m ih=>
  intro i acc hm hi ha
  have hw:IntKind.wrap .i64 ((i:Int)+1)=((i+1:Nat):Int):=abk (by omega)
  have acm:∀ x:PV,decide (acc.length+[x].length<=aal)=true:=fun x=>decide_eq_true (by unfold aal;simp;omega)
  rw [acg]
  have hn:=a8w po t ht (i+1) hi
  have hsh:=anb parV aai (ts t (i+1))
  rcases hn with ⟨v,j,hj,hx,hy⟩ | ⟨j,e,z,hj,he,hx,hy⟩
  ·have hij:i+1<j:=by
    have:=hsh v _ hx
    rw [ab6,ab6] at this
    omega
   have hwj:IntKind.wrap .i64 ((j:Int)+1)=((j+1:Nat):Int):=abk (by omega)
   simp only [hx,Rs.bind]
   cases h1:isS 4 [93] (ts t j) with
   | true=>
    refine .ok (acc++[v]) (j+1) (ac1 h1) (by rw [cond_true,aa0]) (aac ?_)
    simp only [S36_5step,S36_5,hw,hy,Option.bind_some,show ((0:Int) != 0)=false from rfl,cond_false,acm,cond_true,aou,h1,hwj]
   | false=>
    cases h2:isS 4 [44] (ts t j) with
    | true=>
     have hjl:=ac1 h2
     have st:S36_5step 0 (t,(i:Int),acc)=some (.inl (t,((j:Nat):Int),acc++[v])):=by
      simp only [S36_5step,S36_5,hw,hy,Option.bind_some,show ((0:Int) != 0)=false from rfl,cond_false,acm,cond_true,aou,h1,h2,Bool.not_true]
     rw [aaw st,cond_false,cond_true,aa0]
     exact ih j (acc++[v]) (by omega) hjl (by simp;omega)
    | false=>
     refine .er j 2 hj (by decide) rfl (aac ?_)
     simp only [S36_5step,S36_5,hw,hy,Option.bind_some,show ((0:Int) != 0)=false from rfl,cond_false,acm,cond_true,aou,h1,h2,Bool.not_false]
  ·simp only [hx,Rs.bind]
   refine .er j e hj he rfl (aac ?_)
   simp only [S36_5step,S36_5,hw,hy,Option.bind_some,bneI he,cond_true]
theorem a4r (po:adf) (t:List PV) (ht:TNm t) (i:Nat) (hi:i<=t.length):NL t (adj parV aai (ts t i)) (F36 0 t (i:Int)):=by
 unfold F36 adj
 rw [aou,Option.bind_some]
 cases h:isS 4 [91] (ts t i) with
 | false=>exact .ok [] i hi rfl rfl
 | true=>
  simp only [Bool.not_true,cond_false,cond_true,aan,aa0]
  rcases a4m po t ht _ i [] (Nat.le_refl _) (ac1 h) (by simp) with ⟨v,j,hj,hx,hy⟩ | ⟨j,e,hj,he,hx,hy⟩
  ·exact .ok v j hj hx (by rw [hy];rfl)
  ·exact .er j e hj he hx (by rw [hy];rfl)
theorem afs (po:adf) (t:List PV) (ht:TNm t) (i:Nat) (hi:i<=t.length) (q:QF):Par t q (fun v s=>(v,s)) (adj parV aai (ts t i)) (F205 0 () (t,(i:Int),q)):=by
 unfold F205
 rcases a4r po t ht i hi with ⟨v,j,hj,hx,hy⟩ | ⟨j,e,hj,he,hx,hy⟩
 ·exact .ok v j hj hx (by simp only [hy,Option.bind_some];rfl)
 ·exact .er j e hj he hx (by simp only [hy,Option.bind_some,bneI he,cond_true])
end Go.Ab
namespace Go.Ab
open Go Go.Proofs
set_option maxRecDepth 100000
theorem a0b (w:List UInt8) (h:w≠[98,111,111,108]/\w≠[105,51,50]/\w≠[105,54,52]/\w≠[117,51,50]/\w≠[117,54,52]/\w≠[100,111,117,98,108,101]/\w≠[116,101,120,116]/\w≠[98,121,116,101,115]):∃ n,F19 0 w=some n/\n=0:=by
 obtain ⟨h1,h2,h3,h4,h5,h6,h7,h8⟩:=h
 have g1:(([98,111,111,108]:List UInt8)==w)=false:=by rw [beq_eq_false_iff_ne];exact fun h=>h1 h.symm
 have g2:(([105,51,50]:List UInt8)==w)=false:=by rw [beq_eq_false_iff_ne];exact fun h=>h2 h.symm
 have g3:(([105,54,52]:List UInt8)==w)=false:=by rw [beq_eq_false_iff_ne];exact fun h=>h3 h.symm
 have g4:(([117,51,50]:List UInt8)==w)=false:=by rw [beq_eq_false_iff_ne];exact fun h=>h4 h.symm
 have g5:(([117,54,52]:List UInt8)==w)=false:=by rw [beq_eq_false_iff_ne];exact fun h=>h5 h.symm
 have g6:(([100,111,117,98,108,101]:List UInt8)==w)=false:=by rw [beq_eq_false_iff_ne];exact fun h=>h6 h.symm
 have g7:(([116,101,120,116]:List UInt8)==w)=false:=by rw [beq_eq_false_iff_ne];exact fun h=>h7 h.symm
 have g8:(([98,121,116,101,115]:List UInt8)==w)=false:=by rw [beq_eq_false_iff_ne];exact fun h=>h8 h.symm
 refine ⟨0,?_,rfl⟩
 unfold F19
 simp only [aan]
 have e:aba (S19_3step 0) (w,(1:Int))=some (.inr ()):=by
  refine aa3 9 ?_
  simp [adc,S19_3step,S19_3,F21,g1,g2,g3,g4,g5,g6,g7,g8,(by decide:IntKind.wrap .i64 2=2),(by decide:IntKind.wrap .i64 3=3),(by decide:IntKind.wrap .i64 4=4),(by decide:IntKind.wrap .i64 5=5),(by decide:IntKind.wrap .i64 6=6),(by decide:IntKind.wrap .i64 7=7),(by decide:IntKind.wrap .i64 8=8),(by decide:IntKind.wrap .i64 9=9)]
 rw [e];rfl
theorem axs (w:List UInt8):∃ n,F18 0 w=some n/\F19 0 w=some n:=by
 by_cases h1:w=[98,111,111,108]
 ·subst h1
  refine ⟨1,?_,?_⟩
  ·unfold F18 F49;simp only [Option.bind_some,aan];rw [aa3 9 (y:=.inl 1) (by kernel_rfl)];rfl
  ·unfold F19;simp only [aan];rw [aa3 9 (y:=.inl 1) (by kernel_rfl)];rfl
 by_cases h2:w=[105,51,50]
 ·subst h2
  refine ⟨2,?_,?_⟩
  ·unfold F18 F49;simp only [Option.bind_some,aan];rw [aa3 9 (y:=.inl 2) (by kernel_rfl)];rfl
  ·unfold F19;simp only [aan];rw [aa3 9 (y:=.inl 2) (by kernel_rfl)];rfl
 by_cases h3:w=[105,54,52]
 ·subst h3
  refine ⟨3,?_,?_⟩
  ·unfold F18 F49;simp only [Option.bind_some,aan];rw [aa3 9 (y:=.inl 3) (by kernel_rfl)];rfl
  ·unfold F19;simp only [aan];rw [aa3 9 (y:=.inl 3) (by kernel_rfl)];rfl
 by_cases h4:w=[117,51,50]
 ·subst h4
  refine ⟨4,?_,?_⟩
  ·unfold F18 F49;simp only [Option.bind_some,aan];rw [aa3 9 (y:=.inl 4) (by kernel_rfl)];rfl
  ·unfold F19;simp only [aan];rw [aa3 9 (y:=.inl 4) (by kernel_rfl)];rfl
 by_cases h5:w=[117,54,52]
 ·subst h5
  refine ⟨5,?_,?_⟩
  ·unfold F18 F49;simp only [Option.bind_some,aan];rw [aa3 9 (y:=.inl 5) (by kernel_rfl)];rfl
  ·unfold F19;simp only [aan];rw [aa3 9 (y:=.inl 5) (by kernel_rfl)];rfl
 by_cases h6:w=[100,111,117,98,108,101]
 ·subst h6
  refine ⟨6,?_,?_⟩
  ·unfold F18 F49;simp only [Option.bind_some,aan];rw [aa3 9 (y:=.inl 6) (by kernel_rfl)];rfl
  ·unfold F19;simp only [aan];rw [aa3 9 (y:=.inl 6) (by kernel_rfl)];rfl
 by_cases h7:w=[116,101,120,116]
 ·subst h7
  refine ⟨7,?_,?_⟩
  ·unfold F18 F49;simp only [Option.bind_some,aan];rw [aa3 9 (y:=.inl 7) (by kernel_rfl)];rfl
  ·unfold F19;simp only [aan];rw [aa3 9 (y:=.inl 7) (by kernel_rfl)];rfl
 by_cases h8:w=[98,121,116,101,115]
 ·subst h8
  refine ⟨8,?_,?_⟩
  ·unfold F18 F49;simp only [Option.bind_some,aan];rw [aa3 9 (y:=.inl 8) (by kernel_rfl)];rfl
  ·unfold F19;simp only [aan];rw [aa3 9 (y:=.inl 8) (by kernel_rfl)];rfl
 have g1:(([98,111,111,108]:List UInt8)==w)=false:=by rw [beq_eq_false_iff_ne];exact fun h=>h1 h.symm
 have g2:(([105,51,50]:List UInt8)==w)=false:=by rw [beq_eq_false_iff_ne];exact fun h=>h2 h.symm
 have g3:(([105,54,52]:List UInt8)==w)=false:=by rw [beq_eq_false_iff_ne];exact fun h=>h3 h.symm
 have g4:(([117,51,50]:List UInt8)==w)=false:=by rw [beq_eq_false_iff_ne];exact fun h=>h4 h.symm
 have g5:(([117,54,52]:List UInt8)==w)=false:=by rw [beq_eq_false_iff_ne];exact fun h=>h5 h.symm
 have g6:(([100,111,117,98,108,101]:List UInt8)==w)=false:=by rw [beq_eq_false_iff_ne];exact fun h=>h6 h.symm
 have g7:(([116,101,120,116]:List UInt8)==w)=false:=by rw [beq_eq_false_iff_ne];exact fun h=>h7 h.symm
 have g8:(([98,121,116,101,115]:List UInt8)==w)=false:=by rw [beq_eq_false_iff_ne];exact fun h=>h8 h.symm
 refine ⟨0,?_,?_⟩
 ·unfold F18 F49
  simp only [Option.bind_some,aan]
  have e:aba (S18_3step 0) (w,PV.agg [(PV.str ([98,111,111,108]:List UInt8)),(PV.str ([105,51,50]:List UInt8)),(PV.str ([105,54,52]:List UInt8)),(PV.str ([117,51,50]:List UInt8)),(PV.str ([117,54,52]:List UInt8)),(PV.str ([100,111,117,98,108,101]:List UInt8)),(PV.str ([116,101,120,116]:List UInt8)),(PV.str ([98,121,116,101,115]:List UInt8))],(0:Int))=some (.inr ()):=by
   refine aa3 9 ?_
   simp [adc,S18_3step,S18_3,aaa,PV.fld,PV.parts,PV.asStr,g1,g2,g3,g4,g5,g6,g7,g8,(by decide:IntKind.wrap .i64 1=1),(by decide:IntKind.wrap .i64 2=2),(by decide:IntKind.wrap .i64 3=3),(by decide:IntKind.wrap .i64 4=4),(by decide:IntKind.wrap .i64 5=5),(by decide:IntKind.wrap .i64 6=6),(by decide:IntKind.wrap .i64 7=7),(by decide:IntKind.wrap .i64 8=8)]
  rw [e];rfl
 ·unfold F19
  simp only [aan]
  have e:aba (S19_3step 0) (w,(1:Int))=some (.inr ()):=by
   refine aa3 9 ?_
   simp [adc,S19_3step,S19_3,F21,g1,g2,g3,g4,g5,g6,g7,g8,(by decide:IntKind.wrap .i64 2=2),(by decide:IntKind.wrap .i64 3=3),(by decide:IntKind.wrap .i64 4=4),(by decide:IntKind.wrap .i64 5=5),(by decide:IntKind.wrap .i64 6=6),(by decide:IntKind.wrap .i64 7=7),(by decide:IntKind.wrap .i64 8=8),(by decide:IntKind.wrap .i64 9=9)]
  rw [e];rfl
end Go.Ab
namespace Go.Ab
open Go
set_option maxRecDepth 100000
theorem a71 {t:List PV}{j k:Nat} (hj:j<=t.length) (hk:k<=t.length) (h:ts t j=ts t k):j=k:=by
 have:=congrArg List.length h
 rw [ab6,ab6] at this
 omega
theorem aw3 (w:List UInt8):F18 0 w=some (aes w)/\F19 0 w=some (aes w):=by
 obtain ⟨n,h1,h2⟩:=axs w
 suffices h:n=aes w by rw [<-h];exact ⟨h1,h2⟩
 have hs:∀ (x:List UInt8) (k:Int),F19 0 x=some k->w=x->n=k:=fun x k hk e=>by
  subst e;rw [h2] at hk;cases hk;rfl
 unfold aes
 by_cases e1:w=[98,111,111,108]
 ·rw [hs _ 1 (by unfold F19;simp only [aan];rw [aa3 9 (y:=.inl 1) (by kernel_rfl)];rfl) e1,e1];rfl
 by_cases e2:w=[105,51,50]
 ·rw [hs _ 2 (by unfold F19;simp only [aan];rw [aa3 9 (y:=.inl 2) (by kernel_rfl)];rfl) e2,e2];rfl
 by_cases e3:w=[105,54,52]
 ·rw [hs _ 3 (by unfold F19;simp only [aan];rw [aa3 9 (y:=.inl 3) (by kernel_rfl)];rfl) e3,e3];rfl
 by_cases e4:w=[117,51,50]
 ·rw [hs _ 4 (by unfold F19;simp only [aan];rw [aa3 9 (y:=.inl 4) (by kernel_rfl)];rfl) e4,e4];rfl
 by_cases e5:w=[117,54,52]
 ·rw [hs _ 5 (by unfold F19;simp only [aan];rw [aa3 9 (y:=.inl 5) (by kernel_rfl)];rfl) e5,e5];rfl
 by_cases e6:w=[100,111,117,98,108,101]
 ·rw [hs _ 6 (by unfold F19;simp only [aan];rw [aa3 9 (y:=.inl 6) (by kernel_rfl)];rfl) e6,e6];rfl
 by_cases e7:w=[116,101,120,116]
 ·rw [hs _ 7 (by unfold F19;simp only [aan];rw [aa3 9 (y:=.inl 7) (by kernel_rfl)];rfl) e7,e7];rfl
 by_cases e8:w=[98,121,116,101,115]
 ·rw [hs _ 8 (by unfold F19;simp only [aan];rw [aa3 9 (y:=.inl 8) (by kernel_rfl)];rfl) e8,e8];rfl
 have g:∀ x:List UInt8,w≠x->(w==x)=false:=fun x h=>beq_eq_false_iff_ne.2 h
 rw [g _ e1,g _ e2,g _ e3,g _ e4,g _ e5,g _ e6,g _ e7,g _ e8]
 obtain ⟨m,q1,q2⟩:=a0b w ⟨e1,e2,e3,e4,e5,e6,e7,e8⟩
 rw [h2] at q1;cases q1
 exact q2
theorem avi (t:List PV) (ht:TOk t) (i:Nat) (hi:i<=t.length) (q:QF):Par t q (fun v s=>(v,s)) (typS (ts t i)) (F52 0 () (t,(i:Int),q)):=by
 unfold F52 typS
 rcases agy t ht i hi q with ⟨v,j,hj,hx,hy⟩ | ⟨j,e,hj,he,hx,hy⟩
 ·rw [hx,Rs.bind_ok]
  simp only [hy,Option.bind_some,abo,(aw3 v).1]
  refine .ok (tyOf v) j hj rfl ?_
  unfold tyOf
  cases h:(aes v==0) with
  | true=>have:(aes v != 0)=false:=by simp [bne,h]
          simp only [this,cond_true,cond_false]
  | false=>have:(aes v != 0)=true:=by simp [bne,h]
           simp only [this,cond_true,cond_false]
 ·rw [hx,Rs.bind_er]
  exact .er j e hj he rfl (by simp only [hy,Option.bind_some,aa2])
theorem a3n (w:List UInt8):0<=aes w/\aes w<=8:=by
 unfold aes
 cases (w==[98,111,111,108])<;>cases (w==[105,51,50])<;>cases (w==[105,54,52])<;>cases (w==[117,51,50])<;>cases (w==[117,54,52])<;>cases (w==[100,111,117,98,108,101])<;>cases (w==[116,101,120,116])<;>cases (w==[98,121,116,101,115])<;>decide
theorem aqu (s:List UInt8):0<=((tyOf s).fld 0).asInt/\((tyOf s).fld 0).asInt<=8:=by
 unfold tyOf
 cases (aes s==0) with
 | true=>exact ⟨Int.le_refl 0,(by decide:(0:Int)<=8)⟩
 | false=>exact a3n s
theorem awc {r z:List Tk}{ty:PV} (h:typS r=.ok ty z):0<=(ty.fld 0).asInt/\(ty.fld 0).asInt<=8:=by
 unfold typS at h
 cases hx:afd r with
 | ok s q=>rw [hx] at h;simp only [Rs.bind_ok,Rs.ok.injEq] at h;rw [<-h.1];exact aqu s
 | er q e=>rw [hx] at h;cases h
theorem ajm (po:adf) (k:Int) (s:List UInt8) (hs:ax9 k s) (t:List PV) (ht:TOk t) (j:Nat) (hj:j+1<=t.length) (q:QF):
 Par t q (fun v s=>(v,s)) (valS (parV k s) (ts t j) (ts t (j+1))) (F133 0 () k s (t,((j+1:Nat):Int),q)):=by
 have hl:=ht.len
 have w:IntKind.wrap .i64 (((j+1:Nat):Int)-1)=(j:Int):=by rw [abd (by omega) (by omega)];omega
 unfold F133 valS
 rw [po k s hs,Option.bind_some]
 by_cases hz:(parV k s).2=0
 ·have z1:((parV k s).2 != 0)=false:=by rw [hz];rfl
  have z2:((parV k s).2==0)=true:=by rw [hz];rfl
  simp only [z1,z2,cond_true,cond_false]
  exact .ok _ (j+1) hj rfl rfl
 ·simp only [bneI hz,beqI hz,cond_true,cond_false,w]
  exact .er j _ (by omega) hz rfl rfl
theorem axl {t:List PV}{i j:Nat}{v:List UInt8} (hj:j<=t.length) (h:abg (ts t i)=.ok v (ts t j)):i<t.length/\v=((t.getD i .bad).fld 1).asStr/\j=i+1:=by
 unfold abg takeS at h
 cases hb:(aax (ts t i)==3) with
 | false=>rw [hb] at h;cases h
 | true=>
  have hlt:=ac6 (show ((3:Int)==0)=false from rfl) hb
  rw [hb,ahi hlt,aa0] at h
  simp only [cond_true,Rs.ok.injEq] at h
  exact ⟨hlt,h.1.symm,a71 hj hlt h.2.symm⟩
theorem al9 (po:adf) (k:Int) (f:List UInt8->List UInt8) (hf:∀ s:List UInt8,s.length<=16384->ax9 k (f s)) (g:List UInt8×Q0->Option (List UInt8)) (hg:∀ (s:List UInt8) z,s.length<=16384->g (s,z)=some (f s)) (t:List PV) (ht:TNum t) (i:Nat) (hi:i<=t.length) (q:QF):
 Par t q (fun v s=>(v,s)) ((abg (ts t i)).bind fun s r=>valS (parV k (f s)) (ts t i) r) ((F95 0 () (t,(i:Int),q)).bind fun z=>sumE (fun y31=>(g y31).bind fun y43=>(F133 0 () k y43 y31.2).bind fun z=>sumE (fun y33=>some (.inl y33)) (fun y34=>some (.inr y34)) z) (fun y32=>some (.inr y32)) z):=by
 rcases af1 t ht.toTOk i hi q with ⟨v,j,hj,hx,hy⟩ | ⟨j,e,hj,he,hx,hy⟩
 ·obtain ⟨hlt,rfl,rfl⟩:=axl hj hx
  have hs:=ht.sml _ (acs hlt .bad)
  simp only [hx,hy,Rs.bind_ok,Option.bind_some,abo,hg _ _ hs]
  rcases ajm po k _ (hf _ hs) t ht.toTOk i hlt q with ⟨v,j,hj,hx,hy⟩ | ⟨j,e,hj,he,hx,hy⟩
  ·exact .ok v j hj hx (by simp only [hy,Option.bind_some,abo])
  ·exact .er j e hj he hx (by simp only [hy,Option.bind_some,aa2])
 ·simp only [hx,hy,Rs.bind_er,Option.bind_some,aa2]
  exact .er j e hj he rfl rfl
theorem aok (po:adf) (k:Int) (hk:2<=k/\k<=5) (t:List PV) (ht:TNum t) (neg:Bool) (pre:List UInt8) (hp:pre=bif neg then [45] else []) (i:Nat) (hi:i<=t.length) (q:QF):Par t q (fun v s=>(v,s)) (intS parV k neg (ts t i))
 ((F117 0 () (t,(i:Int),q)).bind fun y60=>bif (y60.1 != (2:Int)) then some (.inr ((PV.agg [(PV.int y60.2.2.1),(PV.int (2:Int))]),y60.2)) else
   bif aaa (IntKind.wrap .i64 (IntKind.wrap .i64 (y60.2.2.1+(1:Int))-1)) y60.2.1.length then
   (F135 0 (IntKind.wrap .u64 ((y60.2.1.getD (IntKind.wrap .i64 (IntKind.wrap .i64 (y60.2.2.1+(1:Int))-1)).toNat .bad).fld 2).asInt) (10:Int)).bind fun y70=>
   bif decide (pre.length+y70.length<=aa9) then
   (F133 0 () k (pre++y70) (y60.2.1,IntKind.wrap .i64 (y60.2.2.1+(1:Int)),y60.2.2.2)).bind fun z=>sumE (fun y71=>some (.inl y71)) (fun y72=>some (.inr y72)) z
   else none else none):=by
 have hl:=ht.len
 rw [ad1,Option.bind_some]
 unfold intS
 by_cases hb:aax (ts t i)=2
 ·have e1:(aax (ts t i) != 2)=false:=by rw [hb];rfl
  have e2:(aax (ts t i)==2)=true:=by rw [hb];rfl
  have h:i<t.length:=ac6 rfl e2
  obtain ⟨u,hu,h1,h2⟩:=a8z (n:=((t.getD i .bad).fld 2).asInt)
  have hlen:=ak2 u
  have hpl:pre.length<=1:=by subst hp;cases neg<;>simp
  have l1:decide (pre.length+(decB u).length<=aa9)=true:=ahx (by omega)
  have w1:IntKind.wrap .i64 ((i:Int)+1)=((i+1:Nat):Int):=abk (by omega)
  have w2:IntKind.wrap .i64 (((i+1:Nat):Int)-1)=(i:Int):=by rw [abd (by omega) (by omega)];omega
  simp only [e1,e2,cond_false,cond_true,w1,w2,aab,h,decide_true,Int.toNat_natCast,h1,fmtB hu,Option.bind_some,l1,azx h,<-hp,aa0]
  rcases ajm po k (pre++decB u) (Or.inr (Or.inr ⟨hk,neg,u,hu,by rw [hp]⟩)) t ht.toTOk i h q with ⟨v,j,hj,hx,hy⟩ | ⟨j,e,hj,he,hx,hy⟩
  ·exact .ok v j hj hx (by simp only [hy,Option.bind_some,abo])
  ·exact .er j e hj he hx (by simp only [hy,Option.bind_some,aa2])
 ·simp only [bneI hb,beqI hb,cond_true,cond_false]
  exact .er i 2 hi (by decide) rfl rfl
theorem a8a (po:adf) (k:Int) (hk:0<=k/\k<=8) (t:List PV) (ht:TNum t) (i:Nat) (hi:i<=t.length) (q:QF):Par t q (fun v s=>(v,s)) (litS parV k (ts t i)) (F63 0 () k (t,(i:Int),q)):=by
 have hl:=ht.len
 unfold F63 litS
 by_cases k0:k=0
 ·subst k0
  rw [show ((0:Int)==0)=true from rfl,cond_true,cond_true]
  rcases ajc t ht.toTOk i hi q with ⟨v,j,hj,hx,hy⟩ | ⟨j,e,hj,he,hx,hy⟩
  ·simp only [hx,hy,Rs.bind_ok,Option.bind_some,abo]
   exact .ok (az8 v) j hj rfl rfl
  ·simp only [hx,hy,Rs.bind_er,Option.bind_some,aa2]
   exact .er j e hj he rfl rfl
 rw [beqI k0,cond_false,cond_false]
 by_cases k1:k=1
 ·subst k1
  rw [show ((1:Int)==1)=true from rfl,cond_true,cond_true]
  have w1:IntKind.wrap .i64 ((i:Int)+1)=((i+1:Nat):Int):=abk (by omega)
  have w2:IntKind.wrap .i64 (((i+1:Nat):Int)-1)=(i:Int):=by rw [abd (by omega) (by omega)];omega
  have fin:∀ h:i<t.length,Par t q (fun v s=>(v,s)) (valS (parV 1 (aco (ts t i))) (ts t i) (ts t (i+1))) ((F133 0 () 1 ((t.getD i .bad).fld 1).asStr (t,((i+1:Nat):Int),q)).bind fun z=>sumE (fun y18=>some (.inl y18)) (fun y19=>some (.inr y19)) z):=fun h=>by
   have hs:=ht.sml _ (acs h .bad)
   rw [ahi h]
   rcases ajm po 1 ((t.getD i .bad).fld 1).asStr (Or.inl ⟨Or.inl rfl,hs⟩) t ht.toTOk i h q with ⟨v,j,hj,hx,hy⟩ | ⟨j,e,hj,he,hx,hy⟩
   ·exact .ok v j hj hx (by simp only [hy,Option.bind_some,abo])
   ·exact .er j e hj he hx (by simp only [hy,Option.bind_some,aa2])
  simp only [aoh [116,114,117,101] 1 (by decide) t ht.toTOk i hi,aoh [102,97,108,115,101] 1 (by decide) t ht.toTOk i hi,Option.bind_some]
  cases h1:isS 1 [116,114,117,101] (ts t i) with
  | true=>
   have h:=ac1 h1
   simp only [Bool.not_true,cond_false,Bool.true_or,cond_true,w1,w2,aab,h,decide_true,Int.toNat_natCast,aa0]
   exact fin h
  | false=>
   cases h2:isS 1 [102,97,108,115,101] (ts t i) with
   | true=>
    have h:=ac1 h2
    simp only [Bool.not_true,Bool.not_false,cond_false,Bool.or_true,cond_true,w1,w2,aab,h,decide_true,Int.toNat_natCast,aa0]
    exact fin h
   | false=>
    simp only [Bool.not_false,cond_true,Bool.or_false,cond_false]
    exact .er i 2 hi (by decide) rfl rfl
 rw [beqI k1,cond_false,cond_false]
 have id_par:=fun (h:k=6∨k=8)=>al9 po k (fun s=>s) (fun s hs=>Or.inl ⟨Or.inr h,hs⟩) (fun y=>some y.1) (fun s z h=>rfl) t ht i hi q
 by_cases k6:k=6
 ·subst k6
  rw [show ((6:Int)==6)=true from rfl,cond_true,Bool.true_or,cond_true]
  exact id_par (Or.inl rfl)
 by_cases k8:k=8
 ·subst k8
  rw [show ((8:Int)==6)=false from rfl,show ((8:Int)==8)=true from rfl,cond_false,cond_true,Bool.or_true,cond_true]
  exact id_par (Or.inr rfl)
 rw [beqI k6,beqI k8,cond_false,cond_false,Bool.or_false,cond_false]
 by_cases k7:k=7
 ·subst k7
  rw [show ((7:Int)==7)=true from rfl,cond_true,cond_true]
  exact al9 po 7 aa4 (fun s h=>Or.inr (Or.inl ⟨rfl,s,h,rfl⟩)) (fun y=>F134 0 y.1) (fun s z h=>akz s (by omega)) t ht i hi q
 rw [beqI k7,cond_false,cond_false]
 simp only [ajo [45] 4 (by decide) t ht.toTOk i hi,Option.bind_some]
 cases hs:isS 4 [45] (ts t i) with
 | true=>
  simp only [cond_true,aa0]
  exact aok po k (by omega) t ht true [45] rfl (i+1) (ac1 hs) q
 | false=>
  simp only [cond_false]
  exact aok po k (by omega) t ht false [] rfl i hi q
end Go.Ab
namespace Go.Ab
open Go
set_option maxRecDepth 100000
theorem Par.seq {α β R R':Type}{t:List PV}{q:QF}{mk:α->Q0->R}{mk':β->Q0->R'}{x:Rs α}{y:Option (R⊕(PV×Q0))}{f:α->List Tk->Rs β}{g:R->Option (R'⊕(PV×Q0))} (h:Par t q mk x y)
 (hc:∀ v j,j<=t.length->x=.ok v (ts t j)->Par t q mk' (f v (ts t j)) (g (mk v (t,((j:Nat):Int),q)))):Par t q mk' (x.bind f) (y.bind fun z=>sumE g (fun e=>some (.inr e)) z):=by
 rcases h with ⟨v,j,hj,hx,hy⟩ | ⟨j,e,hj,he,hx,hy⟩
 ·have:=hc v j hj hx
  rw [hx,hy]
  exact this
 ·rw [hx,hy]
  exact .er j e hj he rfl rfl
theorem Par.map {α β R R':Type}{t:List PV}{q:QF}{mk:α->Q0->R}{mk':β->Q0->R'}{x:Rs α}{y:Option (R⊕(PV×Q0))}{f:α->β}{g:R->R'} (h:Par t q mk x y)
 (hc:∀ v s,g (mk v s)=mk' (f v) s):Par t q mk' (x.bind fun v r=>.ok (f v) r) (y.bind fun z=>sumE (fun a=>some (.inl (g a))) (fun e=>some (.inr e)) z):=
 h.seq fun v j hj hx=>.ok (f v) j hj rfl (by rw [hc])
def fld0 (card key:Int) (ty:PV) (un:List UInt8):PV:=PV.agg [PV.int 0,PV.str [],PV.int card,PV.int key,ty,PV.str un,PV.bool false,ac9,PV.slice []]
theorem apb (po:adf) (card key:Int) (ty:PV) (un nm:List UInt8) (n:Int) (hd:Bool) (df:PV) (t:List PV) (ht:TNum t) (j:Nat) (hj:j<=t.length) (q:QF):
 Par t q (fun v s=>(v,s)) ((adj parV aai (ts t j)).bind fun l r5=>(eatS 4 [59] r5).bind fun _ r6=>.ok (aj1 n nm card key ty un hd df l) r6)
  ((F205 0 () (t,(j:Int),q)).bind fun z=>sumE (fun y12=>(F94 0 () [59] y12.2).bind fun z=>sumE (fun y14=>
    some (.inl (aj1 n nm card key ty un hd df y12.1,y14))) (fun y15=>some (.inr y15)) z) (fun y13=>some (.inr y13)) z):=
 (afs po t ht.toTNm j hj q).seq fun l k hk _=>(adr [59] 4 (by decide) t ht.toTOk k hk q).seq fun _ m hm _=>.ok _ m hm rfl rfl
theorem aqo (po:adf) (card key:Int) (ty:PV) (un:List UInt8) (wd:Bool) (hty:0<=(ty.fld 0).asInt/\(ty.fld 0).asInt<=8) (t:List PV) (ht:TNum t) (i:Nat) (hi:i<=t.length) (q:QF):
 Par t q (fun v s=>(v,s)) (akr parV aai card key ty un wd (ts t i)) (F119 0 () (fld0 card key ty un) wd (t,(i:Int),q)):=by
 unfold F119 akr
 refine (ajc t ht.toTOk i hi q).seq fun nm j hj _=>(adr [61] 4 (by decide) t ht.toTOk j hj q).seq fun _ k hk _=>(apj t ht.toTOk k hk 65535 (by decide) ht.num q).seq fun n m hm _=>?_
 cases wd with
 | true=>
  simp only [cond_true,ajo [100,101,102,97,117,108,116] 1 (by decide) t ht.toTOk m hm,Option.bind_some,au3,Bool.true_and]
  cases hd:isS 1 [100,101,102,97,117,108,116] (ts t m) with
  | true=>
   simp only [cond_true,aa0]
   have hlt:=ac1 hd
   rcases a8a po ((ty.fld 0).asInt) hty t ht (m+1) hlt q with ⟨v,p,hp,hx,hy⟩ | ⟨p,e,hp,he,hx,hy⟩
   ·rw [hx,show F63 0 () (((fld0 card key ty un).fld 4).fld 0).asInt (t,((m+1:Nat):Int),q)=F63 0 () (ty.fld 0).asInt (t,((m+1:Nat):Int),q) from rfl,hy]
    exact apb po card key ty un nm n true v t ht p hp q
   ·rw [hx,show F63 0 () (((fld0 card key ty un).fld 4).fld 0).asInt (t,((m+1:Nat):Int),q)=F63 0 () (ty.fld 0).asInt (t,((m+1:Nat):Int),q) from rfl,hy]
    exact .er p e hp he rfl rfl
  | false=>
   simp only [cond_false,Rs.bind_ok]
   exact apb po card key ty un nm n false ac9 t ht m hm q
 | false=>
  simp only [cond_false,au3,Bool.false_and,Rs.bind_ok]
  exact apb po card key ty un nm n false ac9 t ht m hm q
theorem a9e (w:List UInt8):F120 0 w=some (alo w):=by
 unfold F120 alo
 cases (w==[114,101,113,117,105,114,101,100])<;>cases (w==[111,112,116,105,111,110,97,108])<;>cases (w==[112,108,97,105,110])<;>cases (w==[108,105,115,116])<;>rfl
theorem a2q (po:adf) (t:List PV) (ht:TNum t) (i:Nat) (hi:i<=t.length) (q:QF):Par t q (fun v s=>(v,s)) (ahz parV aai (ts t i)) (F55 0 () (t,(i:Int),q)):=by
 have hl:=ht.len
 have o:=ht.toTOk
 unfold F55 ahz
 simp only [ajo [109,97,112] 1 (by decide) t o i hi,Option.bind_some]
 cases h0:isS 1 [109,97,112] (ts t i) with
 | true=>
  simp only [cond_true,aa0]
  refine (adr [60] 4 (by decide) t o (i+1) (ac1 h0) q).seq fun _ j hj _=>?_
  simp only [ad1,Option.bind_some]
  by_cases hb:aax (ts t j)=1
  ·have e1:(aax (ts t j) != 1)=false:=by rw [hb];rfl
   have e2:(aax (ts t j)==1)=true:=by rw [hb];rfl
   have h:j<t.length:=ac6 rfl e2
   simp only [e1,e2,imp,aab,h,decide_true,Bool.not_false,cond_true,cond_false,Int.toNat_natCast,(aw3 _).1,Option.bind_some,ahi h,Bool.true_and,abk (show j<=9223372036854775000 by omega),aa0]
   cases hk:(aes ((t.getD j .bad).fld 1).asStr==0) with
   | true=>exact .er j 2 hj (by decide) rfl rfl
   | false=>
    simp only [Bool.not_false,cond_true,cond_false]
    exact (adr [44] 4 (by decide) t o (j+1) h q).seq fun _ k hk _=>(avi t o k hk q).seq fun ty m hm hty=>(adr [62] 4 (by decide) t o m hm q).seq fun _ p hp _=>by
     rcases aqo po 5 (aes ((t.getD j .bad).fld 1).asStr) ty [] false (awc hty) t ht p hp q with ⟨v,a,ha,hx,hy⟩ | ⟨a,e,ha,he,hx,hy⟩
     ·exact .ok v a ha hx (by
       have hy:F119 0 () (PV.agg [(PV.int (0:Int)),(PV.str ([]:List UInt8)),(PV.int (5:Int)),(PV.int (aes ((t.getD j .bad).fld 1).asStr)),ty,(PV.str ([]:List UInt8)),(PV.bool false),(PV.agg [(PV.int (0:Int)),(PV.int (0:Int)),(PV.str ([]:List UInt8)),(PV.slice []),(PV.slice []),(PV.slice []),(PV.slice [])]),(PV.slice [])]) false (t,((p:Nat):Int),q)=_:=hy
       simp only [hy,Option.bind_some,abo])
     ·exact .er a e ha he hx (by
       have hy:F119 0 () (PV.agg [(PV.int (0:Int)),(PV.str ([]:List UInt8)),(PV.int (5:Int)),(PV.int (aes ((t.getD j .bad).fld 1).asStr)),ty,(PV.str ([]:List UInt8)),(PV.bool false),(PV.agg [(PV.int (0:Int)),(PV.int (0:Int)),(PV.str ([]:List UInt8)),(PV.slice []),(PV.slice []),(PV.slice []),(PV.slice [])]),(PV.slice [])]) false (t,((p:Nat):Int),q)=_:=hy
       simp only [hy,Option.bind_some,aa2])
  ·have e1:(aax (ts t j) != 1)=true:=bneI hb
   have e2:(aax (ts t j)==1)=false:=beqI hb
   simp only [e1,e2,imp,Bool.not_true,Bool.not_false,cond_true,cond_false,aag,Option.bind_some,Bool.false_and]
   exact .er j 2 hj (by decide) rfl rfl
 | false=>
  simp only [cond_false,ad1,Option.bind_some]
  by_cases hb:aax (ts t i)=1
  ·have e1:(aax (ts t i) != 1)=false:=by rw [hb];rfl
   have e2:(aax (ts t i)==1)=true:=by rw [hb];rfl
   have h:i<t.length:=ac6 rfl e2
   simp only [e1,e2,imp,aab,h,decide_true,Bool.not_false,cond_true,cond_false,Int.toNat_natCast,a9e,Option.bind_some,ahi h,Bool.true_and,abk (show i<=9223372036854775000 by omega),aa0]
   cases hk:(alo ((t.getD i .bad).fld 1).asStr==0) with
   | true=>exact .er i 2 hi (by decide) rfl rfl
   | false=>
    simp only [Bool.not_false,cond_true,cond_false]
    exact (avi t o (i+1) h q).seq fun ty p hp hty=>by
     rcases aqo po (alo ((t.getD i .bad).fld 1).asStr) 0 ty [] true (awc hty) t ht p hp q with ⟨v,a,ha,hx,hy⟩ | ⟨a,e,ha,he,hx,hy⟩
     ·exact .ok v a ha hx (by
       have hy:F119 0 () (PV.agg [(PV.int (0:Int)),(PV.str ([]:List UInt8)),(PV.int (alo ((t.getD i .bad).fld 1).asStr)),(PV.int (0:Int)),ty,(PV.str ([]:List UInt8)),(PV.bool false),(PV.agg [(PV.int (0:Int)),(PV.int (0:Int)),(PV.str ([]:List UInt8)),(PV.slice []),(PV.slice []),(PV.slice []),(PV.slice [])]),(PV.slice [])]) true (t,((p:Nat):Int),q)=_:=hy
       simp only [hy,Option.bind_some,abo])
     ·exact .er a e ha he hx (by
       have hy:F119 0 () (PV.agg [(PV.int (0:Int)),(PV.str ([]:List UInt8)),(PV.int (alo ((t.getD i .bad).fld 1).asStr)),(PV.int (0:Int)),ty,(PV.str ([]:List UInt8)),(PV.bool false),(PV.agg [(PV.int (0:Int)),(PV.int (0:Int)),(PV.str ([]:List UInt8)),(PV.slice []),(PV.slice []),(PV.slice []),(PV.slice [])]),(PV.slice [])]) true (t,((p:Nat):Int),q)=_:=hy
       simp only [hy,Option.bind_some,aa2])
  ·have e1:(aax (ts t i) != 1)=true:=bneI hb
   have e2:(aax (ts t i)==1)=false:=beqI hb
   simp only [e1,e2,imp,Bool.not_true,Bool.not_false,cond_true,cond_false,aag,Option.bind_some,Bool.false_and]
   exact .er i 2 hi (by decide) rfl rfl
end Go.Ab
namespace Go.Ab
open Go
set_option maxRecDepth 100000
inductive RPar {α R:Type} (t:List PV) (q:QF) (mk:α->Q4->R) (x:Rs α) (y:Option R):Prop
 | ok (v:α) (j:Nat):j<=t.length->x=.ok v (ts t j)->y=some (mk v (t,((j:Nat):Int),0,q))->RPar t q mk x y
 | er (j:Nat) (e:Int) (v:α):j<=t.length->e≠0->x=.er (ts t j) e->y=some (mk v (t,((j:Nat):Int),e,q))->RPar t q mk x y
structure RF {α R:Type} (t:List PV) (q:QF) (mk:α->Q4->R) (c:Prop) (f:List Tk->Rs α) (F:Q4->Option R):Prop where
 rp:c->∀ i:Nat,i<=t.length->RPar t q mk (f (ts t i)) (F (t,(i:Int),0,q))
 st:∀ (j:Nat) (e:Int),j<=t.length->e≠0->∃ v,F (t,(j:Int),e,q)=some (mk v (t,(j:Int),e,q))
section
variable {t:List PV}{q:QF}{c:Prop}
theorem RF.bind {α β R R':Type}{mk:α->Q4->R}{mk':β->Q4->R'}{f:List Tk->Rs α}{F:Q4->Option R}{f2:α->List Tk->Rs β}{g:R->Option R'} (h:RF t q mk c f F)
 (hc:∀ v,RF t q mk' (c/\∃ i j,i<=t.length/\j<=t.length/\f (ts t i)=.ok v (ts t j)) (f2 v) (fun s=>g (mk v s))):RF t q mk' c (fun r=>(f r).bind f2) (fun s=>(F s).bind g):=by
 refine ⟨fun hq i hi=>?_,fun j e hj he=>?_⟩
 ·rcases h.rp hq i hi with ⟨v,j,hj,hx,hy⟩ | ⟨j,e,v,hj,he,hx,hy⟩
  ·simp only [hx,hy,Rs.bind_ok,Option.bind_some]
   exact (hc v).rp ⟨hq,i,j,hi,hj,hx⟩ j hj
  ·simp only [hx,hy,Rs.bind_er,Option.bind_some]
   obtain ⟨w,hw⟩:=(hc v).st j e hj he
   exact .er j e w hj he rfl hw
 ·obtain ⟨v,hv⟩:=h.st j e hj he
  obtain ⟨w,hw⟩:=(hc v).st j e hj he
  exact ⟨w,by simp only [hv,Option.bind_some];exact hw⟩
theorem RF.imp {α R:Type}{mk:α->Q4->R}{c':Prop}{f:List Tk->Rs α}{F:Q4->Option R} (h:RF t q mk c f F) (hc:c'->c):RF t q mk c' f F:=⟨fun x=>h.rp (hc x),h.st⟩
theorem RF.ret {α β R:Type}{mk:α->Q4->R} (v:α):RF t q mk c (fun r=>.ok v r) (fun s=>some (mk v s)):=⟨fun _ i hi=>.ok v i hi rfl rfl,fun j e _ _=>⟨v,rfl⟩⟩
theorem RF.congr {α R:Type}{mk:α->Q4->R}{f f':List Tk->Rs α}{F F':Q4->Option R} (h:RF t q mk c f F) (hf:∀ r,f' r=f r) (hF:∀ s,F' s=F s):RF t q mk c f' F':=
 ⟨fun hc i hi=>by rw [hf,hF];exact h.rp hc i hi,fun j e hj he=>by rw [hF];exact h.st j e hj he⟩
theorem hereR (k:Int) (hk:(k==0)=false) (i:Nat):F105 0 () k (t,(i:Int),0,q)=some (aax (ts t i)==k,(t,(i:Int),0,q)):=by
 unfold F105
 by_cases h:i<t.length
 ·have e1:decide ((i:Int)<(t.length:Int))=true:=decide_eq_true (by omega)
  simp only [show ((0:Int)==0)=true from rfl,e1,cond_true,imp,aab,h,decide_true,Int.toNat_natCast,aux h]
 ·have e1:decide ((i:Int)<(t.length:Int))=false:=decide_eq_false (by omega)
  have e2:(aax (ts t i)==k)=false:=by
   rw [aej (by omega)]
   have:k≠0:=by simpa using hk
   simp only [aax,beq_eq_false_iff_ne]
   exact fun x=>this x.symm
  simp only [show ((0:Int)==0)=true from rfl,e1,e2,cond_true,cond_false,imp,Bool.not_false,aag]
theorem hereE (k:Int) (a e:Int) (he:e≠0):F105 0 () k (t,a,e,q)=some (false,(t,a,e,q)):=by
 unfold F105
 simp only [beqI he,cond_false,imp,Bool.not_false,cond_true,aag]
theorem isR (k:Int) (hk:(k==0)=false) (s:List UInt8) (i:Nat):F107 0 () k s (t,(i:Int),0,q)=some (isS k s (ts t i),(t,(i:Int),0,q)):=by
 unfold F107
 rw [hereR k hk,Option.bind_some]
 cases h:(aax (ts t i)==k) with
 | true=>
  have hlt:=ac6 hk h
  rw [aux hlt] at h
  simp only [imp,cond_true,aab,hlt,decide_true,Int.toNat_natCast,a7p hlt,h,Bool.true_and]
 | false=>
  have:isS k s (ts t i)=false:=by
   cases hx:ts t i with
   | nil=>rfl
   | cons x r=>rw [hx] at h;simp only [aax] at h;simp only [isS,h,Bool.false_and]
  simp only [imp,cond_false,Bool.not_false,cond_true,aag,this]
theorem isE (k:Int) (s:List UInt8) (a e:Int) (he:e≠0):F107 0 () k s (t,a,e,q)=some (false,(t,a,e,q)):=by
 unfold F107
 rw [hereE k a e he]
 simp only [Option.bind_some,imp,cond_false,Bool.not_false,cond_true,aag]
theorem mayR (ht:TOk t) (k:Int) (hk:(k==0)=false) (s:List UInt8) (i:Nat):F102 0 () k s (t,(i:Int),0,q)=some (bif isS k s (ts t i) then (true,(t,((i+1:Nat):Int),0,q)) else (false,(t,(i:Int),0,q))):=by
 have hl:=ht.len
 unfold F102
 rw [isR k hk,Option.bind_some]
 cases h:isS k s (ts t i) with
 | true=>
  have hlt:=ac1 h
  simp only [Bool.not_true,cond_false,cond_true,abk (show i<=9223372036854775000 by omega)]
 | false=>rfl
theorem mayE (k:Int) (s:List UInt8) (a e:Int) (he:e≠0):F102 0 () k s (t,a,e,q)=some (false,(t,a,e,q)):=by
 unfold F102
 rw [isE k s a e he];rfl
theorem RF.may {β R':Type}{mk':β->Q4->R'} (ht:TOk t) (k:Int) (hk:(k==0)=false) (s:List UInt8) {f1 f2:List Tk->Rs β}{g:Bool×Q4->Option R'} (h1:RF t q mk' c f1 (fun z=>g (true,z))) (h2:RF t q mk' c f2 (fun z=>g (false,z))):
 RF t q mk' c (fun r=>bif isS k s r then f1 r.tail else f2 r) (fun z=>(F102 0 () k s z).bind g):=by
 refine ⟨fun hc i hi=>?_,fun j e hj he=>?_⟩
 ·simp only [mayR ht k hk,Option.bind_some,aa0]
  cases h:isS k s (ts t i) with
  | true=>exact h1.rp hc (i+1) (ac1 h)
  | false=>exact h2.rp hc i hi
 ·simp only [mayE k s _ e he,Option.bind_some]
  exact h2.st j e hj he
end
end Go.Ab
namespace Go.Ab
open Go
set_option maxRecDepth 100000
section
variable {t:List PV}{q:QF}{c:Prop}
end
end Go.Ab
