/- The scanner on texts that are written token by token: texts, the loop. -/
import Derived.Test.YtcpkdafleaddlaaGreatDoorPUtfFi
set_option linter.unusedVariables false
set_option linter.unusedSimpArgs false
set_option linter.unnecessarySimpa false
namespace Go.Ab
open Go
set_option maxRecDepth 100000
theorem a7q:((List.range 16).all λh=>(F305 0 ((hexd h).toNat:Int))==some (h:Int))=true:=by kernel_rfl
theorem azv {h:Nat} (d:h<16):F305 0 ((hexd h).toNat:Int)=some (h:Int):=by grind [List.all_eq_true,a7q]
theorem ber:((List.range 256).all λb=>IntKind.wrap .u8 (af2 .or .i64 (IntKind.wrap .i64 (((b / 16:Nat):Int)*2^(min (4:Int).toNat (IntKind.bits .i64)))) ((b%16:Nat):Int))==(b:Int))=true:=by kernel_rfl
theorem bes {b:Nat} (h:b<256):IntKind.wrap .u8 (af2 .or .i64 (IntKind.wrap .i64 (((b / 16:Nat):Int)*2^(min (4:Int).toNat (IntKind.bits .i64)))) ((b%16:Nat):Int))=(b:Int):=by grind [List.all_eq_true,ber]
theorem esc2 {d:List UInt8}{i:Nat}{e:UInt8}{q:List UInt8} (U:d.length<=1048576) (h:d.drop i=92::e::q) {v:Int} (V:F304 0 ((e.toNat:Nat):Int)=some (v,true)):F237 0 d (i:Int)=some (v,2):=by
 obtain ⟨H,_,m⟩:=ab9 0 h;obtain ⟨M,O,_⟩:=ab9 0 m;have W:IntKind.wrap .i64 ((i:Int)+1)=((i+1:Nat):Int):=aa9 (by omega);have o:decide (((i+1:Nat):Int)>=(d.length:Int))=false:=Al (by omega);have z:aaa ((i+1:Nat):Int) d.length=true:=by rw [aab];grind
 unfold F237;grind
theorem escX {d:List UInt8}{i:Nat}{b:UInt8}{q:List UInt8} (hl:d.length<=1048576) (h:d.drop i=92::120::(hex2 b.toNat++q)):F237 0 d (i:Int)=some ((b.toNat:Int),4):=by
 have h:d.drop i=92::120::hexd (b.toNat / 16)::hexd (b.toNat%16)::q:=h;have W:=b.toNat_lt;obtain ⟨h1,_,H⟩:=ab9 0 h;obtain ⟨h3,M,O⟩:=ab9 0 H;obtain ⟨h6,U,V⟩:=ab9 0 O;obtain ⟨h9,m,_⟩:=ab9 0 V;have w1:IntKind.wrap .i64 ((i:Int)+1)=((i+1:Nat):Int):=aa9 (by omega);have w2:IntKind.wrap .i64 ((i:Int)+2)=((i+1+1:Nat):Int):=by grind [abi]
 have w3:IntKind.wrap .i64 ((i:Int)+3)=((i+1+1+1:Nat):Int):=by grind [abi]
 have o:decide (((i+1:Nat):Int)>=(d.length:Int))=false:=Al (by omega);have z:decide (((i+1+1+1:Nat):Int)>=(d.length:Int))=false:=Al (by omega);have r1:aaa ((i+1:Nat):Int) d.length=true:=by rw [aab];grind
 have r2:aaa ((i+1+1:Nat):Int) d.length=true:=by rw [aab];grind
 have r3:aaa ((i+1+1+1:Nat):Int) d.length=true:=by rw [aab];grind
 have X:F304 0 (((120:UInt8).toNat:Nat):Int)=some (0,false):=rfl;have Y:((((120:UInt8).toNat:Nat):Int) != (120:Int))=false:=rfl;have v1:=azv (h:=b.toNat / 16) (by omega);have v2:=azv (h:=b.toNat%16) (by omega);have Z:decide (((b.toNat / 16:Nat):Int)<0)=false:=Al (by omega);have n2:decide (((b.toNat%16:Nat):Int)<0)=false:=Al (by omega);unfold F237;simp only [w1,w2,w3,o,z,r1,r2,r3,Ad,Ae,Ag,M,U,m,X,Y,v1,v2,Z,n2,imp,Aj,Bool.true_or,aag,Aa,bes W]
theorem ba4 {d:List UInt8} (z:d.length<=1048576) {i:Nat}{m:List PV} (ha:m.length<=i) {b:UInt8}{c q:List UInt8} (W:anq b c) (h:d.drop i=c++q):S131_6step 0 (d,m,(i:Int))=some (.inl (d,m++[PV.int (b.toNat:Int)],((i+c.length:Nat):Int))):=by
 have ne:c≠[]:=by rcases W with ⟨rfl,_⟩ | ⟨_,rfl⟩ | ⟨_,rfl⟩ | ⟨_,rfl⟩ | ⟨_,rfl⟩ | ⟨_,rfl⟩ | rfl<;>simp
 have hi:i<d.length:=by have:=congrArg List.length h;grind [List.length_drop,List.length_append,List.length_pos_iff]
 have M:decide ((i:Int)<(d.length:Int))=true:=Ah (by omega);have O:aaa (i:Int) d.length=true:=by grind [aab,decide_eq_true]
 have U:∀ x:PV,decide (m.length+[x].length<=aaf)=true:=λx=>Ah (by grind [List.length_cons,List.length_nil,aaf]);have o:∀ (e:UInt8) (r:List UInt8) (v:Int),d.drop i=92::e::r->F237 0 d (i:Int)=some (v,2)->S131_6step 0 (d,m,(i:Int))=some (.inl (d,m++[PV.int v],((i+2:Nat):Int))):=λe r v hd V=>by
  obtain ⟨_,H,_⟩:=ab9 0 hd;have w:IntKind.wrap .i64 ((i:Int)+2)=((i+2:Nat):Int):=by grind [abi]
  simp only [S131_6step,S131_6,M,O,U,H,V,w,imp,Ad,Ae,Am,Bool.true_or,aag,Aa,Ag];rfl
 rcases W with ⟨rfl,X,b2⟩ | ⟨rfl,rfl⟩ | ⟨rfl,rfl⟩ | ⟨rfl,rfl⟩ | ⟨rfl,rfl⟩ | ⟨rfl,rfl⟩ | rfl
 ·obtain ⟨_,H,_⟩:=ab9 0 (show d.drop i=b::q from h);have w:IntKind.wrap .i64 ((i:Int)+1)=((i+1:Nat):Int):=aa9 (by omega);have Y:((b.toNat:Int) != (34:Int))=true:=by
   show (!((b.toNat:Int)==(34:Int)))=true;rw [bqI (c:=b) (k:=34) (n:=34) rfl,At.2 X];rfl
  have Z:((b.toNat:Int)==(92:Int))=false:=by rw [bqI (c:=b) (k:=92) (n:=92) rfl];grind
  simp only [S131_6step,S131_6,M,O,U,H,w,Y,Z,imp,Ad,Ae,Am,Bool.true_or,aag,Aa,Ag];rfl
 ·exact o _ _ _ h (esc2 z h rfl)
 ·exact o _ _ _ h (esc2 z h rfl)
 ·exact o _ _ _ h (esc2 z h rfl)
 ·exact o _ _ _ h (esc2 z h rfl)
 ·exact o _ _ _ h (esc2 z h rfl)
 ·have V:=escX (b:=b) (q:=q) z h;obtain ⟨_,H,_⟩:=ab9 0 (show d.drop i=92::(120::(hex2 b.toNat++q)) from h);have w:IntKind.wrap .i64 ((i:Int)+4)=((i+4:Nat):Int):=by grind [abi]
  simp only [S131_6step,S131_6,M,O,U,H,V,w,imp,Ad,Ae,Am,Bool.true_or,aag,Aa,Ag];rfl
theorem ba3 {d:List UInt8} (W:d.length<=1048576) {a x:List UInt8} (V:Codes a x):∀ (i:Nat) (m:List PV) (s:List UInt8),d.drop i=x++34::s->m.length<=i->aaz (S131_6step 0) (d,m,(i:Int))=some (.inr (d,m++a.map (λc=>PV.int (c.toNat:Int)),((i+x.length:Nat):Int))):=by
 induction V with
 | nil=>
  intro i m s h o;obtain ⟨Z,U,_⟩:=ab9 0 (show d.drop i=34::s from h);have H:decide ((i:Int)<(d.length:Int))=true:=Ah (by omega);have M:aaa (i:Int) d.length=true:=by grind [aab,decide_eq_true]
  have O:((((34:UInt8).toNat:Nat):Int) != (34:Int))=false:=rfl;refine (aac (y:=.inr (d,m,(i:Int))) ?_).trans (by simp);simp only [S131_6step,S131_6,H,M,U,O,imp,Ad,Ae,Am,Bool.true_or,aag,Aa,Ag]
 | @cons b c r q z hr Y=>
  intro i m s h o;rw [Ax] at h;have st:=ba4 W o z h;have X:d.drop (i+c.length)=q++34::s:=by rw [<-A8,h,Bp]
  have hp:0<c.length:=by rcases z with ⟨rfl,_⟩ | ⟨_,rfl⟩ | ⟨_,rfl⟩ | ⟨_,rfl⟩ | ⟨_,rfl⟩ | ⟨_,rfl⟩ | rfl<;>simp
  rw [aan st,Y (i+c.length) _ s X (by simp;omega)];grind
theorem aq3 {a:List UInt8} (Y:a.length<=1048576) (s:List UInt8) (hl:(aa4 a++s).length<=1048576):F131 0 (aa4 a++s)=some (a,(((aa4 a).length:Nat):Int),0):=by
 have m:aa4 a=34::(aav a 0++[34]):=by unfold aa4;rfl
 have d:(aa4 a).length=(aav a 0).length+2:=by rw [m];simp
 have z:=ae7 a a.length 0 (by omega);rw [A1] at z;have Z:(aa4 a++s).drop 1=aav a 0++34::s:=by rw [m];simp
 have lp:aaz (S131_6step 0) (aa4 a++s,[],(1:Int))=some (.inr (aa4 a++s,[]++a.map (λc:UInt8=>PV.int (c.toNat:Int)),((1+(aav a 0).length:Nat):Int))):=ba3 hl z 1 [] s Z (by simp);have o:(aa4 a++s).length=(aav a 0).length+2+s.length:=by grind
 have H:((aa4 a++s)==([]:List UInt8))=false:=by rw [m];rfl
 have M:aaa (0:Int) (aa4 a++s).length=true:=by rw [m,Bb,in0]
 have O:((((aa4 a++s).getD (0:Int).toNat 0).toNat:Int) != (34:Int))=false:=by rw [m];rfl
 have U:([]++a.map (λc:UInt8=>PV.int (c.toNat:Int))).map aat=a:=by rw [A3,List.map_map];refine (List.map_congr_left (g:=id) (λx _=>ahq x)).trans (List.map_id _)
 have V:decide (((1+(aav a 0).length:Nat):Int)>=((aa4 a++s).length:Int))=false:=Al (by omega);have w:IntKind.wrap .i64 (((1+(aav a 0).length:Nat):Int)+1)=(((aa4 a).length:Nat):Int):=by rw [aa9 (by omega),d];congr 1;omega
 have W:decide (0<=(0:Int)/\(0:Int)<=(((aa4 a).length:Nat):Int)/\(((aa4 a).length:Nat):Int)<=((aa4 a++s).length:Int))=true:=Ah (by omega);have X:((aa4 a++s).take (((aa4 a).length:Nat):Int).toNat).drop (0:Int).toNat=aa4 a:=by rw [Ag,Bn];rfl
 unfold F131;rw [aal,lp];simp only [H,M,O,imp,Aj,Bool.true_or,aag,Ad,Ae,Aa,aa7,U,V,asm a Y,w,W,X,A9,Am]
end Go.Ab
namespace Go.Ab
open Go
set_option maxRecDepth 100000
def allD:Bq:=[48,49,50,51,52,53,54,55,56,57]
theorem a2s:∀ d:Nat,d<10->(allD.take (d+1)).drop d=[UInt8.ofNat (48+d)]:=by decide
theorem awi:∀ (k u:Nat) (d:Bq),u<10^(k+1)->u<18446744073709551616->d.length+k<=1000->aaz (S379_4step 0) ((u:Int),allD,d)=some (preD u++d):=by
 intro k;induction k with
 | zero=>intro u d z _ _;have m:decide ((u:Int)>(9:Int))=false:=Al (by omega);rw [preD,if_pos (by omega)];exact aac (by simp only [S379_4step,S379_4,m,Ae];rfl)
 | succ k X=>
  intro u d z H Y;by_cases h:u<10
  ·have m:decide ((u:Int)>(9:Int))=false:=Al (by omega);rw [preD,if_pos h];exact aac (by simp only [S379_4step,S379_4,m,Ae];rfl)
  ·have m:decide ((u:Int)>(9:Int))=true:=Ah (by omega);have W:IntKind.wrap .u64 ((u:Int).tdiv (10:Int))=((u / 10:Nat):Int):=by
    rw [show (u:Int).tdiv (10:Int)=((u / 10:Nat):Int) from rfl,IntKind.wrap_u64];omega
   have O:((u / 10:Nat):Int).tmod (10:Int)=((u / 10%10:Nat):Int):=rfl;have o:IntKind.wrap .u64 (((u / 10%10:Nat):Int)+(1:Int))=((u / 10%10+1:Nat):Int):=by rw [IntKind.wrap_u64];omega
   have U:preD u++d=preD (u / 10)++(UInt8.ofNat (48+u / 10%10)::d):=by have:=asj (u / 10);rw [show preD u=Lib.decDigits (u / 10) by rw [preD,if_neg h],<-this,Ax];rfl
   rw [U,<-X (u / 10) (UInt8.ofNat (48+u / 10%10)::d) (by rw [Nat.pow_succ] at z;omega) (by omega) (by simp;omega)];refine aan ?_;have M:decide ([UInt8.ofNat (48+u / 10%10)].length+d.length<=aau)=true:=afb (by simp;omega);have V:decide ((0:Int)<=((u / 10%10:Nat):Int)/\((u / 10%10:Nat):Int)<=((u / 10%10+1:Nat):Int)/\((u / 10%10+1:Nat):Int)<=(allD.length:Int))=true:=Ah (by have:allD.length=10:=rfl;omega);simp only [S379_4step,S379_4,m,W,O,o,V,Ag,a2s _ (Nat.mod_lt _ (by decide:0<10)),M,Ad];rfl
theorem a3r (u:Nat) (z:u<18446744073709551616):F379 0 (u:Int)=some (decB u):=by
 unfold F379;have m:((u:Nat):Int).tmod (10:Int)=((u%10:Nat):Int):=rfl;have d:IntKind.wrap .u64 (((u%10:Nat):Int)+(1:Int))=((u%10+1:Nat):Int):=by rw [IntKind.wrap_u64];omega
 have o:decide ((0:Int)<=((u%10:Nat):Int)/\((u%10:Nat):Int)<=((u%10+1:Nat):Int)/\((u%10+1:Nat):Int)<=(allD.length:Int))=true:=Ah (by have:allD.length=10:=rfl;omega);have e:([48,49,50,51,52,53,54,55,56,57]:Bq)=allD:=rfl;simp only [e,m,d,o,Ad,Ag,a2s _ (Nat.mod_lt _ (by decide:0<10)),aal];rw [awi 19 u _ (by omega) z (by simp),asj,ahs (by omega)];rfl
end Go.Ab
namespace Go.Ab
open Go
set_option maxRecDepth 100000
theorem ay9 (s:Bq) (U:Bool) (V:Nat) (hV:V<18446744073709551616) (hd:∀ c,c∈s->akg c) (hl:s.length<=1048576):∀ (m i o:Nat),s.length-i<=m->i<=s.length->valD o (s.drop i)=V->
 aaz (S365_9step 0) (s,U,(o:Int),false,(i:Int))=some (.inr (U,(V:Int),false)):=by
 intro m
 induction m with
 | zero=>
  intro i o hm hi H
  have z:¬i<s.length:=by omega
  rw [Aq (by omega)] at H
  have e:o=V:=H
  subst e
  exact aac (by simp only [S365_9step,S365_9,abh,z,decide_false,Ae])
 | succ m ih=>
  intro i o hm hi H
  by_cases z:i<s.length
  ·rw [aaj z 0] at H;have W:akg (s.getD i 0):=hd _ (by rw [aiu z];exact List.getElem_mem _);generalize hx:s.getD i 0=c at H W;have O:valD (o*10+(c.toNat-48)) (s.drop (i+1))=V:=H;have hs:o*10+(c.toNat-48)<=V:=by rw [<-O];exact a7p _ _
   unfold akg at W;obtain ⟨d,M⟩:∃ d:Nat,c.toNat=48+d:=⟨c.toNat-48,by omega⟩;rw [<-ih (i+1) (o*10+(c.toNat-48)) (by omega) (by omega) O];rw [M] at hs W ⊢;have X:decide (((48+d:Nat):Int)<(48:Int))=false:=Al (by omega);have Y:decide (((48+d:Nat):Int)>(57:Int))=false:=Al (by omega);have w1:IntKind.wrap .u64 (IntKind.wrap .u8 (((48+d:Nat):Int)-(48:Int)))=(d:Int):=by rw [IntKind.wrap_u8,IntKind.wrap_u64];omega
   have w2:IntKind.wrap .u64 ((18446744073709551615:Int)-(d:Int))=((18446744073709551615-d:Nat):Int):=by rw [IntKind.wrap_u64];omega
   have w3:IntKind.wrap .u64 (((18446744073709551615-d:Nat):Int).tdiv (10:Int))=(((18446744073709551615-d) / 10:Nat):Int):=by rw [show ((18446744073709551615-d:Nat):Int).tdiv (10:Int)=(((18446744073709551615-d) / 10:Nat):Int) from rfl,IntKind.wrap_u64];omega
   have Z:decide ((o:Int)>(((18446744073709551615-d) / 10:Nat):Int))=false:=Al (by omega);have w4:IntKind.wrap .u64 ((10:Int)*(o:Int))=((10*o:Nat):Int):=by rw [IntKind.wrap_u64];omega
   have w5:IntKind.wrap .u64 (((10*o:Nat):Int)+(d:Int))=((o*10+(48+d-48):Nat):Int):=by rw [IntKind.wrap_u64];omega
   refine aan ?_;simp only [S365_9step,S365_9,abh,aab,z,decide_true,Ad,Ag,hx,M,X,Y,Z,w1,w2,w3,w4,w5,imp,Aj,Ae,aj0 (i:=i) (by omega)]
  ·have e:o=V:=by rw [Aq (by omega)] at H;exact H
   subst e;exact aac (by simp only [S365_9step,S365_9,abh,z,decide_false,Ae])
theorem anu (u:Nat) (d:u<18446744073709551616):(Lib.decDigits u).length<=20:=by rw [<-ahs (by omega)];exact amw u
theorem bcv (u:Nat) (M:u<18446744073709551616):F365 0 (Lib.decDigits u)=some ((u:Int),false,0):=by
 obtain ⟨z,O,U,V⟩:=aht u;have H:=anu u M;have d:=ay9 (Lib.decDigits u) false u M z (by omega) (Lib.decDigits u).length 0 0 (by omega) (by omega) (by rw [A1];exact O);have hz:u=0->Lib.decDigits u=[48]:=λh=>by subst h;rw [Lib.decDigits];rfl
 generalize Lib.decDigits u=s at*;match s,U with
 | c::r,_=>
  have W:=z c (by simp);unfold akg at W;have m:((c.toNat:Int)==(45:Int))=false:=by simp;omega
  have hp:decide (((c::r).length:Int)>(0:Int))=true:=Ah (by simp);have Y:aaa (0:Int) (c::r).length=true:=by rw [show (0:Int)=((0:Nat):Int) from rfl,aab];exact Ah (by simp)
  have X:((c::r).getD (0:Int).toNat 0)=c:=rfl;have Z:((c::r)==([]:Bq))=false:=rfl;have ht:(bif ((c.toNat:Int)==(48:Int)) then (!((c::r)==([48]:Bq))) else false)=false:=by
   by_cases o:u=0
   ·rw [hz o];simp
   ·have:=V o c rfl;have:((c.toNat:Int)==(48:Int))=false:=by simp;omega
    rw [this];rfl
  rw [show ((0:Nat):Int)=(0:Int) from rfl] at d;unfold F365;simp only [hp,imp,Y,Ad,X,m,Ae,Z,Aj,ht,aal,d,Aa,aa7]
theorem bcw (u:Nat) (hu:u<18446744073709551616):F365 0 (45::Lib.decDigits u)=some (if u=0 then (0,false,2) else ((u:Int),true,0)):=by
 obtain ⟨X,h2,h3,h4⟩:=aht u;have aa:=anu u hu;have d:=ay9 (Lib.decDigits u) true u hu X (by omega) (Lib.decDigits u).length 0 0 (by omega) (by omega) (by rw [A1];exact h2);have hz:u=0->Lib.decDigits u=[48]:=λh=>by subst h;rw [Lib.decDigits];rfl
 generalize Lib.decDigits u=s at*;match s,h3 with
 | c::r,_=>
  have hc:=X c (by simp);unfold akg at hc;have M:(((45:UInt8).toNat:Int)==(45:Int))=true:=rfl;have hp:decide (((45::c::r).length:Int)>(0:Int))=true:=Ah (by simp;omega);have Z:aaa (0:Int) (45::c::r).length=true:=by rw [show (0:Int)=((0:Nat):Int) from rfl,aab];exact Ah (by simp)
  have o:aaa (0:Int) (c::r).length=true:=by rw [show (0:Int)=((0:Nat):Int) from rfl,aab];exact Ah (by simp)
  have Y:((45::c::r).getD (0:Int).toNat 0)=45:=rfl;have m:((c::r).getD (0:Int).toNat 0)=c:=rfl;have z:decide ((0:Int)<=(1:Int)/\(1:Int)<=((45::c::r).length:Int)/\((45::c::r).length:Int)<=((45::c::r).length:Int))=true:=Ah (by simp;omega);have H:((45::c::r).take ((45::c::r).length:Int).toNat).drop (1:Int).toNat=c::r:=by rw [Ag,List.take_length];rfl
  have hn:((c::r)==([]:Bq))=false:=rfl;have V:((45::c::r)==([48]:Bq))=false:=rfl;rw [show ((0:Nat):Int)=(0:Int) from rfl] at d;by_cases O:u=0
  ·have U:c=48:=by have:=hz O;simp at this;exact this.1
   have W:((c.toNat:Int)==(48:Int))=true:=by rw [U];rfl
   unfold F365;simp only [hp,imp,Z,o,Ad,Y,m,M,z,H,hn,Aj,Ae,W,V,O,A6]
  ·have:=h4 O c rfl;have W:((c.toNat:Int)==(48:Int))=false:=by simp;omega
   unfold F365;simp only [hp,imp,Z,o,Ad,Y,m,M,z,H,hn,Aj,Ae,W,aal,d,Aa,aa7,O,A7]
end Go.Ab
namespace Go.Ab
open Go
set_option maxRecDepth 100000
def ac2:PV:=PV.agg [(PV.int (0:Int)),(PV.int (0:Int)),(PV.str ([]:Bq)),(PV.slice []),(PV.slice []),(PV.slice []),(PV.slice [])]
def mkV (k b:Int):PV:=PV.agg [(PV.int k),(PV.int b),(PV.str ([]:Bq)),(PV.slice []),(PV.slice []),(PV.slice []),(PV.slice [])]
def numV (k:Int) (d:Bool) (u:Nat):PV×Int:=
 if d=true/\u=0 then (ac2,2)
 else if k=4 then (if d=true\/4294967296<=u then (ac2,6) else (mkV k u,0))
 else if d=true then (if 9223372036854775808<u then (ac2,6) else (mkV k (IntKind.wrap .u64 (0-(u:Int))),0))
 else if 9223372036854775808<=u then (ac2,6) else (mkV k u,0)
def signed (d:Bool) (l:Bq):Bq:=if d=true then 45::l else l
theorem aur (k:Int) {b:Int} (d:0<=b) (m:b<18446744073709551616):avh (mkV k b):=⟨Nat.zero_le _,Nat.zero_le _,d,m⟩
theorem fits3 (b:Int):amo 3 (mkV 3 b)=true:=by unfold amo;rfl
theorem fits4 (b:Int):amo 4 (mkV 4 b)=decide (b<4294967296):=by have:amo 4 (mkV 4 b)=abx 4 b:=rfl;rw [this];rfl
theorem amh (d:Bool) (u:Nat) (m:u<18446744073709551616):F365 0 (signed d (Lib.decDigits u))=some (if d=true/\u=0 then (0,false,2) else ((u:Int),d,0)):=by
 cases d with
 | false=>simp only [signed,A2,A7,false_and];exact bcv u m
 | true=>simp only [signed,A6,true_and];exact bcw u m
theorem axo (k:Int) (W:k=3\/k=4) (o:Bool) (u:Nat) (X:u<18446744073709551616):F318 0 k (signed o (Lib.decDigits u))=some (numV k o u):=by
 unfold F318 numV;rw [amh o u X,Aa];by_cases M:o=true/\u=0
 ·rw [if_pos M,if_pos M];rfl
 ·rw [if_neg M,if_neg M];have O:∀ b:Int,0<=b->b<18446744073709551616->F153 0 k (PV.agg [(PV.int k),(PV.int b),(PV.str ([]:Bq)),(PV.slice []),(PV.slice []),(PV.slice []),(PV.slice [])])=some (amo k (mkV k b)):=λb M V=>ajt k (mkV k b) (aur k M V);have U:IntKind.wrap .u64 (0-(u:Int))=(0-(u:Int))%18446744073709551616:=by rw [IntKind.wrap_u64]
  have m:=O (u:Int) (by omega) (by omega);have H:=O (IntKind.wrap .u64 (0-(u:Int))) (by rw [U];omega) (by rw [U];omega);rcases W with rfl | rfl
  ·rw [fits3] at m H;cases o with
   | false=>
    by_cases z:9223372036854775808<=u
    ·have d:decide ((u:Int)>=(9223372036854775808:Int))=true:=Ah (by omega);simp [F366,d,z,ac2]
    ·have d:decide ((u:Int)>=(9223372036854775808:Int))=false:=Al (by omega);simp [F366,d,z,m,mkV]
   | true=>
    by_cases z:9223372036854775808<u
    ·have d:decide ((u:Int)>(9223372036854775808:Int))=true:=Ah (by omega);simp [F366,d,z,ac2]
    ·have d:decide ((u:Int)>(9223372036854775808:Int))=false:=Al (by omega);rw [show (0-(u:Int))=-(u:Int) by omega] at H;simp [F366,d,z,H,mkV]
  ·rw [fits4] at m;cases o with
   | true=>simp [F366,ac2]
   | false=>
    by_cases z:4294967296<=u
    ·have d:decide ((u:Int)<(4294967296:Int))=false:=Al (by omega);rw [d] at m;simp [F366,z,m,ac2]
    ·have d:decide ((u:Int)<(4294967296:Int))=true:=Ah (by omega);rw [d] at m;simp [F366,z,m,mkV]
end Go.Ab
namespace Go.Ab
open Go
set_option maxRecDepth 100000
theorem bay (l:Bq):F141 0 (45::l) [45]=some l:=by
 unfold F141 F245 F297;have d:decide (((45::l:Bq).length:Int)>=(([45]:Bq).length:Int))=true:=Ah (by simp;omega);have m:decide ((0:Int)<=0/\(0:Int)<=(([45]:Bq).length:Int)/\(([45]:Bq).length:Int)<=((45::l:Bq).length:Int))=true:=Ah (by simp;omega);have o:decide ((0:Int)<=(([45]:Bq).length:Int)/\(([45]:Bq).length:Int)<=((45::l:Bq).length:Int)/\((45::l:Bq).length:Int)<=((45::l:Bq).length:Int))=true:=Ah (by simp;omega);have z:(((45::l:Bq).take ((([45]:Bq).length:Int)).toNat).drop (0:Int).toNat==([45]:Bq))=true:=by simp
 have H:((45::l:Bq).take ((45::l:Bq).length:Int).toNat).drop ((([45]:Bq).length:Int)).toNat=l:=by rw [show (((45::l:Bq).length:Int)).toNat=(45::l:Bq).length from Ag _,List.take_length];rfl
 simp only [d,m,o,z,H,imp,Ad,Aa]
theorem baz (c:UInt8) (l:Bq) (z:c≠45):F141 0 (c::l) [45]=some (c::l):=by
 unfold F141 F245 F297;have d:decide (((c::l:Bq).length:Int)>=(([45]:Bq).length:Int))=true:=Ah (by simp;omega);have m:decide ((0:Int)<=0/\(0:Int)<=(([45]:Bq).length:Int)/\(([45]:Bq).length:Int)<=((c::l:Bq).length:Int))=true:=Ah (by simp;omega);have o:(((c::l:Bq).take ((([45]:Bq).length:Int)).toNat).drop (0:Int).toNat==([45]:Bq))=false:=by simp [z]
 simp only [d,m,o,imp,Ad,Ae,Aa]
theorem a8p (s:Bq) (M:∀ c,c∈s->akg c) (X:s.length<=1048576):∀ (m i:Nat),s.length-i<=m->i<=s.length->
 aaz (S357_6step 0) (s,(s.length:Int),(i:Int))=some (.inr ()):=by
 intro m
 induction m with
 | zero=>
  intro i U O
  have d:¬i<s.length:=by omega
  exact aac (by simp only [S357_6step,S357_6,abh,d,decide_false,Ae])
 | succ m W=>
  intro i U O
  by_cases d:i<s.length
  ·have o:akg (s.getD i 0):=M _ (by rw [aiu d];exact List.getElem_mem _);generalize V:s.getD i 0=c at o;unfold akg at o;have z:decide ((c.toNat:Int)<(48:Int))=false:=Al (by omega);have H:decide ((c.toNat:Int)>(57:Int))=false:=Al (by omega);rw [aan (x1:=(s,(s.length:Int),((i+1:Nat):Int))),W (i+1) (by omega) (by omega)];simp only [S357_6step,S357_6,abh,aab,d,decide_true,Ad,Ag,V,z,H,imp,Aj,Ae,aj0 (i:=i) (by omega)]
  ·exact aac (by simp only [S357_6step,S357_6,abh,d,decide_false,Ae])
theorem ap8 (m:Bool) (u:Nat) (hu:u<18446744073709551616):F357 0 (signed m (Lib.decDigits u))=some (!(m&&decide (u=0))):=by
 obtain ⟨O,h2,Z,h4⟩:=aht u;have X:=anu u hu;have d:=a8p (Lib.decDigits u) O (by omega) (Lib.decDigits u).length 0 (by omega) (by omega);have z:u=0->Lib.decDigits u=[48]:=λh=>by subst h;rw [Lib.decDigits];rfl
 generalize Lib.decDigits u=s at*;match s,Z with
 | c::r,_=>
  have U:=O c (by simp);unfold akg at U;have M:c≠45:=λh=>by subst h;simp at U
  have W:aaa (0:Int) (c::r).length=true:=by rw [show (0:Int)=((0:Nat):Int) from rfl,aab];exact Ah (by simp)
  have V:((c::r).getD (0:Int).toNat 0)=c:=rfl;have Y:((c::r)==([]:Bq))=false:=rfl;rw [show ((0:Nat):Int)=(0:Int) from rfl] at d;have ht:F141 0 (signed m (c::r)) [45]=some (c::r):=by
   cases m with
   | true=>exact bay _
   | false=>exact baz c r M
  unfold F357;rw [ht];by_cases o:u=0
  ·have z:=z o;simp at z;obtain ⟨rfl,rfl⟩:=z;cases m with
   | true=>simp only [signed,A6,Aa];rw [o];rfl
   | false=>have H:((([48]:Bq))==[48])=true:=rfl;simp only [signed,A2,A7,Aa,Y,W,imp,Aj,Ad,Ae,V,H,Am,aag,aal,d,aa7,Bool.false_and]
  ·have:=h4 o c rfl;have hk:((c.toNat:Int)==(48:Int))=false:=by simp;omega
   simp only [Aa,Y,W,imp,Aj,Ad,Ae,V,hk,aal,d,aa7,o,decide_false,Bool.and_false]
theorem a7r (b:Int):F250 0 3 b=some true:=rfl
theorem a7s (b:Int):F250 0 4 b=some (decide (b<=4294967295)):=rfl
theorem aqt (d:Bool) (u:Nat) (m:u<18446744073709551616):(signed d (Lib.decDigits u)).length<=21:=by
 have:=anu u m;unfold signed;split
 ·simp;omega
 ·omega
theorem al8 (s:Bq) (d:s.length<=1048576):afw 0 s 10 64=some (al4 s (Lib.parseIntB 64 s)):=by unfold afw;have:Nat.ble s.length 281474976710656=true:=Nat.ble_eq_true_of_le (by omega);simp [this]
theorem agz (s:Bq) (d:s.length<=1048576):acl 0 s 10 64=some (abu (Lib.parseUintB 64 s)):=by unfold acl;have:Nat.ble s.length 281474976710656=true:=Nat.ble_eq_true_of_le (by omega);simp [this]
theorem a5u (k:Int) (O:k=3\/k=4) (m:Bool) (u:Nat) (z:u<18446744073709551616):F309 0 k (signed m (Lib.decDigits u))=some (numV k m u):=by
 have V:=aqt m u z;unfold F309 numV;rw [ap8 m u z,al8 _ (by omega),agz _ (by omega)];by_cases H:m=true/\u=0
 ·obtain ⟨rfl,rfl⟩:=H;rfl
 ·have U:(m&&decide (u=0))=false:=by
   cases m with
   | false=>rfl
   | true=>simp at H;simp [H]
  rw [if_neg H,U];have M:IntKind.wrap .u64 (u:Int)=(u:Int):=by rw [IntKind.wrap_u64];omega
  rcases O with rfl | rfl
  ·cases m with
   | false=>
    have e:signed false (Lib.decDigits u)=Lib.decDigits u:=rfl;rw [e,amb z];by_cases o:9223372036854775808<=u
    ·simp [o,al4,ac2]
    ·simp [o,al4,a7r,M,mkV]
   | true=>
    have e:signed true (Lib.decDigits u)=45::Lib.decDigits u:=rfl;rw [e,amc z];by_cases o:9223372036854775808<u
    ·simp [o,al4,ac2]
    ·simp [o,al4,a7r,mkV]
  ·cases m with
   | true=>have e:signed true (Lib.decDigits u)=45::Lib.decDigits u:=rfl;rw [e,akt];simp [abu,ac2]
   | false=>
    have e:signed false (Lib.decDigits u)=Lib.decDigits u:=rfl;rw [e,aen z];by_cases o:4294967296<=u
    ·have d:decide ((u:Int)<=(4294967295:Int))=false:=Al (by omega);simp [o,abu,a7s,d,ac2]
    ·have d:decide ((u:Int)<=(4294967295:Int))=true:=Ah (by omega);simp [o,abu,a7s,d,mkV]
theorem a9y (k:Int) (M:k=3\/k=4) (d:Bool) (u:Nat) (O:u<18446744073709551616):F239 0 k (signed d (Lib.decDigits u))=some (numV k d u):=by
 have h:=a5u k M d u O;unfold F239;rcases M with rfl | rfl
 ·have z:F248 0 3=some true:=rfl;have H:F307 0 3=some false:=rfl;have m:((3:Int)==1)=false:=rfl;have o:((3:Int)==6)=false:=rfl;simp only [z,H,m,o,h,Aa,Am,Ae]
 ·have z:F248 0 4=some true:=rfl;have H:F307 0 4=some false:=rfl;have m:((4:Int)==1)=false:=rfl;have o:((4:Int)==6)=false:=rfl;simp only [z,H,m,o,h,Aa,Am,Ae]
theorem axm (k:Int) (O:k=3\/k=4) (d:Bool) (u:Nat) (U:u<18446744073709551616):F242 0 k (signed d (Lib.decDigits u))=some (numV k d u):=by
 have h:=axo k O d u U;unfold F242;rcases O with rfl | rfl
 ·have M:F256 0 3=some true:=rfl;have m:((3:Int)==1)=false:=rfl;have o:((3:Int)==6)=false:=rfl;have z:((3:Int)==7)=false:=rfl;have H:((3:Int)==8)=false:=rfl;simp only [M,m,o,z,H,h,Aa,Am,Ae]
 ·have M:F256 0 4=some true:=rfl;have m:((4:Int)==1)=false:=rfl;have o:((4:Int)==6)=false:=rfl;have z:((4:Int)==7)=false:=rfl;have H:((4:Int)==8)=false:=rfl;simp only [M,m,o,z,H,h,Aa,Am,Ae]
end Go.Ab
namespace Go.Ab
open Go
end Go.Ab
namespace Go.Ab
open Go
set_option maxRecDepth 100000
theorem a5f {Y z Z:Type}{d:Y->Option (Y⊕Z)}{o:z->Option (z⊕Z)} (m:Y->Nat) (R:Y->z->Prop) (Q:Z->Prop)
 (h:∀ x y,R x y->(∃ V X,d x=some (.inl V)/\o y=some (.inl X)/\R V X/\m V<m x)\/(∃ r,d x=some (.inr r)/\o y=some (.inr r)/\Q r)):
 ∀ x y,R x y->∃ r,aaz d x=some r/\aaz o y=some r/\Q r:=by
 have H:∀ n x y,m x<=n->R x y->∃ r,aaz d x=some r/\aaz o y=some r/\Q r:=by
  intro n;induction n with
  | zero=>
   intro x y hm W;rcases h x y W with ⟨V,X,M,O,U,h4⟩ | ⟨r,M,O,U⟩
   ·omega
   ·exact ⟨r,aac M,aac O,U⟩
  | succ n ih=>
   intro x y hm W;rcases h x y W with ⟨V,X,M,O,U,h4⟩ | ⟨r,M,O,U⟩
   ·rw [aan M,aan O];exact ih V X (by omega) U
   ·exact ⟨r,aac M,aac O,U⟩
 exact λx y W=>H (m x) x y (Nat.le_refl _) W
theorem bneE {d:Type} [BEq d] [LawfulBEq d] {a b:d} (h:a=b):(a != b)=false:=by subst h;simp
def ad6 (t:PV):Int:=(t.fld 0).asInt
def agn (t:PV):Bq:=(t.fld 1).asStr
def sgn (t:List PV) (i:Nat) (s:Bq):Bool:=decide (i<t.length)&&((ad6 (t.getD i .bad)==4)&&(agn (t.getD i .bad)==s))
theorem auj (t:List PV) (i:Nat) (s:Bq):F77 0 t (i:Int) s=some (sgn t i s):=by
 unfold F77 sgn;have m:decide ((i:Int)>=0)=true:=Ah (by omega);have o:((t.getD i .bad).fld 0).asInt=ad6 (t.getD i .bad):=rfl;have z:((t.getD i .bad).fld 1).asStr=agn (t.getD i .bad):=rfl;by_cases d:i<t.length
 ·simp only [m,abh,d,decide_true,Ad,imp,aab,Ag,o,z,Bool.true_and];cases (ad6 (t.getD i .bad)==4)<;>simp
 ·simp only [m,abh,d,decide_false,Ad,Ae,imp,Aj,Bool.false_and,aag]
theorem axx (t:List PV) (a:Int) (s:Bq):F343 0 t a s=F77 0 t a s:=rfl
theorem a6v {t:List PV}{i:Nat}{s:Bq} (h:sgn t i s=true):i<t.length:=by unfold sgn at h;simp only [Ai,Ay] at h;exact h.1
theorem aew (t:List PV) (i:Nat):F158 0 t (i:Int)=some (if i<t.length then ad6 (t.getD i .bad) else 0):=by
 unfold F158;have o:decide ((i:Int)<0)=false:=Al (by omega);have z:((t.getD i .bad).fld 0).asInt=ad6 (t.getD i .bad):=rfl;by_cases d:i<t.length
 ·have m:decide ((i:Int)>=(t.length:Int))=false:=Al (by omega);simp only [o,m,Ae,aab,d,decide_true,Ad,Ag,z,A6]
 ·have m:decide ((i:Int)>=(t.length:Int))=true:=Ah (by omega);simp only [o,m,Ae,Ad,d,A7]
theorem bbz (n:Int):∃ u:Nat,u<18446744073709551616/\IntKind.wrap .u64 n=(u:Int):=by refine ⟨(n%18446744073709551616).toNat,by omega,?_⟩;rw [IntKind.wrap_u64];omega
theorem bbf (u:Nat) (z:u<18446744073709551616):F135 0 (u:Int) 10=some (Lib.decDigits u):=by
 have d:decide ((0:Int)<=(u:Int))=true:=Ah (by omega);have m:decide ((u:Int)<=18446744073709551615)=true:=Ah (by omega);have o:Lfmt 0 (u:Int) (10:Int)=some (decB u):=by
  first
   | (unfold az1;simp [d,m])
   | (unfold Lfmt;rw [Ah rfl,Ad];unfold az1;simp [d,m])
 unfold F135;rw [o,Aa,ahs (by omega)]
def RV (t:List PV) (i:Nat) (x:Option (PV×Int×Int)):Prop:=∃ v q e,x=some (v,q,e)/\(e=0->∃ j:Nat,q=(j:Int)/\i<j/\j<=t.length)
theorem bem (k:Int) (hk:k=3\/k=4) (t:List PV) (ht:t.length<=100000) (i:Nat) (hi:i<=100100):RV t i (F260 0 k t (i:Int))/\F371 0 t (i:Int) k=F260 0 k t (i:Int):=by
 have o:∀ (d:Bool) (j:Nat),j<=100101->i<=j->
  RV t i (bif ((if j<t.length then ad6 (t.getD j .bad) else 0) != (2:Int)) then some (ac2,(j:Int),(2:Int)) else
   bif aaa (j:Int) t.length then
   (F135 0 (IntKind.wrap .u64 ((t.getD (j:Int).toNat .bad).fld 2).asInt) (10:Int)).bind λz=>
   bif decide ((if d=true then [45] else ([]:Bq)).length+z.length<=aau) then
   (F239 0 k ((if d=true then [45] else ([]:Bq))++z)).bind λm=>
   bif (m.2 != (0:Int)) then some (ac2,(j:Int),m.2) else some (m.1,(IntKind.wrap .i64 ((j:Int)+(1:Int))),(0:Int))
   else none else none)/\
  (bif imp (!(decide ((j:Int)>=(t.length:Int)))) (aaa (j:Int) t.length) then
   bif (bif (decide ((j:Int)>=(t.length:Int))) then true else (((t.getD (j:Int).toNat .bad).fld 0).asInt != (2:Int))) then some (ac2,(j:Int),(2:Int)) else
   bif aaa (j:Int) t.length then
   (F379 0 (IntKind.wrap .u64 ((t.getD (j:Int).toNat .bad).fld 2).asInt)).bind λz=>
   bif decide ((if d=true then [45] else ([]:Bq)).length+z.length<=aau) then
   (F242 0 k ((if d=true then [45] else ([]:Bq))++z)).bind λm=>
   bif (m.2 != (0:Int)) then some (ac2,(j:Int),m.2) else some (m.1,(IntKind.wrap .i64 ((j:Int)+(1:Int))),(0:Int))
   else none else none else none)=
  (bif ((if j<t.length then ad6 (t.getD j .bad) else 0) != (2:Int)) then some (ac2,(j:Int),(2:Int)) else
   bif aaa (j:Int) t.length then
   (F135 0 (IntKind.wrap .u64 ((t.getD (j:Int).toNat .bad).fld 2).asInt) (10:Int)).bind λz=>
   bif decide ((if d=true then [45] else ([]:Bq)).length+z.length<=aau) then
   (F239 0 k ((if d=true then [45] else ([]:Bq))++z)).bind λm=>
   bif (m.2 != (0:Int)) then some (ac2,(j:Int),m.2) else some (m.1,(IntKind.wrap .i64 ((j:Int)+(1:Int))),(0:Int))
   else none else none):=by
  intro d j hj ab
  by_cases U:j<t.length
  ·have H:decide ((j:Int)>=(t.length:Int))=false:=Al (by omega);have e0:((t.getD j .bad).fld 0).asInt=ad6 (t.getD j .bad):=rfl;obtain ⟨u,V,Y⟩:=bbz ((t.getD j .bad).fld 2).asInt;have Z:=a3r u V;rw [ahs (by omega)] at Z;have aa:=anu u V;have hs:(if d=true then [45] else ([]:Bq))++Lib.decDigits u=signed d (Lib.decDigits u):=by cases d<;>rfl
   have hl:decide ((if d=true then [45] else ([]:Bq)).length+(Lib.decDigits u).length<=aau)=true:=afb (by cases d<;>simp<;>omega);simp only [U,A6,H,Aj,imp,Ad,Ae,aab,decide_true,Ag,e0,Y,bbf u V,Z,Aa,hl,hs,a9y k hk d u V,axm k hk d u V,and_true];by_cases M:ad6 (t.getD j .bad)=2
   ·have O:(ad6 (t.getD j .bad) != 2)=false:=bneE M;simp only [O,Ae];by_cases X:(numV k d u).2=0
    ·have W:((numV k d u).2 != 0)=false:=bneE X;refine ⟨_,_,_,by rw [W,Ae],λ_=>⟨j+1,aj0 (by omega),by omega,by omega⟩⟩
    ·have W:((numV k d u).2 != 0)=true:=bne_iff_ne.2 X;exact ⟨_,_,_,by rw [W,Ad],λh=>absurd h X⟩
   ·have O:(ad6 (t.getD j .bad) != 2)=true:=bne_iff_ne.2 M;exact ⟨_,_,_,by rw [O,Ad],λh=>by cases h⟩
  ·have H:decide ((j:Int)>=(t.length:Int))=true:=Ah (by omega);have O:((0:Int) != 2)=true:=rfl;simp only [U,A7,H,Am,imp,Ad,Ae,O,Aj,aag];exact ⟨⟨_,_,_,rfl,λh=>by cases h⟩,by trivial⟩
 unfold F260 F371;rw [axx,auj];simp only [Aa];cases hs:sgn t i [45] with
 | true=>obtain ⟨H,M⟩:=o true (i+1) (by omega) (by omega);have Y:IntKind.wrap .i64 ((i:Int)+1)=((i+1:Nat):Int):=aj0 (by omega);simp only [Ad,Y,aew,Aa];exact ⟨H,M⟩
 | false=>obtain ⟨H,M⟩:=o false i (by omega) (by omega);simp only [Ae,aew,Aa];exact ⟨H,M⟩
theorem a1e:F239 0 1 [116,114,117,101]=some (mkV 1 1,0):=rfl
theorem axf:F239 0 1 [102,97,108,115,101]=some (mkV 1 0,0):=rfl
theorem a2g (s:Bq) (h:s.length<=1048576) (k:Int):avh (PV.agg [(PV.int k),(PV.int (0:Int)),(PV.str s),(PV.slice []),(PV.slice []),(PV.slice []),(PV.slice [])]):=⟨Nat.zero_le _,h,(by show (0:Int)<=0;decide),(by show (0:Int)<18446744073709551616;decide)⟩
theorem ba6 (k:Int) (U:k=1\/k=7\/k=3\/k=4) (t:List PV) (ht:t.length<=100000) (i:Nat) (hi:i<=100100):
 RV t i (F159 0 k t (i:Int))/\F344 0 t (i:Int) k=F159 0 k t (i:Int):=by
 have e1:((t.getD i .bad).fld 1).asStr=agn (t.getD i .bad):=rfl
 have e0:((t.getD i .bad).fld 0).asInt=ad6 (t.getD i .bad):=rfl
 unfold F159 F344
 rcases U with rfl | rfl | U
 ·have V:((1:Int)==1)=true:=rfl;have c4:((1:Int)==4)=false:=rfl;have c3:((1:Int)==3)=false:=rfl;have W:((1:Int)==7)=false:=rfl;simp only [V,c4,c3,W,Ad,Ae,aew,Aa];by_cases m:i<t.length
  ·have H:decide ((i:Int)>=(t.length:Int))=false:=Al (by omega);simp only [m,A6,H,Ae,aab,decide_true,Ad,Ag,e0,e1,imp,aag];by_cases d:ad6 (t.getD i .bad)=1
   ·have o:(ad6 (t.getD i .bad)==1)=true:=Bo.2 d;have z:(ad6 (t.getD i .bad) != 1)=false:=bneE d;simp only [o,z,Ad,Ae];have Z:IntKind.wrap .i64 ((i:Int)+1)=((i+1:Nat):Int):=aj0 (by omega);by_cases M:agn (t.getD i .bad)=[116,114,117,101]
    ·have Y:(agn (t.getD i .bad)==[116,114,117,101])=true:=Bo.2 M;simp only [Y,Ad,Am,Ae,M,a1e,Aa,Z,and_true];exact ⟨⟨_,_,_,rfl,λ_=>⟨i+1,rfl,by omega,by omega⟩⟩,by trivial⟩
    ·have Y:(agn (t.getD i .bad)==[116,114,117,101])=false:=At.2 M;by_cases O:agn (t.getD i .bad)=[102,97,108,115,101]
     ·have b4:(agn (t.getD i .bad)==[102,97,108,115,101])=true:=Bo.2 O;simp only [Y,b4,Ad,Am,Aj,Ae,O,axf,Aa,Z];exact ⟨⟨_,_,_,rfl,λ_=>⟨i+1,rfl,by omega,by omega⟩⟩,by trivial⟩
     ·have b4:(agn (t.getD i .bad)==[102,97,108,115,101])=false:=At.2 O;simp only [Y,b4,Ad,Aj,Ae,Aa];exact ⟨⟨_,_,_,rfl,λh=>by cases h⟩,by trivial⟩
   ·have o:(ad6 (t.getD i .bad)==1)=false:=At.2 d;have z:(ad6 (t.getD i .bad) != 1)=true:=bne_iff_ne.2 d;simp only [o,z,Ad,Ae,aag,Am,Aj,Aa];exact ⟨⟨_,_,_,rfl,λh=>by cases h⟩,by trivial⟩
  ·have H:decide ((i:Int)>=(t.length:Int))=true:=Ah (by omega);have z1:((0:Int)==1)=false:=rfl;simp only [m,A7,H,Ad,Ae,z1,imp,Aj,aag,Aa];exact ⟨⟨_,_,_,rfl,λh=>by cases h⟩,by trivial⟩
 ·have V:((7:Int)==1)=false:=rfl;have c4:((7:Int)==4)=false:=rfl;have c3:((7:Int)==3)=false:=rfl;have W:((7:Int)==7)=true:=rfl;simp only [V,c4,c3,W,Ad,Ae,aew,Aa,imp,Aj,aag];by_cases m:i<t.length
  ·have H:decide ((i:Int)>=(t.length:Int))=false:=Al (by omega);simp only [m,A6,H,Ae,aab,decide_true,Ad,Ag,e0,e1];by_cases d:ad6 (t.getD i .bad)=3
   ·have o:(ad6 (t.getD i .bad)==3)=true:=Bo.2 d;have z:(ad6 (t.getD i .bad) != 3)=false:=bneE d;have Z:IntKind.wrap .i64 ((i:Int)+1)=((i+1:Nat):Int):=aj0 (by omega);simp only [o,z,Ad,Ae];by_cases hL:((agn (t.getD i .bad)).length:Int)>4096
    ·have b5:decide (((agn (t.getD i .bad)).length:Int)>4096)=true:=Ah hL;simp only [b5,Ad];exact ⟨⟨_,_,_,rfl,λh=>by cases h⟩,by trivial⟩
    ·have b5:decide (((agn (t.getD i .bad)).length:Int)>4096)=false:=Al hL;have X:=a2g (agn (t.getD i .bad)) (by omega) 7;simp only [b5,Ae,ayv _ _ X,ajt _ _ X,Aa,Z];cases amo 7 (PV.agg [(PV.int 7),(PV.int (0:Int)),(PV.str (agn (t.getD i .bad))),(PV.slice []),(PV.slice []),(PV.slice []),(PV.slice [])]) with
     | true=>exact ⟨⟨_,_,_,rfl,λ_=>⟨i+1,rfl,by omega,by omega⟩⟩,by trivial⟩
     | false=>exact ⟨⟨_,_,_,rfl,λh=>by cases h⟩,by trivial⟩
   ·have o:(ad6 (t.getD i .bad)==3)=false:=At.2 d;have z:(ad6 (t.getD i .bad) != 3)=true:=bne_iff_ne.2 d;simp only [o,z,Ad,Ae];exact ⟨⟨_,_,_,rfl,λh=>by cases h⟩,by trivial⟩
  ·have H:decide ((i:Int)>=(t.length:Int))=true:=Ah (by omega);have z1:((0:Int)==3)=false:=rfl;simp only [m,A7,H,Ad,Ae,z1];exact ⟨⟨_,_,_,rfl,λh=>by cases h⟩,by trivial⟩
 ·obtain ⟨n1,n2⟩:=bem k U t ht i hi;obtain ⟨v,q,e,d,hq⟩:=n1;rw [d] at n2;have V:(k==1)=false:=by rcases U with rfl | rfl<;>rfl
  have W:(k==7)=false:=by rcases U with rfl | rfl<;>rfl
  have aa:(bif (k==4) then true else (k==3))=true:=by rcases U with rfl | rfl<;>rfl
  simp only [V,W,aa,Ad,Ae,imp,Aj,aag,Aa,d,n2,and_true];exact ⟨_,_,_,rfl,hq⟩
theorem an6 {d:Bq} (h:aae d≠0):aae d=1\/aae d=7\/aae d=3\/aae d=4:=by
 by_cases m:d∈ado
 ·simp only [ado,Bl,List.not_mem_nil,or_false] at m;have e:∀ k:Int,(k=1\/k=7\/k=3\/k=4)->some (aae d)=some k->aae d=1\/aae d=7\/aae d=3\/aae d=4:=λk m o=>by cases o;exact m
  rcases m with rfl | rfl | rfl | rfl | rfl | rfl | rfl | rfl | rfl | rfl | rfl | rfl | rfl
  ·exact e 1 (by decide) (by kernel_rfl)
  ·exact e 1 (by decide) (by kernel_rfl)
  ·exact e 1 (by decide) (by kernel_rfl)
  ·exact e 7 (by decide) (by kernel_rfl)
  ·exact e 7 (by decide) (by kernel_rfl)
  ·exact e 7 (by decide) (by kernel_rfl)
  ·exact e 7 (by decide) (by kernel_rfl)
  ·exact e 4 (by decide) (by kernel_rfl)
  ·exact e 4 (by decide) (by kernel_rfl)
  ·exact e 4 (by decide) (by kernel_rfl)
  ·exact e 4 (by decide) (by kernel_rfl)
  ·exact e 3 (by decide) (by kernel_rfl)
  ·exact e 3 (by decide) (by kernel_rfl)
 ·exact absurd (aji m) h
def Pace (t:List PV) (x y:List PV×Int×List PV):Prop:=∃ (i:Nat) (d:List PV),i<=t.length/\d.length<=i/\x=(t,(i:Int),d)/\y=(t,((i+1:Nat):Int),d)
theorem a1l (t:List PV) (ht:t.length<=100000):∀ x y,Pace t x y->∃ r,aaz (S36_5step 0) x=some r/\aaz (S296_6step 0) y=some r/\r.1.length<=1048576:=by
 refine a5f (λx=>t.length-x.2.1.toNat) (Pace t) (λr:List PV×Int×Int=>r.1.length<=1048576) ?_;rintro _ _ ⟨i,d,hi,ad,rfl,rfl⟩;have hw:IntKind.wrap .i64 ((i:Int)+1)=((i+1:Nat):Int):=aj0 (by omega);have e1:((t.getD (i+1) .bad).fld 1).asStr=agn (t.getD (i+1) .bad):=rfl;have e0:((t.getD (i+1) .bad).fld 0).asInt=ad6 (t.getD (i+1) .bad):=rfl;simp only [S36_5step,S36_5,S296_6step,S296_6,F78,hw,aew,Aa,axx];by_cases m:i+1<t.length
 ·have O:decide (((i+1:Nat):Int)>=(t.length:Int))=false:=Al (by omega);simp only [m,A6,O,Ae,aab,decide_true,Ad,Ag,e0,e1,imp,aag];by_cases hn:ad6 (t.getD (i+1) .bad)=1
  ·have z:(ad6 (t.getD (i+1) .bad) != 1)=false:=bneE hn;simp only [z,Ae,a4w,a1n,Aa];by_cases W:aae (agn (t.getD (i+1) .bad))=0
   ·have H:(aae (agn (t.getD (i+1) .bad))==0)=true:=Bo.2 W;simp only [H,Ad,Aa];exact .inr ⟨_,rfl,rfl,by simp⟩
   ·have H:(aae (agn (t.getD (i+1) .bad))==0)=false:=At.2 W;have Y:IntKind.wrap .i64 (((i+1:Nat):Int)+1)=((i+2:Nat):Int):=aj0 (by omega);have Z:IntKind.wrap .i64 (((i+1:Nat):Int)+2)=((i+3:Nat):Int):=by
     rw [show ((i+1:Nat):Int)+2=((i+3:Nat):Int) by omega];exact ago (by omega)
    have aa:IntKind.wrap .i64 (((i+2:Nat):Int)+1)=((i+3:Nat):Int):=aj0 (by omega);simp only [H,Ae,Y,auj,Aa];cases hs:sgn t (i+2) [61] with
    | false=>have hm:(if (t.length:Int)<((i+2:Nat):Int) then (t.length:Int) else ((i+2:Nat):Int))=((i+2:Nat):Int):=if_neg (by omega);simp only [Aj,Ad,Aa,hm];exact .inr ⟨_,rfl,rfl,by simp⟩
    | true=>
     have ae:=a6v hs;obtain ⟨⟨v,q,e,hv,hq⟩,o⟩:=ba6 _ (an6 W) t ht (i+3) (by omega);rw [hv] at o;simp only [Am,Ae,Z,aa,hv,o,Aa];by_cases U:e=0
     ·obtain ⟨j,rfl,af,V⟩:=hq U;have M:(e != 0)=false:=bneE U;have l3:∀ x:PV,decide (d.length+[x].length<=aaf)=true:=λx=>Ah (by unfold aaf;simp;omega);have ab:IntKind.wrap .i64 ((j:Int)+1)=((j+1:Nat):Int):=aj0 (by omega);simp only [M,Ae,l3,Ad,auj,Aa,ab];cases ag:sgn t j [93] with
      | true=>exact .inr ⟨_,rfl,rfl,by simp;omega⟩
      | false=>
       cases X:sgn t j [44] with
       | true=>refine .inl ⟨_,_,rfl,rfl,⟨j,d++[PV.agg [PV.str (agn (t.getD (i+1) .bad)),v]],V,by simp;omega,rfl,rfl⟩,?_⟩;have:=a6v X;simp only [Ag];omega
       | false=>exact .inr ⟨_,rfl,rfl,by simp⟩
     ·have M:(e != 0)=true:=bne_iff_ne.2 U;simp only [M,Ad];exact .inr ⟨_,rfl,rfl,by simp⟩
  ·have z:(ad6 (t.getD (i+1) .bad) != 1)=true:=bne_iff_ne.2 hn;simp only [z,Ad,Aa];exact .inr ⟨_,rfl,rfl,by simp⟩
 ·have O:decide (((i+1:Nat):Int)>=(t.length:Int))=true:=Ah (by omega);have z1:((0:Int) != 1)=true:=rfl;simp only [m,A7,O,Ad,z1,imp,Am,Ae,Aj,Aa,aag];exact .inr ⟨_,rfl,rfl,by simp⟩
theorem bc0 (t:List PV) (U:t.length<=100000) (a:Int):∃ r,F36 0 t a=some r/\F296 0 t a=some r/\r.1.length<=1048576:=by
 unfold F36 F296;rw [axx];by_cases W:0<=a
 ·obtain ⟨i,rfl⟩:∃ i:Nat,a=(i:Int):=⟨a.toNat,by omega⟩;rw [auj];cases O:sgn t i [91] with
  | false=>exact ⟨_,rfl,rfl,by simp⟩
  | true=>
   have M:=a6v O;have V:IntKind.wrap .i64 ((i:Int)+1)=((i+1:Nat):Int):=aj0 (by omega);obtain ⟨r,m,o,z⟩:=a1l t U _ _ ⟨i,[],by omega,by simp,rfl,rfl⟩;refine ⟨r,?_,?_,z⟩
   ·simp only [Aa,Am,Ae,aal,m]
   ·simp only [Aa,Am,Ae,aal,V,o]
 ·have H:F77 0 t a [91]=some false:=by
   unfold F77;have d:decide (a>=0)=false:=Al (by omega);simp only [d,Ae,imp,Aj,Ad,aag]
  rw [H];exact ⟨_,rfl,rfl,by simp⟩
end Go.Ab
namespace Go.Ab
open Go
set_option maxRecDepth 100000
noncomputable section
structure Tk where
 k:Int
 s:Bq
 n:Int
def tkOf (x:PV):Tk:=⟨(x.fld 0).asInt,(x.fld 1).asStr,(x.fld 2).asInt⟩
inductive Rs (α:Type) where
 | ok (v:α) (r:List Tk)
 | er (r:List Tk) (e:Int)
def Rs.bind {d m:Type} (x:Rs d) (f:d->List Tk->Rs m):Rs m:=match x with | .ok v r=>f v r | .er r e=>.er r e
theorem Rs.bind_ok {d m:Type} (v:d) (r:List Tk) (f:d->List Tk->Rs m):(Rs.ok v r).bind f=f v r:=rfl
theorem Rs.bind_er {d m:Type} (r:List Tk) (e:Int) (f:d->List Tk->Rs m):(Rs.er r e:Rs d).bind f=.er r e:=rfl
def isS (k:Int) (s:Bq):List Tk->Bool
 | []=>false
 | x::_=>x.k==k&&x.s==s
def aaw:List Tk->Int
 | []=>0
 | x::_=>x.k
def abr:List Tk->Bq
 | []=>[]
 | x::_=>x.s
def aoq:List Tk->Int
 | []=>0
 | x::_=>x.n
def eatS (k:Int) (s:Bq) (ts:List Tk):Rs Unit:=bif isS k s ts then .ok () ts.tail else .er ts 2
def ae9 (k:Int) (p:Bq->Bool) (ts:List Tk):Rs Bq:=
 bif aaw ts==k then (bif p (abr ts) then .ok (abr ts) ts.tail else .er ts 8) else .er ts 2
def ai9 (ts:List Tk):Rs Bq:=ae9 1 asz ts
def akj (d s:Bq):Bq:=bif d==[] then s else d++[46]++s
def ahi (d s:Bq):Bool:=defP s&&(d==[]||(acj s&&ae2 (akj d s)))
def afk (d:Bq) (ts:List Tk):Rs Bq:=(ae9 1 (ahi d) ts).bind λs r=>.ok (akj d s) r
def ack (ts:List Tk):Rs Bq:=ae9 1 aik ts
def adz (w:Bq):Int:=
 bif w==[98,111,111,108] then 1 else bif w==[105,51,50] then 2 else bif w==[105,54,52] then 3 else bif w==[117,51,50] then 4 else bif w==[117,54,52] then 5 else bif w==[100,111,117,98,108,101] then 6 else bif w==[116,101,120,116] then 7 else bif w==[98,121,116,101,115] then 8 else 0
def tyOf (s:Bq):PV:=bif adz s==0 then PV.agg [PV.int 0,PV.str s] else PV.agg [PV.int (adz s),PV.str []]
def typS (ts:List Tk):Rs PV:=(ack ts).bind λs r=>.ok (tyOf s) r
def abd (ts:List Tk):Rs Bq:=ae9 3 (λ_=>true) ts
def numS (d:Int) (ts:List Tk):Rs Int:=
 bif aaw ts==2 then (bif decide (0<=aoq ts/\aoq ts<=d) then .ok (aoq ts) ts.tail else .er ts 6) else .er ts 2
def valS (pv:PV×Int) (d r:List Tk):Rs PV:=bif pv.2==0 then .ok pv.1 r else .er d pv.2
def an5 (s:Bq):PV:=PV.agg [(PV.int 9),(PV.int 0),(PV.str s),(PV.slice []),(PV.slice []),(PV.slice []),(PV.slice [])]
def intS (pv:Int->Bq->PV×Int) (k:Int) (d:Bool) (ts:List Tk):Rs PV:=
 bif aaw ts==2 then valS (pv k ((bif d then [45] else [])++decB (IntKind.wrap .u64 (aoq ts)).toNat)) ts ts.tail else .er ts 2
def litS (pv:Int->Bq->PV×Int) (k:Int) (ts:List Tk):Rs PV:=
 bif k==0 then (ai9 ts).bind λs r=>.ok (an5 s) r
 else bif k==1 then (bif isS 1 [116,114,117,101] ts||isS 1 [102,97,108,115,101] ts then valS (pv k (abr ts)) ts ts.tail else .er ts 2)
 else bif k==6||k==8 then (abd ts).bind λs r=>valS (pv k s) ts r
 else bif k==7 then (abd ts).bind λs r=>valS (pv k (aa4 s)) ts r
 else bif isS 4 [45] ts then intS pv k true ts.tail else intS pv k false ts
def aci (k b:Int) (s:Bq):PV:=PV.agg [(PV.int k),(PV.int b),(PV.str s),(PV.slice []),(PV.slice []),(PV.slice []),(PV.slice [])]
def ag5 (pv:Int->Bq->PV×Int) (k:Int) (ts:List Tk):Rs PV:=
 bif k==1 then (bif isS 1 [116,114,117,101] ts then .ok (aci 1 1 []) ts.tail else bif isS 1 [102,97,108,115,101] ts then .ok (aci 1 0 []) ts.tail else .er ts 2)
 else bif k==7 then (bif aaw ts==3 then (bif decide ((abr ts).length>4096) then .er ts 3 else bif valid (abr ts) then .ok (aci 7 0 (abr ts)) ts.tail else .er ts 7) else .er ts 2)
 else bif isS 4 [45] ts then intS pv k true ts.tail else intS pv k false ts
def apr (pv:Int->Bq->PV×Int) (kd:Bq->Int) (ts:List Tk):Rs PV:=
 bif aaw ts==1 then
  bif kd (abr ts)==0 then .er ts 8
  else (eatS 4 [61] ts.tail).bind λ_ r=>(ag5 pv (kd (abr ts)) r).bind λv r=>.ok (PV.agg [PV.str (abr ts),v]) r
 else .er ts 2
def ac9 (pv:Int->Bq->PV×Int) (kd:Bq->Int) (ts:List Tk) (d:List PV):Rs (List PV):=
 (apr pv kd ts).bind λn r=>
  bif isS 4 [93] r then .ok (d++[n]) r.tail
  else bif isS 4 [44] r then (if h:r.tail.length<ts.length then ac9 pv kd r.tail (d++[n]) else .er r 0)
  else .er r 2
termination_by ts.length
decreasing_by all_goals (simp only [List.length_tail] at *;omega)
def acw (pv:Int->Bq->PV×Int) (kd:Bq->Int) (ts:List Tk):Rs (List PV):=
 bif isS 4 [91] ts then ac9 pv kd ts.tail [] else .ok [] ts
def abn:PV:=PV.agg [(PV.int 0),(PV.int 0),(PV.str []),(PV.slice []),(PV.slice []),(PV.slice []),(PV.slice [])]
def agx (m:Int) (H:Bq) (card key:Int) (M:PV) (O:Bq) (z:Bool) (o:PV) (d:List PV):PV:=
 PV.agg [PV.int m,PV.str H,PV.int card,PV.int key,M,PV.str O,PV.bool z,o,PV.slice d]
section
variable (pv:Int->Bq->PV×Int) (kd:Bq->Int)
def ari (d:Bool) (k:Int) (ts:List Tk):Rs (Bool×PV):=bif d&&isS 1 [100,101,102,97,117,108,116] ts then (litS pv k ts.tail).bind λv r=>.ok (true,v) r else .ok (false,abn) ts
def ag9 (card key:Int) (m:PV) (W:Bq) (X:Bool) (ts:List Tk):Rs PV:=
 (ai9 ts).bind λo z=>(eatS 4 [61] z).bind λ_ H=>(numS 65535 H).bind λn M=>(ari pv X (m.fld 0).asInt M).bind λd O=>
 (acw pv kd O).bind λl U=>(eatS 4 [59] U).bind λ_ V=>.ok (agx n o card key m W d.1 d.2 l) V
def af3 (w:Bq):Int:=bif w==[114,101,113,117,105,114,101,100] then 1 else bif w==[111,112,116,105,111,110,97,108] then 2 else bif w==[112,108,97,105,110] then 3 else bif w==[108,105,115,116] then 4 else 0
def afh (ts:List Tk):Rs PV:=
 bif isS 1 [109,97,112] ts then (eatS 4 [60] ts.tail).bind λ_ r=>
  bif aaw r==1&&!(adz (abr r)==0) then (eatS 4 [44] r.tail).bind λ_ m=>(typS m).bind λd o=>(eatS 4 [62] o).bind λ_ z=>ag9 pv kd 5 (adz (abr r)) d [] false z
  else .er r 2
 else bif aaw ts==1&&!(af3 (abr ts)==0) then (typS ts.tail).bind λd r=>ag9 pv kd (af3 (abr ts)) 0 d [] true r
 else .er ts 2
def abz (o:Bq) (ts:List Tk) (d:List PV):Rs (List PV):=
 (typS ts).bind λz r=>(ag9 pv kd 2 0 z o false r).bind λx m=>
  bif isS 4 [125] m then .ok (d++[x]) m.tail else if h:m.length<ts.length then abz o m (d++[x]) else .er m 0
termination_by ts.length
def aq2 (ts:List Tk):Rs (List PV):=(eatS 1 [117,110,105,111,110] ts).bind λ_ r=>(ai9 r).bind λo d=>(eatS 4 [123] d).bind λ_ m=>abz pv kd o m []
def avk (d:Int) (ts:List Tk):Rs PV:=(numS d ts).bind λa r=>(bif isS 4 [45] r then numS d r.tail else .ok a r).bind λb m=>.ok (PV.agg [PV.int a,PV.int b]) m
def adh (d:Int) (ts:List Tk) (m:List PV):Rs (List PV):=
 (avk d ts).bind λx o=>
  bif isS 4 [59] o then .ok (m++[x]) o.tail
  else (eatS 4 [44] o).bind λ_ z=>if h:z.length<ts.length then adh d z (m++[x]) else .er z 0
termination_by ts.length
def ake (ts:List Tk) (d:List PV):Rs (List PV):=
 (abd ts).bind λs m=>
  bif isS 4 [59] m then .ok (d++[PV.str s]) m.tail
  else (eatS 4 [44] m).bind λ_ o=>if h:o.length<ts.length then ake o (d++[PV.str s]) else .er o 0
termination_by ts.length
def a4s (ts:List Tk):Rs PV:=
 (ai9 ts).bind λd m=>(eatS 4 [61] m).bind λ_ o=>(numS 2147483647 o).bind λn z=>(acw pv kd z).bind λl H=>(eatS 4 [59] H).bind λ_ M=>.ok (PV.agg [PV.str d,PV.int n,PV.slice l]) M
def ad3 (ts:List Tk) (d rs:List PV):Rs (List PV×List PV):=
 bif isS 4 [125] ts then .ok (d,rs) ts.tail
 else bif isS 1 [114,101,115,101,114,118,101,100] ts then (adh 2147483647 ts.tail []).bind λl r=>if h:r.length<ts.length then ad3 r d (rs++l) else .er r 0
 else (a4s pv kd ts).bind λx r=>if h:r.length<ts.length then ad3 r (d++[x]) rs else .er r 0
termination_by ts.length
def an1 (d:Bq) (ts:List Tk):Rs PV:=
 (eatS 1 [101,110,117,109] (bif isS 1 [111,112,101,110] ts then ts.tail else ts)).bind λ_ r=>(afk d r).bind λm o=>(acw pv kd o).bind λl z=>(eatS 4 [123] z).bind λ_ H=>
  (ad3 pv kd H [] []).bind λx M=>.ok (PV.agg [PV.str m,PV.bool (isS 1 [111,112,101,110] ts),PV.slice x.1,PV.slice x.2,PV.slice l]) M
structure MB where
 fs:List PV
 rs:List PV
 gs:List PV
 ms:List PV
 es:List PV
def aca (m:Bq->List PV->List PV->List Tk->Rs (List PV×List PV)) (d:Bq) (ts:List Tk) (b:MB):Rs MB:=
 bif isS 4 [125] ts then .ok b ts.tail
 else bif isS 1 [117,110,105,111,110] ts then (aq2 pv kd ts).bind λl r=>if h:r.length<ts.length then aca m d r { b with fs:=b.fs++l } else .er r 0
 else bif isS 1 [109,101,115,115,97,103,101] ts then (m d b.ms b.es ts).bind λx r=>if h:r.length<ts.length then aca m d r { b with ms:=x.1,es:=x.2 } else .er r 0
 else bif isS 1 [101,110,117,109] ts||isS 1 [111,112,101,110] ts then (an1 pv kd d ts).bind λx r=>if h:r.length<ts.length then aca m d r { b with es:=b.es++[x] } else .er r 0
 else bif isS 1 [114,101,115,101,114,118,101,100] ts then
  (bif aaw ts.tail==3 then (ake ts.tail []).bind λl r=>if h:r.length<ts.length then aca m d r { b with gs:=b.gs++l } else .er r 0
   else (adh 65535 ts.tail []).bind λl r=>if h:r.length<ts.length then aca m d r { b with rs:=b.rs++l } else .er r 0)
 else (afh pv kd ts).bind λx r=>if h:r.length<ts.length then aca m d r { b with fs:=b.fs++[x] } else .er r 0
termination_by ts.length
def ag2 (m:Bq) (fs rs gs d:List PV):PV:=PV.agg [PV.str m,PV.slice fs,PV.slice rs,PV.slice gs,PV.slice d]
def msgS:Nat->Bq->List PV->List PV->List Tk->Rs (List PV×List PV)
 | 0,_,_,_,ts=>.er ts 17
 | d+1,outer,ms,es,ts=>(eatS 1 [109,101,115,115,97,103,101] ts).bind λ_ r=>(afk outer r).bind λm o=>(acw pv kd o).bind λl z=>(eatS 4 [123] z).bind λ_ H=>(aca pv kd (msgS d) m H ⟨[],[],[],ms++[ag2 m [] [] [] []],es⟩).bind λb M=>.ok (b.ms.set ms.length (ag2 m b.fs b.rs b.gs l),b.es) M
def avd (ts:List Tk):Rs (Bool×Bq):=(eatS 4 [40] ts).bind λ_ r=>(ack (bif isS 1 [115,116,114,101,97,109] r then r.tail else r)).bind λs d=>(eatS 4 [41] d).bind λ_ m=>.ok (isS 1 [115,116,114,101,97,109] r,s) m
def bda (a b:Bool):Int:=bif a&&b then 4 else bif a then 3 else bif b then 2 else 1
def rpcS (ts:List Tk):Rs PV:=
 (eatS 1 [114,112,99] ts).bind λ_ r=>(ai9 r).bind λd m=>(avd m).bind λa o=>(eatS 1 [114,101,116,117,114,110,115] o).bind λ_ z=>(avd z).bind λb H=>(acw pv kd H).bind λl M=>(eatS 4 [59] M).bind λ_ O=>
  .ok (PV.agg [PV.str d,PV.str a.2,PV.str b.2,PV.int (bda a.1 b.1),PV.slice l]) O
def ak0 (ts:List Tk) (d:List PV):Rs (List PV):=
 bif isS 4 [125] ts then .ok d ts.tail
 else (rpcS pv kd ts).bind λx r=>if h:r.length<ts.length then ak0 r (d++[x]) else .er r 0
termination_by ts.length
def svcS (ts:List Tk):Rs PV:=
 (eatS 1 [115,101,114,118,105,99,101] ts).bind λ_ r=>(afk [] r).bind λd m=>(acw pv kd m).bind λl o=>(eatS 4 [123] o).bind λ_ z=>(ak0 pv kd z []).bind λx H=>.ok (PV.agg [PV.str d,PV.slice x,PV.slice l]) H
def ac4 (ts:List Tk) (d:List PV):Rs (List PV):=
 bif isS 1 [105,109,112,111,114,116] ts then (abd ts.tail).bind λs r=>(eatS 4 [59] r).bind λ_ m=>if h:m.length<ts.length then ac4 m (d++[PV.str s]) else .er m 0
 else .ok d ts
termination_by ts.length
structure FB where
 ms:List PV
 es:List PV
 ss:List PV
def afs (ts:List Tk) (b:FB):Rs FB:=
 bif ts.isEmpty then .ok b ts
 else bif isS 1 [109,101,115,115,97,103,101] ts then (msgS pv kd 16 [] b.ms b.es ts).bind λx r=>if h:r.length<ts.length then afs r { b with ms:=x.1,es:=x.2 } else .er r 0
 else bif isS 1 [101,110,117,109] ts||isS 1 [111,112,101,110] ts then (an1 pv kd [] ts).bind λx r=>if h:r.length<ts.length then afs r { b with es:=b.es++[x] } else .er r 0
 else (svcS pv kd ts).bind λx r=>if h:r.length<ts.length then afs r { b with ss:=b.ss++[x] } else .er r 0
termination_by ts.length
def avj (ts:List Tk):Rs Bq:=bif isS 1 [115,112,97,99,101] ts then (ae9 1 defP ts.tail).bind λs r=>(eatS 4 [59] r).bind λ_ d=>.ok s d else .ok [] ts
def bcg (d:Bq) (ts:List Tk):Rs PV:=
 (avj ts).bind λH r=>(ac4 r []).bind λm o=>(afs pv kd o ⟨[],[],[]⟩).bind λb z=>.ok (PV.agg [PV.str d,PV.str H,PV.slice m,PV.slice b.ms,PV.slice b.es,PV.slice b.ss]) z
end
def Sh {d:Type} (x:Rs d) (ts:List Tk):Prop:=∀ v r,x=.ok v r->r.length<ts.length
def Sh0 {d:Type} (x:Rs d) (ts:List Tk):Prop:=∀ v r,x=.ok v r->r.length<=ts.length
theorem Sh.le {d:Type}{x:Rs d}{ts:List Tk} (h:Sh x ts):Sh0 x ts:=λv r e=>Nat.le_of_lt (h v r e)
theorem ac0 {d z:Type}{x:Rs d}{f:d->List Tk->Rs z}{ts:List Tk} (o:Sh x ts) (m:∀ v r,Sh0 (f v r) r):Sh (x.bind f) ts:=by
 intro v r h;cases x with
 | ok a q=>have:=o a q rfl;have:=m a q v r h;omega
 | er=>cases h
theorem aa1 {d z:Type}{x:Rs d}{f:d->List Tk->Rs z}{ts:List Tk} (o:Sh0 x ts) (m:∀ v r,Sh0 (f v r) r):Sh0 (x.bind f) ts:=by
 intro v r h;cases x with
 | ok a q=>have:=o a q rfl;have:=m a q v r h;omega
 | er=>cases h
theorem aej {d:Type} (v:d) (r:List Tk):Sh0 (Rs.ok v r) r:=λ_ _ h=>by cases h;exact Nat.le_refl _
theorem alr {d:Type} (q r:List Tk) (e:Int):Sh (Rs.er q e:Rs d) r:=λ_ _ h=>by cases h
theorem ac5 {k:Int}{s:Bq}{ts:List Tk} (h:isS k s ts=true):ts.tail.length<ts.length:=by
 cases ts with
 | nil=>cases h
 | cons x r=>simp
theorem aiv {k:Int}{ts:List Tk} (h:(aaw ts==k)=true) (d:(k==0)=false):ts.tail.length<ts.length:=by
 cases ts with
 | nil=>simp only [aaw,Bo] at h;subst h;simp at d
 | cons x r=>simp
theorem aba (k:Int) (s:Bq) (ts:List Tk):Sh (eatS k s ts) ts:=by
 intro v r h;unfold eatS at h;cases d:isS k s ts with
 | true=>rw [d] at h;cases h;exact ac5 d
 | false=>rw [d] at h;cases h
theorem ao7 (k:Int) (m:(k==0)=false) (p:Bq->Bool) (ts:List Tk):Sh (ae9 k p ts) ts:=by
 intro v r h;unfold ae9 at h;cases d:(aaw ts==k) with
 | true=>
  rw [d] at h;cases o:p (abr ts)<;>simp only [o,Ad,Ae] at h
  ·cases h
  ·cases h;exact aiv d m
 | false=>rw [d] at h;cases h
theorem ajk (d:Int) (ts:List Tk):Sh (numS d ts) ts:=by
 intro v r h;unfold numS at h;cases m:(aaw ts==2) with
 | true=>
  rw [m] at h;cases o:decide (0<=aoq ts/\aoq ts<=d)<;>simp only [o,Ad,Ae] at h
  ·cases h
  ·cases h;exact aiv m rfl
 | false=>rw [m] at h;cases h
theorem afu (ts:List Tk):Sh (ai9 ts) ts:=ao7 1 rfl _ ts
theorem ag3 (o:Bq) (ts:List Tk):Sh (afk o ts) ts:=ac0 (ao7 1 rfl _ ts) λv r=>aej _ _
theorem aq1 (ts:List Tk):Sh (typS ts) ts:=ac0 (ao7 1 rfl _ ts) λv r=>aej _ _
theorem adn (ts:List Tk):Sh (abd ts) ts:=ao7 3 rfl _ ts
theorem azu {x:PV×Int}{d r ts:List Tk} (h:r.length<ts.length):Sh (valS x d r) ts:=by intro v q e;unfold valS at e;cases m:(x.2==0)<;>rw [m] at e<;>cases e;exact h
theorem ayz (pv:Int->Bq->PV×Int) (k:Int) (m:Bool) (ts:List Tk):Sh (intS pv k m ts) ts:=by
 intro v r h;unfold intS at h;cases d:(aaw ts==2) with
 | true=>rw [d] at h;exact azu (aiv d rfl) v r h
 | false=>rw [d] at h;cases h
theorem acd (ts:List Tk):ts.tail.length<=ts.length:=by simp
theorem aif {d:Type}{x:Rs d}{ts:List Tk} (h:Sh x ts.tail):Sh x ts:=λv r e=>Aw (h v r e) (acd ts)
theorem bbl (pv:Int->Bq->PV×Int) (k:Int) (ts:List Tk):Sh (litS pv k ts) ts:=by
 unfold litS;cases (k==0) with
 | true=>exact ac0 (afu ts) λv r=>aej _ _
 | false=>
  cases (k==1) with
  | true=>
   cases o:(isS 1 [116,114,117,101] ts||isS 1 [102,97,108,115,101] ts) with
   | true=>
    refine azu ?_;cases m:isS 1 [116,114,117,101] ts with
    | true=>exact ac5 m
    | false=>rw [m] at o;exact ac5 (by simpa using o)
   | false=>exact alr _ _ _
  | false=>
   cases (k==6||k==8) with
   | true=>
    intro v r h;cases d:abd ts with
    | ok s q=>simp only [Ad,Ae,d,Rs.bind] at h;exact azu (adn ts s q d) v r h
    | er q e=>simp only [Ad,Ae,d,Rs.bind] at h;cases h
   | false=>
    cases (k==7) with
    | true=>
     intro v r h;cases d:abd ts with
     | ok s q=>simp only [Ad,Ae,d,Rs.bind] at h;exact azu (adn ts s q d) v r h
     | er q e=>simp only [Ad,Ae,d,Rs.bind] at h;cases h
    | false=>
     cases isS 4 [45] ts with
     | true=>exact aif (ayz pv k true ts.tail)
     | false=>exact ayz pv k false ts
theorem a09 (pv:Int->Bq->PV×Int) (k:Int) (ts:List Tk):Sh (ag5 pv k ts) ts:=by
 unfold ag5;cases (k==1) with
 | true=>
  cases d:isS 1 [116,114,117,101] ts with
  | true=>intro v r e;cases e;exact ac5 d
  | false=>
   cases m:isS 1 [102,97,108,115,101] ts with
   | true=>intro v r e;cases e;exact ac5 m
   | false=>exact alr _ _ _
 | false=>
  cases (k==7) with
  | true=>
   cases o:(aaw ts==3) with
   | true=>
    cases decide ((abr ts).length>4096) with
    | true=>exact alr _ _ _
    | false=>
     cases valid (abr ts) with
     | true=>intro v r e;cases e;exact aiv o rfl
     | false=>exact alr _ _ _
   | false=>exact alr _ _ _
  | false=>
   cases isS 4 [45] ts with
   | true=>exact aif (ayz pv k true ts.tail)
   | false=>exact ayz pv k false ts
theorem aoo (pv:Int->Bq->PV×Int) (kd:Bq->Int) (ts:List Tk):Sh (apr pv kd ts) ts:=by
 unfold apr;cases (aaw ts==1) with
 | true=>
  cases (kd (abr ts)==0) with
  | true=>exact alr _ _ _
  | false=>exact aif (ac0 (aba _ _ _) λ_ r=>aa1 (a09 pv _ r).le λv q=>aej _ _)
 | false=>exact alr _ _ _
theorem acy (pv:Int->Bq->PV×Int) (kd:Bq->Int) (ts:List Tk) (d:List PV):ac9 pv kd ts d=(apr pv kd ts).bind λn r=>
 bif isS 4 [93] r then .ok (d++[n]) r.tail else bif isS 4 [44] r then ac9 pv kd r.tail (d++[n]) else .er r 2:=by
 rw [ac9]
 cases h:apr pv kd ts with
 | er r e=>rfl
 | ok n r=>
  have:=aoo pv kd ts n r h
  have:=acd r
  simp only [Rs.bind,show r.tail.length<ts.length by omega,dite_true]
theorem au9 (pv:Int->Bq->PV×Int) (kd:Bq->Int):∀ (m:Nat) (ts:List Tk) (d:List PV),ts.length<=m->Sh (ac9 pv kd ts d) ts:=by
 intro m;induction m with
 | zero=>intro ts d o;have:ts=[]:=Az (by omega);subst this;rw [acy];exact alr _ _ _
 | succ m z=>
  intro ts d o;rw [acy];cases h:apr pv kd ts with
  | er r e=>exact alr _ _ _
  | ok n r=>
   have H:=aoo pv kd ts n r h;have M:=acd r;simp only [Rs.bind];cases isS 4 [93] r with
   | true=>intro v q e;cases e;omega
   | false=>
    cases isS 4 [44] r with
    | true=>intro v q e;have:=z r.tail (d++[n]) (by omega) v q e;omega
    | false=>exact alr _ _ _
theorem ac7 (pv:Int->Bq->PV×Int) (kd:Bq->Int) (ts:List Tk):Sh0 (acw pv kd ts) ts:=by
 unfold acw;cases isS 4 [91] ts with
 | true=>exact (aif (au9 pv kd _ ts.tail [] (Nat.le_refl _))).le
 | false=>exact aej _ _
end
end Go.Ab
namespace Go.Ab
open Go
set_option maxRecDepth 100000
section
variable (pv:Int->Bq->PV×Int) (kd:Bq->Int)
theorem bcb (d:Bool) (k:Int) (ts:List Tk):Sh0 (ari pv d k ts) ts:=by
 unfold ari;cases h:(d&&isS 1 [100,101,102,97,117,108,116] ts) with
 | true=>exact (aif (ac0 (bbl pv k ts.tail) λv r=>aej _ _)).le
 | false=>exact aej _ _
theorem alu (card key:Int) (d:PV) (m:Bq) (o:Bool) (ts:List Tk):Sh (ag9 pv kd card key d m o ts) ts:=by unfold ag9;exact ac0 (afu ts) λ_ r=>aa1 (aba _ _ r).le λ_ r=>aa1 (ajk _ r).le λ_ r=>aa1 (bcb pv _ _ r) λ_ r=>aa1 (ac7 pv kd r) λ_ r=>aa1 (aba _ _ r).le λ_ r=>aej _ _
theorem akc (ts:List Tk):Sh (afh pv kd ts) ts:=by
 unfold afh;cases h:isS 1 [109,97,112] ts with
 | true=>
  refine aif (ac0 (aba _ _ _) λ_ r=>?_);cases (aaw r==1&&!(adz (abr r)==0)) with
  | true=>exact λv q e=>Nat.le_trans ((ac0 (aba _ _ r.tail) λ_ r=>aa1 (aq1 r).le λ_ r=>aa1 (aba _ _ r).le λ_ r=>(alu pv kd _ _ _ _ _ r).le).le v q e) (acd r)
  | false=>exact (alr _ _ _).le
 | false=>
  cases (aaw ts==1&&!(af3 (abr ts)==0)) with
  | true=>exact aif (ac0 (aq1 ts.tail) λ_ r=>(alu pv kd _ _ _ _ _ r).le)
  | false=>exact alr _ _ _
theorem alm (z:Bq) (ts:List Tk) (d:List PV):abz pv kd z ts d=(typS ts).bind λo r=>(ag9 pv kd 2 0 o z false r).bind λx m=>bif isS 4 [125] m then .ok (d++[x]) m.tail else abz pv kd z m (d++[x]):=by
 rw [abz];cases h:typS ts with
 | er r e=>rfl
 | ok o r=>
  simp only [Rs.bind];cases H:ag9 pv kd 2 0 o z false r with
  | er r e=>rfl
  | ok x m=>have:=aq1 ts o r h;have:=alu pv kd 2 0 o z false r x m H;simp only [show m.length<ts.length by omega,dite_true]
theorem als {O U:Type} (f:List Tk->U->Rs O) (d:∀ ts b,(∀ (m:List Tk) b,m.length<ts.length->Sh0 (f m b) m)->Sh0 (f ts b) ts):∀ ts b,Sh0 (f ts b) ts:=by
 have H:∀ (n:Nat) ts b,ts.length<=n->Sh0 (f ts b) ts:=by
  intro n;induction n with
  | zero=>intro ts b z;exact d ts b λm b o=>by omega
  | succ n M=>intro ts b z;exact d ts b λm b o=>M m b (by omega)
 exact λts b=>H _ ts b (Nat.le_refl _)
theorem a07 (m:Bq) (ts:List Tk) (d:List PV):Sh0 (abz pv kd m ts d) ts:=by
 refine als (λts d=>abz pv kd m ts d) (λts d U=>?_) ts d;show Sh0 (abz pv kd m ts d) ts;rw [alm];intro v q e;cases h:typS ts with
 | er r O=>rw [h] at e;cases e
 | ok H r=>
  rw [h] at e;simp only [Rs.bind] at e;cases z:ag9 pv kd 2 0 H m false r with
  | er r O=>rw [z] at e;cases e
  | ok x o=>
   rw [z] at e;have V:=aq1 ts H r h;have W:=alu pv kd 2 0 H m false r x o z;have X:=acd o;simp only at e;cases M:isS 4 [125] o with
   | true=>rw [M] at e;cases e;omega
   | false=>rw [M] at e;have:=U o (d++[x]) (by omega) v q e;omega
theorem am8 (ts:List Tk):Sh (aq2 pv kd ts) ts:=ac0 (aba _ _ ts) λ_ r=>aa1 (afu r).le λ_ r=>aa1 (aba _ _ r).le λ_ r=>a07 pv kd _ r []
theorem a64 (d:Int) (ts:List Tk):Sh (avk d ts) ts:=by
 unfold avk;refine ac0 (ajk _ ts) λa r=>aa1 ?_ λ_ _=>aej _ _;cases isS 4 [45] r with
 | true=>exact (aif (ajk d r.tail)).le
 | false=>exact aej _ _
theorem as3 (d:Int) (ts:List Tk) (m:List PV):adh d ts m=(avk d ts).bind λx o=>bif isS 4 [59] o then .ok (m++[x]) o.tail else (eatS 4 [44] o).bind λ_ z=>adh d z (m++[x]):=by
 rw [adh];cases h:avk d ts with
 | er r e=>rfl
 | ok x o=>
  simp only [Rs.bind];cases H:eatS 4 [44] o with
  | er r e=>rfl
  | ok u z=>have:=a64 d ts x o h;have:=aba 4 [44] o u z H;simp only [show z.length<ts.length by omega,dite_true]
theorem ai6 (d:Int) (ts:List Tk) (m:List PV):Sh0 (adh d ts m) ts:=by
 refine als (λts m=>adh d ts m) (λts m U=>?_) ts m;show Sh0 (adh d ts m) ts;rw [as3];intro v q e;cases h:avk d ts with
 | er r O=>rw [h] at e;cases e
 | ok x o=>
  rw [h] at e;have V:=a64 d ts x o h;have X:=acd o;simp only [Rs.bind] at e;cases H:isS 4 [59] o with
  | true=>rw [H] at e;cases e;omega
  | false=>
   rw [H] at e;simp only [Ae] at e;cases z:eatS 4 [44] o with
   | er r O=>rw [z] at e;cases e
   | ok u M=>rw [z] at e;have W:=aba 4 [44] o u M z;have:=U M (m++[x]) (by omega) v q e;omega
theorem amy (ts:List Tk) (d:List PV):ake ts d=(abd ts).bind λs m=>bif isS 4 [59] m then .ok (d++[PV.str s]) m.tail else (eatS 4 [44] m).bind λ_ o=>ake o (d++[PV.str s]):=by
 rw [ake];cases h:abd ts with
 | er r e=>rfl
 | ok x m=>
  simp only [Rs.bind];cases z:eatS 4 [44] m with
  | er r e=>rfl
  | ok u o=>have:=adn ts x m h;have:=aba 4 [44] m u o z;simp only [show o.length<ts.length by omega,dite_true]
theorem aws (ts:List Tk) (d:List PV):Sh0 (ake ts d) ts:=by
 refine als (λts d=>ake ts d) (λts d O=>?_) ts d;show Sh0 (ake ts d) ts;rw [amy];intro v q e;cases h:abd ts with
 | er r M=>rw [h] at e;cases e
 | ok x m=>
  rw [h] at e;have U:=adn ts x m h;have W:=acd m;simp only [Rs.bind] at e;cases z:isS 4 [59] m with
  | true=>rw [z] at e;cases e;omega
  | false=>
   rw [z] at e;simp only [Ae] at e;cases o:eatS 4 [44] m with
   | er r M=>rw [o] at e;cases e
   | ok u H=>rw [o] at e;have V:=aba 4 [44] m u H o;have:=O H (d++[PV.str x]) (by omega) v q e;omega
theorem a4t (ts:List Tk):Sh (a4s pv kd ts) ts:=ac0 (afu ts) λ_ r=>aa1 (aba _ _ r).le λ_ r=>aa1 (ajk _ r).le λ_ r=>aa1 (ac7 pv kd r) λ_ r=>aa1 (aba _ _ r).le λ_ r=>aej _ _
theorem ab2 {d o:Type}{x:Rs d}{ts:List Tk} (m:Sh x ts) (f:d->List Tk->Rs o):(x.bind λv r=>if h:r.length<ts.length then f v r else .er r 0)=x.bind f:=by
 cases x with
 | er r e=>rfl
 | ok v r=>simp only [Rs.bind,m v r rfl,dite_true]
theorem a1y {m:Type}{x:Rs m}{ts:List Tk} (d:ts.tail.length<ts.length) (h:Sh0 x ts.tail):Sh x ts:=λv r e=>Nat.lt_of_le_of_lt (h v r e) d
theorem ary (ts:List Tk) (d rs:List PV):ad3 pv kd ts d rs=
 bif isS 4 [125] ts then .ok (d,rs) ts.tail
 else bif isS 1 [114,101,115,101,114,118,101,100] ts then (adh 2147483647 ts.tail []).bind λl r=>ad3 pv kd r d (rs++l)
 else (a4s pv kd ts).bind λx r=>ad3 pv kd r (d++[x]) rs:=by
 rw [ad3,ab2 (a4t pv kd ts)]
 cases h:isS 1 [114,101,115,101,114,118,101,100] ts with
 | true=>rw [ab2 (a1y (ac5 h) (ai6 2147483647 ts.tail []))]
 | false=>rfl
theorem aep {d H:Type}{x:Rs d}{f:d->List Tk->Rs H}{ts:List Tk} (z:Sh x ts) (o:∀ v r,r.length<ts.length->Sh0 (f v r) r):Sh0 (x.bind f) ts:=by
 intro v r h;cases x with
 | ok a q=>have m:=z a q rfl;have:=o a q m v r h;omega
 | er=>cases h
theorem a9i (ts:List Tk) (d rs:List PV):Sh0 (ad3 pv kd ts d rs) ts:=by
 refine als (λts (b:List PV×List PV)=>ad3 pv kd ts b.1 b.2) (λts b o=>?_) ts (d,rs);show Sh0 (ad3 pv kd ts b.1 b.2) ts;rw [ary];cases z:isS 4 [125] ts with
 | true=>intro v q e;cases e;exact acd ts
 | false=>
  cases h:isS 1 [114,101,115,101,114,118,101,100] ts with
  | true=>exact aep (a1y (ac5 h) (ai6 2147483647 ts.tail [])) λv r m=>o r (b.1,b.2++v) m
  | false=>exact aep (a4t pv kd ts) λv r m=>o r (b.1++[v],b.2) m
theorem a5v (ts:List Tk) (w:Bq):(bif isS 1 w ts then ts.tail else ts).length<=ts.length:=by
 cases isS 1 w ts with
 | true=>exact acd ts
 | false=>exact Nat.le_refl _
theorem aft (d:Bq) (ts:List Tk):Sh (an1 pv kd d ts) ts:=by intro v q e;have:=(ac0 (aba 1 [101,110,117,109] (bif isS 1 [111,112,101,110] ts then ts.tail else ts)) λ_ r=>aa1 (ag3 d r).le λ_ r=>aa1 (ac7 pv kd r) λ_ r=>aa1 (aba _ _ r).le λ_ r=>aa1 (a9i pv kd r [] []) λ_ r=>aej _ _) v q e;have:=a5v ts [111,112,101,110];omega
theorem ag0 (m:Bq->List PV->List PV->List Tk->Rs (List PV×List PV)) (o:∀ n a b ts,Sh (m n a b ts) ts) (d:Bq) (ts:List Tk) (b:MB):aca pv kd m d ts b=
 bif isS 4 [125] ts then .ok b ts.tail
 else bif isS 1 [117,110,105,111,110] ts then (aq2 pv kd ts).bind λl r=>aca pv kd m d r { b with fs:=b.fs++l }
 else bif isS 1 [109,101,115,115,97,103,101] ts then (m d b.ms b.es ts).bind λx r=>aca pv kd m d r { b with ms:=x.1,es:=x.2 }
 else bif isS 1 [101,110,117,109] ts||isS 1 [111,112,101,110] ts then (an1 pv kd d ts).bind λx r=>aca pv kd m d r { b with es:=b.es++[x] }
 else bif isS 1 [114,101,115,101,114,118,101,100] ts then
  (bif aaw ts.tail==3 then (ake ts.tail []).bind λl r=>aca pv kd m d r { b with gs:=b.gs++l }
   else (adh 65535 ts.tail []).bind λl r=>aca pv kd m d r { b with rs:=b.rs++l })
 else (afh pv kd ts).bind λx r=>aca pv kd m d r { b with fs:=b.fs++[x] }:=by
 rw [aca,ab2 (am8 pv kd ts),ab2 (o d b.ms b.es ts),ab2 (aft pv kd d ts),ab2 (akc pv kd ts)]
 cases h:isS 1 [114,101,115,101,114,118,101,100] ts with
 | true=>rw [ab2 (a1y (ac5 h) (aws ts.tail [])),ab2 (a1y (ac5 h) (ai6 65535 ts.tail []))]
 | false=>rfl
theorem a9o (m:Bq->List PV->List PV->List Tk->Rs (List PV×List PV)) (H:∀ n a b ts,Sh (m n a b ts) ts) (o:Bq) (ts:List Tk) (b:MB):Sh0 (aca pv kd m o ts b) ts:=by
 refine als (λts b=>aca pv kd m o ts b) (λts b z=>?_) ts b;show Sh0 (aca pv kd m o ts b) ts;rw [ag0 pv kd m H];cases isS 4 [125] ts with
 | true=>intro v q e;cases e;exact acd ts
 | false=>
  cases isS 1 [117,110,105,111,110] ts with
  | true=>exact aep (am8 pv kd ts) λv r d=>z r _ d
  | false=>
   cases isS 1 [109,101,115,115,97,103,101] ts with
   | true=>exact aep (H _ _ _ ts) λv r d=>z r _ d
   | false=>
    cases (isS 1 [101,110,117,109] ts||isS 1 [111,112,101,110] ts) with
    | true=>exact aep (aft pv kd _ ts) λv r d=>z r _ d
    | false=>
     cases h:isS 1 [114,101,115,101,114,118,101,100] ts with
     | true=>
      cases (aaw ts.tail==3) with
      | true=>exact aep (a1y (ac5 h) (aws ts.tail [])) λv r d=>z r _ d
      | false=>exact aep (a1y (ac5 h) (ai6 65535 ts.tail [])) λv r d=>z r _ d
     | false=>exact aep (akc pv kd ts) λv r d=>z r _ d
theorem ah9:∀ (d:Nat) (n:Bq) (a b:List PV) (ts:List Tk),Sh (msgS pv kd d n a b ts) ts:=by
 intro d;induction d with
 | zero=>intro n a b ts;exact alr _ _ _
 | succ d m=>intro n a b ts;exact ac0 (aba _ _ ts) λ_ r=>aa1 (ag3 _ r).le λ_ r=>aa1 (ac7 pv kd r) λ_ r=>aa1 (aba _ _ r).le λ_ r=>aa1 (a9o pv kd _ m _ r _) λ_ r=>aej _ _
theorem asx (ts:List Tk):Sh (avd ts) ts:=by unfold avd;refine ac0 (aba _ _ ts) λ_ r=>?_;intro v q e;have:=(aa1 (ao7 1 rfl aik (bif isS 1 [115,116,114,101,97,109] r then r.tail else r)).le λ_ r=>aa1 (aba _ _ r).le λ_ r=>aej _ _) v q e;have:=a5v r [115,116,114,101,97,109];omega
theorem a6q (ts:List Tk):Sh (rpcS pv kd ts) ts:=
 ac0 (aba _ _ ts) λ_ r=>aa1 (afu r).le λ_ r=>aa1 (asx r).le λ_ r=>aa1 (aba _ _ r).le λ_ r=>aa1 (asx r).le λ_ r=>aa1 (ac7 pv kd r) λ_ r=>aa1 (aba _ _ r).le λ_ r=>aej _ _
theorem axs (ts:List Tk) (d:List PV):ak0 pv kd ts d=bif isS 4 [125] ts then .ok d ts.tail else (rpcS pv kd ts).bind λx r=>ak0 pv kd r (d++[x]):=by rw [ak0,ab2 (a6q pv kd ts)]
theorem bc5 (ts:List Tk) (d:List PV):Sh0 (ak0 pv kd ts d) ts:=by
 refine als (λts b=>ak0 pv kd ts b) (λts b o=>?_) ts d;show Sh0 (ak0 pv kd ts b) ts;rw [axs];cases isS 4 [125] ts with
 | true=>intro v q e;cases e;exact acd ts
 | false=>exact aep (a6q pv kd ts) λv r m=>o r _ m
theorem a7e (ts:List Tk):Sh (svcS pv kd ts) ts:=
 ac0 (aba _ _ ts) λ_ r=>aa1 (ag3 _ r).le λ_ r=>aa1 (ac7 pv kd r) λ_ r=>aa1 (aba _ _ r).le λ_ r=>aa1 (bc5 pv kd r []) λ_ r=>aej _ _
theorem ald (ts:List Tk) (d:List PV):ac4 ts d=bif isS 1 [105,109,112,111,114,116] ts then (abd ts.tail).bind λs r=>(eatS 4 [59] r).bind λ_ H=>ac4 H (d++[PV.str s]) else .ok d ts:=by
 rw [ac4];cases o:isS 1 [105,109,112,111,114,116] ts with
 | false=>rfl
 | true=>
  simp only [Ad];cases h:abd ts.tail with
  | er r e=>rfl
  | ok x r=>
   simp only [Rs.bind];cases z:eatS 4 [59] r with
   | er r e=>rfl
   | ok u m=>have:=adn ts.tail x r h;have:=aba 4 [59] r u m z;have:=ac5 o;simp only [show m.length<ts.length by omega,dite_true]
theorem awh (ts:List Tk) (b:FB):afs pv kd ts b=
 bif ts.isEmpty then .ok b ts
 else bif isS 1 [109,101,115,115,97,103,101] ts then (msgS pv kd 16 [] b.ms b.es ts).bind λx r=>afs pv kd r { b with ms:=x.1,es:=x.2 }
 else bif isS 1 [101,110,117,109] ts||isS 1 [111,112,101,110] ts then (an1 pv kd [] ts).bind λx r=>afs pv kd r { b with es:=b.es++[x] }
 else (svcS pv kd ts).bind λx r=>afs pv kd r { b with ss:=b.ss++[x] }:=by
 rw [afs,ab2 (ah9 pv kd 16 _ _ _ ts),ab2 (aft pv kd _ ts),ab2 (a7e pv kd ts)]
end
end Go.Ab
namespace Go.Ab
open Go
set_option maxRecDepth 100000
def ts (t:List PV) (i:Nat):List Tk:=(t.drop i).map tkOf
structure TOk (t:List PV):Prop where
 len:t.length<=1048576
 txt:∀ x,x∈t->(x.fld 1).asStr.length<=1048576
theorem afp {t:List PV}{i:Nat} (h:t.length<=i):ts t i=[]:=by grind [ts,List.drop_eq_nil_of_le]
theorem ad7 {t:List PV}{i:Nat} (h:i<t.length):ts t i=tkOf (t.getD i .bad)::ts t (i+1):=by grind [ts,aaj,bad]
theorem aao (t:List PV) (i:Nat):(ts t i).tail=ts t (i+1):=by unfold ts;simp_all
theorem adi (t:List PV) (i:Nat):(ts t i).length=t.length-i:=by unfold ts;simp
theorem abl {k:Int}{s:Bq}{t:List PV}{i:Nat} (h:isS k s (ts t i)=true):i<t.length:=by
 by_cases d:i<t.length
 ·exact d
 ·rw [afp (by omega)] at h;cases h
theorem abt {k:Int}{t:List PV}{i:Nat} (m:(k==0)=false) (h:(aaw (ts t i)==k)=true):i<t.length:=by
 by_cases d:i<t.length
 ·exact d
 ·rw [afp (by omega)] at h;simp only [aaw,Bo] at h;grind
abbrev QF:Type:=Bq×Bq×Unit×Unit×Unit×List PV×List PV×List PV×List PV
inductive Par {α R:Type} (t:List PV) (q:QF) (mk:α->Q0->R) (x:Rs α) (y:Option (R⊕(PV×Q0))):Prop
 | ok (v:α) (j:Nat):j<=t.length->x=.ok v (ts t j)->y=some (.inl (mk v (t,((j:Nat):Int),q)))->Par t q mk x y
 | er (j:Nat) (e:Int):j<=t.length->e≠0->x=.er (ts t j) e->y=some (.inr (PV.agg [PV.int ((j:Nat):Int),PV.int e],(t,((j:Nat):Int),q)))->Par t q mk x y
theorem ael (t:List PV) (i:Nat) (q:QF):F117 0 () (t,(i:Int),q)=some (aaw (ts t i),(t,(i:Int),q)):=by
 unfold F117;by_cases h:i<t.length
 ·have d:decide ((i:Int)>=(t.length:Int))=false:=Al (by omega);simp only [d,Ae,aab,h,decide_true,Ad,Ag,ad7 h,aaw,tkOf]
 ·have d:decide ((i:Int)>=(t.length:Int))=true:=Ah (by omega);simp only [d,Ad,afp (show t.length<=i by omega),aaw]
def isA (s:Bq):List Tk->Bool
 | []=>false
 | x::_=>(x.k==4||x.k==1)&&x.s==s
theorem bbi (t:List PV) (m:TOk t) (i:Nat) (o:i<=t.length) (s:Bq) (q:QF):F203 0 () 0 s (t,(i:Int),q)=some (isA s (ts t i),(t,(i:Int),q)):=by
 have z:=m.len;have w:IntKind.wrap .i64 ((i:Int)+0)=(i:Int):=by grind [abi]
 unfold F203;simp only [w];by_cases h:i<t.length
 ·have d:decide ((i:Int)<(t.length:Int))=true:=Ah (by omega);simp only [d,imp,aab,h,decide_true,Ad,Ag,F286,Aa,ad7 h,isA,tkOf];grind
 ·have d:decide ((i:Int)<(t.length:Int))=false:=Al (by omega);simp only [d,imp,Ae,Aj,aag,Ad,Aa,afp (show t.length<=i by omega),isA]
theorem bex {s:Bq} (m:acj s=true) (t:List PV) (o:TOk t) (i:Nat) (d:i<=t.length) (q:QF):F96 0 () s (t,(i:Int),q)=some (isS 1 s (ts t i),(t,(i:Int),q)):=by
 unfold F96;rw [ah3,m];simp only [Aa,Ad,bbi t o i d,ael];cases ts t i with
 | nil=>rfl
 | cons x r=>grind [isA,isS,aaw]
theorem bew {s:Bq} (m:acj s=false) (t:List PV) (o:TOk t) (i:Nat) (d:i<=t.length) (q:QF):F96 0 () s (t,(i:Int),q)=some (isS 4 s (ts t i),(t,(i:Int),q)):=by
 unfold F96;rw [ah3,m];simp only [Aa,Ae,bbi t o i d,ael];cases ts t i with
 | nil=>rfl
 | cons x r=>grind [isA,isS,aaw]
def kOf (s:Bq):Int:=bif acj s then 1 else 4
theorem aqs (s:Bq) (k:Int) (m:kOf s=k) (t:List PV) (o:TOk t) (i:Nat) (d:i<=t.length) (q:QF):F96 0 () s (t,(i:Int),q)=some (isS k s (ts t i),(t,(i:Int),q)):=by grind [kOf,acj,bex,bew]
theorem alk (s:Bq) (k:Int) (o:kOf s=k) (t:List PV) (d:TOk t) (i:Nat) (m:i<=t.length) (q:QF):
 F91 0 () s (t,(i:Int),q)=some (bif isS k s (ts t i) then (true,(t,((i+1:Nat):Int),q)) else (false,(t,(i:Int),q))):=by
 have z:=d.len
 grind [F91,aqs,aa9,isS,ts]
theorem ad9 (s:Bq) (k:Int) (m:kOf s=k) (t:List PV) (o:TOk t) (i:Nat) (d:i<=t.length) (q:QF):
 Par t q (λ_ s=>s) (eatS k s (ts t i)) (F94 0 () s (t,(i:Int),q)):=by
 unfold F94 eatS
 simp only [alk s k m t o i d,Aa]
 cases h:isS k s (ts t i) with
 | true=>exact .ok () (i+1) (abl h) (by rw [Ad,aao]) rfl
 | false=>exact .er i 2 d (by decide) rfl rfl
theorem aq0 {t:List PV} (d:TOk t) {i:Nat} (h:i<t.length):((t.getD i .bad).fld 1).asStr.length<=1048576:=d.txt _ (ace h _)
theorem aw0 (s:Bq) (xs:List Bq) (o:xs.length<=9223372036854770000):aaz (S93_3step 0) (s,xs.map PV.str,((xs.map PV.str).length:Int),((0:Nat):Int))=some (bif xs.all (λx=>!aip x) then .inr s else .inl false):=by
 have h:=ah5 (step:=S93_3step 0) (λi=>(s,xs.map PV.str,((xs.map PV.str).length:Int),(i:Int))) (xs.map PV.str).length (λi=>!aip ((xs.map PV.str).getD i .bad).asStr) (.inl false) (.inr s)
  (λi d=>by
   have m:i<=9223372036854775000:=by grind
   simp only [S93_3step,S93_3,abh,d,decide_true,Ad,aab,Ag,a7v,Aa,aa9 m];grind)
  (by simp only [S93_3step,S93_3,abh,Nat.lt_irrefl,decide_false,Ae]) (xs.map PV.str).length 0 (by omega)
 rw [h];have e:allF (λi=>!aip ((xs.map PV.str).getD i .bad).asStr) 0 (xs.map PV.str).length=xs.all λx=>!aip x:=by have:=a2t (λx:PV=>!aip x.asStr) .bad (xs.map PV.str);grind [List.all_map,Function.comp_def,PV.asStr]
 rw [e]
theorem aui (s:Bq) (m:s.length<=1048576):F93 0 s=some (defP s):=by
 have d:=aqw 46 s;unfold F93 defP;rw [aun s m,Aa,aal,show (0:Int)=((0:Nat):Int) from rfl,aw0 s _ (by omega),Aa];cases h:(abb 46 s).all (λx=>!aip x) with
 | true=>simp only [Ad,aa7,akh s m,Aa,Bool.and_true]
 | false=>simp only [Ae,ab0,Bool.and_false]
theorem a9z (s:Bq):F238 0 s=some (asz s):=by
 unfold F238 asz;rw [ah3];cases acj s with
 | true=>simp only [Aa,Ad,a7v,Bool.true_and]
 | false=>grind
theorem ba1 (s:Bq) (d:s.length<=1048576):F229 0 s=some (aik s):=ao9 s d
theorem as9 {T:Bq->Option Bool}{p:Bq->Bool} (O:∀ s,s.length<=1048576->T s=some (p s)) {f:Q0->Option ((Bq×Q0)⊕(PV×Q0))} (k:Int) (V:(k==0)=false)
 (U:∀ s:Q0,f s=(F117 0 () s).bind λd=>bif d.1 != k then some (.inr (PV.agg [PV.int d.2.2.1,PV.int 2],d.2)) else bif aaa d.2.2.1 d.2.1.length then (T ((d.2.1.getD d.2.2.1.toNat .bad).fld 1).asStr).bind λX=>
  bif !X then some (.inr (PV.agg [PV.int d.2.2.1,PV.int 8],d.2)) else some (.inl (((d.2.1.getD d.2.2.1.toNat .bad).fld 1).asStr,d.2.1,IntKind.wrap .i64 (d.2.2.1+1),d.2.2.2)) else none)
 (t:List PV) (M:TOk t) (i:Nat) (H:i<=t.length) (q:QF):Par t q (λv s=>(v,s)) (ae9 k p (ts t i)) (f (t,(i:Int),q)):=by
 have Y:=M.len
 rw [U,ael,Aa]
 unfold ae9
 by_cases o:aaw (ts t i)=k
 ·have z:(aaw (ts t i) != k)=false:=by rw [o];simp
  have m:(aaw (ts t i)==k)=true:=by rw [o];simp
  have h:i<t.length:=abt V m;have W:abr (ts t i)=((t.getD i .bad).fld 1).asStr:=by rw [ad7 h];rfl
  simp only [z,m,Ae,Ad,aab,h,decide_true,Ag,O _ (aq0 M h),Aa,W,aa9 (show i<=9223372036854775000 by omega)];cases Z:p ((t.getD i .bad).fld 1).asStr with
  | true=>exact .ok _ (i+1) h (by rw [Ad,aao]) rfl
  | false=>exact .er i 8 H (by decide) rfl rfl
 ·have z:(aaw (ts t i) != k)=true:=bneI o;have m:(aaw (ts t i)==k)=false:=beqI o;simp only [z,m,Ad,Ae];exact .er i 2 H (by decide) rfl rfl
theorem bax (t:List PV) (m:TOk t) (i:Nat) (d:i<=t.length) (q:QF):Par t q (λv s=>(v,s)) (ae9 1 defP (ts t i)) (F92 0 () 1 () (t,(i:Int),q)):=
 as9 (f:=λs=>F92 0 () 1 () s) aui 1 rfl (λs=>rfl) t m i d q
theorem agr (t:List PV) (H:TOk t) (i:Nat) (z:i<=t.length) (q:QF):Par t q (λv s=>(v,s)) (abd (ts t i)) (F95 0 () (t,(i:Int),q)):=by
 have h:=as9 (f:=λs=>F92_v1 0 () 3 () s) (T:=F201 0) (p:=λ_=>true) (λs _=>rfl) 3 rfl (λs=>rfl) t H i z q;unfold F95;rcases h with ⟨v,j,d,m,M⟩ | ⟨j,e,d,o,m,M⟩
 ·exact .ok v j d m (by grind [ab0])
 ·exact .er j e d o m (by grind [aa7])
theorem akv (t:List PV) (H:TOk t) (i:Nat) (z:i<=t.length) (q:QF):Par t q (λv s=>(v,s)) (ai9 (ts t i)) (F132 0 () (t,(i:Int),q)):=by
 have h:=as9 (f:=λs=>F92_v3 0 () 1 () s) (T:=F238 0) (p:=asz) (λs _=>a9z s) 1 rfl (λs=>rfl) t H i z q;unfold F132;rcases h with ⟨v,j,d,m,M⟩ | ⟨j,e,d,o,m,M⟩
 ·exact .ok v j d m (by grind [ab0])
 ·exact .er j e d o m (by grind [aa7])
theorem ail (t:List PV) (M:TOk t) (i:Nat) (z:i<=t.length) (q:QF):Par t q (λv s=>(v,s)) (ack (ts t i)) (F115 0 () (t,(i:Int),q)):=by
 have h:=as9 (f:=λs=>F92_v4 0 () 1 () s) (T:=F229 0) (p:=aik) (λs H=>ba1 s H) 1 rfl (λs=>rfl) t M i z q;unfold F115;rcases h with ⟨v,j,d,m,O⟩ | ⟨j,e,d,o,m,O⟩
 ·exact .ok v j d m (by grind [ab0])
 ·exact .er j e d o m (by grind [aa7])
theorem bbb {n d:Int} (h:-9223372036854775808<=n/\n<=9223372036854775807) (m:0<=d/\d<=2147483647):decide (IntKind.wrap .u64 n>d)=!decide (0<=n/\n<=d):=by grind [IntKind.wrap_u64,decide_eq_true,decide_eq_false]
theorem ase (t:List PV) (V:TOk t) (i:Nat) (H:i<=t.length) (d:Int) (M:0<=d/\d<=2147483647) (O:∀ x,x∈t->-9223372036854775808<=(x.fld 2).asInt/\(x.fld 2).asInt<=9223372036854775807) (q:QF):
 Par t q (λv s=>(v,s)) (numS d (ts t i)) (F209 0 () d (t,(i:Int),q)):=by
 have X:=V.len
 unfold F209 numS
 rw [ael,Aa]
 by_cases o:aaw (ts t i)=2
 ·have z:(aaw (ts t i) != 2)=false:=by rw [o];rfl
  have m:(aaw (ts t i)==2)=true:=by rw [o];rfl
  have h:i<t.length:=abt rfl m;have W:aoq (ts t i)=((t.getD i .bad).fld 2).asInt:=by rw [ad7 h];rfl
  have U:=O _ (ace h .bad);simp only [z,m,Ae,Ad,aab,h,decide_true,Ag,W,aa9 (show i<=9223372036854775000 by omega),bbb U M];cases Y:decide (0<=((t.getD i .bad).fld 2).asInt/\((t.getD i .bad).fld 2).asInt<=d) with
  | true=>exact .ok _ (i+1) h (by rw [Ad,aao]) rfl
  | false=>exact .er i 6 H (by decide) rfl rfl
 ·have z:(aaw (ts t i) != 2)=true:=bneI o;have m:(aaw (ts t i)==2)=false:=beqI o;simp only [z,m,Ad,Ae];exact .er i 2 H (by decide) rfl rfl
end Go.Ab
namespace Go.Ab
open Go
set_option maxRecDepth 100000
noncomputable def parV (k:Int) (s:Bq):PV×Int:=(F239 0 k s).getD (abn,0)
def ape (k:Int) (s:Bq):Prop:=((k=1\/k=6\/k=8)/\s.length<=16384)\/(k=7/\∃ x:Bq,x.length<=16384/\s=aa4 x)\/((2<=k/\k<=5)/\∃ (d:Bool) (u:Nat),u<18446744073709551616/\s=(bif d then [45] else [])++decB u)
def ad0:Prop:=∀ (k:Int) (s:Bq),ape k s->F239 0 k s=some (parV k s)
structure TNm (t:List PV):Prop extends TOk t where
 num:∀ x,x∈t->-9223372036854775808<=(x.fld 2).asInt/\(x.fld 2).asInt<=9223372036854775807
structure TNum (t:List PV):Prop extends TNm t where
 sml:∀ x,x∈t->(x.fld 1).asStr.length<=16384
inductive NP (t:List PV) (x:Rs PV) (y:Option (PV×Int×Int)):Prop
 | ok (v:PV) (j:Nat):j<=t.length->x=.ok v (ts t j)->y=some (v,((j:Nat):Int),0)->NP t x y
 | er (j:Nat) (e:Int) (z:PV):j<=t.length->e≠0->x=.er (ts t j) e->y=some (z,((j:Nat):Int),e)->NP t x y
theorem aqe (t:List PV) (i:Nat) (s:Bq):F77 0 t (i:Int) s=some (isS 4 s (ts t i)):=by grind [auj,sgn,ad7,isS,tkOf,ad6,agn,afp]
theorem ar0 (t:List PV) (i:Nat):F158 0 t (i:Int)=some (aaw (ts t i)):=by
 rw [aew];by_cases h:i<t.length
 ·rw [ad7 h,if_pos h];rfl
 ·rw [afp (by omega),if_neg h];rfl
theorem bba {n:Int}:∃ u:Nat,u<18446744073709551616/\IntKind.wrap .u64 n=(u:Int)/\(IntKind.wrap .u64 n).toNat=u:=by obtain ⟨u,d,m⟩:=bbz n;grind
theorem fmtB {u:Nat} (h:u<18446744073709551616):F135 0 (u:Int) 10=some (decB u):=by rw [bbf u h,ahs (by omega)]
theorem asd {t:List PV}{i:Nat} (h:i<t.length):aoq (ts t i)=((t.getD i .bad).fld 2).asInt:=by rw [ad7 h];rfl
theorem ada {t:List PV}{i:Nat} (h:i<t.length):abr (ts t i)=((t.getD i .bad).fld 1).asStr:=by rw [ad7 h];rfl
theorem aw1 {t:List PV}{i:Nat} (h:i<t.length):aaw (ts t i)=((t.getD i .bad).fld 0).asInt:=by rw [ad7 h];rfl
theorem bbj {k:Int}{s:Bq}{t:List PV}{i:Nat} (h:i<t.length):isS k s (ts t i)=((((t.getD i .bad).fld 0).asInt==k)&&(((t.getD i .bad).fld 1).asStr==s)):=by rw [ad7 h];rfl
theorem a4l (po:ad0) (k:Int) (hk:2<=k/\k<=5) (t:List PV) (ht:TNm t) (m:Bool) (d:Bq) (Z:d=bif m then [45] else []) (i:Nat) (X:i<=t.length):NP t (intS parV k m (ts t i))
 ((
  F158 0 t (i:Int)).bind λy3=>bif (y3 != (2:Int)) then some (abn,(i:Int),(2:Int)) else
  bif aaa (i:Int) t.length then (F135 0 (IntKind.wrap .u64 ((t.getD (i:Int).toNat .bad).fld 2).asInt) (10:Int)).bind λy9=>
  bif decide (d.length+y9.length<=aau) then (F239 0 k (d++y9)).bind λo=>
  bif (o.2 != (0:Int)) then some (abn,(i:Int),o.2) else some (o.1,(IntKind.wrap .i64 ((i:Int)+(1:Int))),(0:Int)) else none else none):=by
 have hl:=ht.len
 rw [ar0,Aa]
 unfold intS
 by_cases M:aaw (ts t i)=2
 ·have O:(aaw (ts t i) != 2)=false:=by rw [M];rfl
  have H:(aaw (ts t i)==2)=true:=by rw [M];rfl
  have h:i<t.length:=abt rfl H;obtain ⟨u,hu,h1,h2⟩:=bba (n:=((t.getD i .bad).fld 2).asInt);have Y:=amw u;have aa:d.length<=1:=by grind
  have l1:decide (d.length+(decB u).length<=aau)=true:=afb (by omega);have U:=po k (d++decB u) (Or.inr (Or.inr ⟨hk,m,u,hu,by rw [Z]⟩));simp only [O,H,Ae,Ad,aab,h,decide_true,Ag,h1,fmtB hu,Aa,l1,U,asd h,<-Z];unfold valS;by_cases z:(parV k (d++decB u)).2=0
  ·have V:((parV k (d++decB u)).2 != 0)=false:=by rw [z];rfl
   have W:((parV k (d++decB u)).2==0)=true:=by rw [z];rfl
   simp only [V,W,Ad,Ae,aa9 (show i<=9223372036854775000 by omega)];exact .ok _ (i+1) h (by rw [aao]) rfl
  ·have V:((parV k (d++decB u)).2 != 0)=true:=bneI z;have W:((parV k (d++decB u)).2==0)=false:=beqI z;simp only [V,W,Ad,Ae];exact .er i _ _ X z rfl rfl
 ·have O:(aaw (ts t i) != 2)=true:=bneI M;have H:(aaw (ts t i)==2)=false:=beqI M;simp only [O,H,Ad,Ae];exact .er i 2 _ X (by decide) rfl rfl
theorem auv (o:ad0) (k:Int) (m:2<=k/\k<=5) (t:List PV) (d:TNm t) (i:Nat) (z:i<=t.length):NP t (bif isS 4 [45] (ts t i) then intS parV k true (ts t i).tail else intS parV k false (ts t i)) (F260 0 k t (i:Int)):=by
 have O:=d.len;have M:IntKind.wrap .i64 ((i:Int)+1)=((i+1:Nat):Int):=aa9 (by omega);unfold F260;rw [aqe,Aa];cases H:isS 4 [45] (ts t i) with
 | true=>have:=a4l o k m t d true [45] rfl (i+1) (abl H);simp only [M,Ad,aao];exact this
 | false=>have:=a4l o k m t d false [] rfl i z;simp only [Ae];exact this
theorem parB1:F239 0 1 [116,114,117,101]=some (aci 1 1 [],0):=by kernel_rfl
theorem parB0:F239 0 1 [102,97,108,115,101]=some (aci 1 0 [],0):=by kernel_rfl
theorem fits7 (x:Bq) (h:x.length<=4096):F146 0 7 (PV.agg [(PV.int 7),(PV.int (0:Int)),(PV.str x),(PV.slice []),(PV.slice []),(PV.slice []),(PV.slice [])])=some (valid x):=by have m:avh (PV.agg [(PV.int 7),(PV.int (0:Int)),(PV.str x),(PV.slice []),(PV.slice []),(PV.slice []),(PV.slice [])]):=⟨Nat.zero_le _,by show x.length<=1048576;omega,by show (0:Int)<=0;omega,by show (0:Int)<18446744073709551616;omega⟩;have d:decide (x.length<=4096)=true:=Ah h;rw [ayv _ _ m];congr 1;unfold amo apv ajd aim vLists;simp [PV.fld,PV.parts,PV.asInt,PV.asStr,PV.asList,al6,afo,d]
theorem ba7 (po:ad0) (k:Int) (hk:k=1\/k=7\/k=3\/k=4) (t:List PV) (X:TNm t) (i:Nat) (o:i<=t.length):NP t (ag5 parV k (ts t i)) (F159 0 k t (i:Int)):=by
 have hl:=X.len;have Y:IntKind.wrap .i64 ((i:Int)+1)=((i+1:Nat):Int):=aa9 (by omega);unfold F159 ag5;simp only [ar0];rcases hk with rfl | rfl | rfl | rfl
 ·simp only [show ((1:Int)==1)=true from rfl,Ad,Aa,show ((1:Int)==7)=false from rfl,show ((1:Int)==4)=false from rfl,show ((1:Int)==3)=false from rfl,Ae];by_cases d:i<t.length
  ·simp only [aab,d,decide_true,imp,Ad,aag,Ag,aw1 d,bbj d];cases M:(((t.getD i .bad).fld 0).asInt==1) with
   | true=>
    cases h1:(((t.getD i .bad).fld 1).asStr==[116,114,117,101]) with
    | true=>have e:=eq_of_beq h1;simp only [Ad,Bool.and_self,e,parB1,Aa,Y,Am,Ae,aag];exact .ok _ (i+1) d (by rw [aao]) rfl
    | false=>
     cases h2:(((t.getD i .bad).fld 1).asStr==[102,97,108,115,101]) with
     | true=>have e:=eq_of_beq h2;simp only [Ad,Ae,Bool.and_false,Bool.and_self,e,parB0,Aa,Y,Aj,aag];exact .ok _ (i+1) d (by rw [aao]) rfl
     | false=>simp only [Ad,Ae,Bool.and_false,Aj,aag];exact .er i 2 _ o (by decide) rfl rfl
   | false=>simp only [Ae,Bool.false_and,aag,Aj,Ad];exact .er i 2 _ o (by decide) rfl rfl
  ·have:ts t i=[]:=afp (by omega);simp only [this,aaw,isS,show ((0:Int)==1)=false from rfl,Ae,imp,Aj,Ad,aag];exact .er i 2 _ o (by decide) (by rw [this]) rfl
 ·simp only [show ((7:Int)==1)=false from rfl,show ((7:Int)==7)=true from rfl,Ae,Ad,Aa,imp,Aj,aag];cases M:(aaw (ts t i)==3) with
  | false=>simp only [Ae,show ((7:Int)==4)=false from rfl,show ((7:Int)==3)=false from rfl];exact .er i 2 _ o (by decide) rfl rfl
  | true=>
   have d:=abt (show ((3:Int)==0)=false from rfl) M;simp only [aab,d,decide_true,Ad,Ag,ada d];obtain ⟨x,m⟩:∃ x,((t.getD i .bad).fld 1).asStr=x:=⟨_,rfl⟩;simp only [m];by_cases O:x.length>4096
   ·have U:decide ((x.length:Int)>4096)=true:=Ah (by omega);have V:decide (x.length>4096)=true:=Ah O;simp only [U,V,Ad];exact .er i 3 _ o (by decide) rfl rfl
   ·have U:decide ((x.length:Int)>4096)=false:=Al (by omega);have V:decide (x.length>4096)=false:=Al O;simp only [U,V,Ae,fits7 x (by omega),Aa,Y];cases valid x with
    | true=>exact .ok _ (i+1) d (by rw [Ad,aao];rfl) rfl
    | false=>exact .er i 7 _ o (by decide) rfl rfl
 ·have M:=auv po 3 (by decide) t X i o;simp only [show ((3:Int)==1)=false from rfl,show ((3:Int)==7)=false from rfl,show ((3:Int)==4)=false from rfl,show ((3:Int)==3)=true from rfl,Ae,Ad,Aa,imp,Aj,aag];rcases M with ⟨v,j,H,m,Z⟩ | ⟨j,e,z,H,W,m,Z⟩
  ·exact .ok v j H m (by grind)
  ·exact .er j e z H W m (by grind)
 ·have M:=auv po 4 (by decide) t X i o;simp only [show ((4:Int)==1)=false from rfl,show ((4:Int)==7)=false from rfl,show ((4:Int)==4)=true from rfl,Ae,Ad,Aa,imp,Aj,aag];rcases M with ⟨v,j,H,m,Z⟩ | ⟨j,e,z,H,W,m,Z⟩
  ·exact .ok v j H m (by grind)
  ·exact .er j e z H W m (by grind)
theorem bcu (po:ad0) (t:List PV) (Z:TNm t) (i:Nat) (Y:i<=t.length):NP t (apr parV aae (ts t i)) (F78 0 t (i:Int)):=by
 have hl:=Z.len;have hw:IntKind.wrap .i64 ((i:Int)+1)=((i+1:Nat):Int):=aa9 (by omega);have W:IntKind.wrap .i64 ((i:Int)+2)=((i+2:Nat):Int):=by grind [abi]
 unfold F78 apr;rw [ar0,Aa];by_cases H:aaw (ts t i)=1
 ·have O:(aaw (ts t i) != 1)=false:=by rw [H];rfl
  have o:(aaw (ts t i)==1)=true:=by rw [H];rfl
  have d:i<t.length:=abt rfl o;simp only [O,o,Ae,Ad,aab,d,decide_true,Ag,a4w,Aa,ada d,hw,W,aqe];generalize M:((t.getD i .bad).fld 1).asStr=x;cases hk:(aae x==0) with
  | true=>simp only [Ad];exact .er i 8 _ Y (by decide) rfl rfl
  | false=>
   have V:aae x≠0:=by simpa using hk
   simp only [Ae,aao,eatS];cases hs:isS 4 [61] (ts t (i+1)) with
   | false=>have hm:(if (t.length:Int)<((i+1:Nat):Int) then (t.length:Int) else ((i+1:Nat):Int))=((i+1:Nat):Int):=if_neg (by omega);simp only [Ae,Rs.bind,Aj,Ad,hm];exact .er (i+1) 2 _ d (by decide) rfl rfl
   | true=>
    have m:=abl hs;simp only [Ad,Rs.bind,Am,Ae,aao];rcases ba7 po (aae x) (an6 V) t Z (i+1+1) m with ⟨v,j,U,M,X⟩ | ⟨j,e,z,U,he,M,X⟩
    ·rw [show ((i+2:Nat):Int)=((i+1+1:Nat):Int) from rfl,M,X];exact .ok _ j U rfl rfl
    ·rw [show ((i+2:Nat):Int)=((i+1+1:Nat):Int) from rfl,M,X];exact .er j e _ U he rfl rfl
 ·have O:(aaw (ts t i) != 1)=true:=bneI H;have o:(aaw (ts t i)==1)=false:=beqI H;simp only [O,o,Ad,Ae];exact .er i 2 _ Y (by decide) rfl rfl
inductive NL (t:List PV) (x:Rs (List PV)) (y:Option (List PV×Int×Int)):Prop
 | ok (v:List PV) (j:Nat):j<=t.length->x=.ok v (ts t j)->y=some (v,((j:Nat):Int),0)->NL t x y
 | er (j:Nat) (e:Int):j<=t.length->e≠0->x=.er (ts t j) e->y=some ([],((j:Nat):Int),e)->NL t x y
theorem a92 (po:ad0) (t:List PV) (ht:TNm t):∀ (m i:Nat) (d:List PV),t.length-i<=m->i<t.length->d.length<=i->NL t (ac9 parV aae (ts t (i+1)) d) (aaz (S36_5step 0) (t,(i:Int),d)):=by
 have hl:=ht.len;intro m;induction m with
 | zero=>grind
 | succ m ih=>
  intro i d hm hi ha;have O:IntKind.wrap .i64 ((i:Int)+1)=((i+1:Nat):Int):=aa9 (by omega);have o:∀ x:PV,decide (d.length+[x].length<=aaf)=true:=λx=>Ah (by grind [aaf]);rw [acy];have hn:=bcu po t ht (i+1) hi;have X:=aoo parV aae (ts t (i+1));rcases hn with ⟨v,j,W,U,H⟩ | ⟨j,e,z,W,Z,U,H⟩
  ·have aa:i+1<j:=by
    have:=X v _ U;grind [adi]
   have Y:IntKind.wrap .i64 ((j:Int)+1)=((j+1:Nat):Int):=aa9 (by omega);simp only [U,Rs.bind];cases M:isS 4 [93] (ts t j) with
   | true=>refine .ok (d++[v]) (j+1) (abl M) (by rw [Ad,aao]) (aac ?_);simp only [S36_5step,S36_5,O,H,Aa,show ((0:Int) != 0)=false from rfl,Ae,o,Ad,aqe,M,Y]
   | false=>
    cases V:isS 4 [44] (ts t j) with
    | true=>
     have ab:=abl V;have st:S36_5step 0 (t,(i:Int),d)=some (.inl (t,((j:Nat):Int),d++[v])):=by simp only [S36_5step,S36_5,O,H,Aa,show ((0:Int) != 0)=false from rfl,Ae,o,Ad,aqe,M,V,Am]
     rw [aan st,Ae,Ad,aao];grind
    | false=>refine .er j 2 W (by decide) rfl (aac ?_);simp only [S36_5step,S36_5,O,H,Aa,show ((0:Int) != 0)=false from rfl,Ae,o,Ad,aqe,M,V,Aj]
  ·simp only [U,Rs.bind];refine .er j e W Z rfl (aac ?_);simp only [S36_5step,S36_5,O,H,Aa,bneI Z,Ad]
theorem azf (O:ad0) (t:List PV) (M:TNm t) (i:Nat) (H:i<=t.length):NL t (acw parV aae (ts t i)) (F36 0 t (i:Int)):=by
 unfold F36 acw;rw [aqe,Aa];cases h:isS 4 [91] (ts t i) with
 | false=>exact .ok [] i H rfl rfl
 | true=>
  simp only [Am,Ae,Ad,aal,aao];rcases a92 O t M _ i [] (Nat.le_refl _) (abl h) (by simp) with ⟨v,j,d,m,o⟩ | ⟨j,e,d,z,m,o⟩
  ·exact .ok v j d m (by rw [o];rfl)
  ·exact .er j e d z m (by rw [o];rfl)
theorem agf (O:ad0) (t:List PV) (H:TNm t) (i:Nat) (z:i<=t.length) (q:QF):Par t q (λv s=>(v,s)) (acw parV aae (ts t i)) (F205 0 () (t,(i:Int),q)):=by
 unfold F205;rcases azf O t H i z with ⟨v,j,d,m,M⟩ | ⟨j,e,d,o,m,M⟩
 ·exact .ok v j d m (by grind)
 ·exact .er j e d o m (by grind)
end Go.Ab
namespace Go.Ab
open Go Go.Proofs
set_option maxRecDepth 100000
theorem a4y (w:Bq) (h:w≠[98,111,111,108]/\w≠[105,51,50]/\w≠[105,54,52]/\w≠[117,51,50]/\w≠[117,54,52]/\w≠[100,111,117,98,108,101]/\w≠[116,101,120,116]/\w≠[98,121,116,101,115]):∃ n,F19 0 w=some n/\n=0:=by
 obtain ⟨V,W,X,Y,Z,h6,h7,h8⟩:=h;have d:(([98,111,111,108]:Bq)==w)=false:=by rw [At];exact λh=>V h.symm
 have m:(([105,51,50]:Bq)==w)=false:=by rw [At];exact λh=>W h.symm
 have o:(([105,54,52]:Bq)==w)=false:=by rw [At];exact λh=>X h.symm
 have z:(([117,51,50]:Bq)==w)=false:=by rw [At];exact λh=>Y h.symm
 have H:(([117,54,52]:Bq)==w)=false:=by rw [At];exact λh=>Z h.symm
 have M:(([100,111,117,98,108,101]:Bq)==w)=false:=by rw [At];exact λh=>h6 h.symm
 have O:(([116,101,120,116]:Bq)==w)=false:=by rw [At];exact λh=>h7 h.symm
 have U:(([98,121,116,101,115]:Bq)==w)=false:=by rw [At];exact λh=>h8 h.symm
 refine ⟨0,?_,rfl⟩;unfold F19;simp only [aal];have e:aaz (S19_3step 0) (w,(1:Int))=some (.inr ()):=by refine aa8 9 ?_;simp [ad1,S19_3step,S19_3,F21,d,m,o,z,H,M,O,U,(by decide:IntKind.wrap .i64 2=2),(by decide:IntKind.wrap .i64 3=3),(by decide:IntKind.wrap .i64 4=4),(by decide:IntKind.wrap .i64 5=5),(by decide:IntKind.wrap .i64 6=6),(by decide:IntKind.wrap .i64 7=7),(by decide:IntKind.wrap .i64 8=8),(by decide:IntKind.wrap .i64 9=9)]
 rw [e];rfl
theorem a02 (w:Bq):∃ n,F18 0 w=some n/\F19 0 w=some n:=by
 by_cases V:w=[98,111,111,108]
 ·subst V;refine ⟨1,?_,?_⟩
  ·unfold F18 F49;simp only [Aa,aal];rw [aa8 9 (y:=.inl 1) (by kernel_rfl)];rfl
  ·unfold F19;simp only [aal];rw [aa8 9 (y:=.inl 1) (by kernel_rfl)];rfl
 by_cases W:w=[105,51,50]
 ·subst W;refine ⟨2,?_,?_⟩
  ·unfold F18 F49;simp only [Aa,aal];rw [aa8 9 (y:=.inl 2) (by kernel_rfl)];rfl
  ·unfold F19;simp only [aal];rw [aa8 9 (y:=.inl 2) (by kernel_rfl)];rfl
 by_cases X:w=[105,54,52]
 ·subst X;refine ⟨3,?_,?_⟩
  ·unfold F18 F49;simp only [Aa,aal];rw [aa8 9 (y:=.inl 3) (by kernel_rfl)];rfl
  ·unfold F19;simp only [aal];rw [aa8 9 (y:=.inl 3) (by kernel_rfl)];rfl
 by_cases Y:w=[117,51,50]
 ·subst Y;refine ⟨4,?_,?_⟩
  ·unfold F18 F49;simp only [Aa,aal];rw [aa8 9 (y:=.inl 4) (by kernel_rfl)];rfl
  ·unfold F19;simp only [aal];rw [aa8 9 (y:=.inl 4) (by kernel_rfl)];rfl
 by_cases Z:w=[117,54,52]
 ·subst Z;refine ⟨5,?_,?_⟩
  ·unfold F18 F49;simp only [Aa,aal];rw [aa8 9 (y:=.inl 5) (by kernel_rfl)];rfl
  ·unfold F19;simp only [aal];rw [aa8 9 (y:=.inl 5) (by kernel_rfl)];rfl
 by_cases h6:w=[100,111,117,98,108,101]
 ·subst h6;refine ⟨6,?_,?_⟩
  ·unfold F18 F49;simp only [Aa,aal];rw [aa8 9 (y:=.inl 6) (by kernel_rfl)];rfl
  ·unfold F19;simp only [aal];rw [aa8 9 (y:=.inl 6) (by kernel_rfl)];rfl
 by_cases h7:w=[116,101,120,116]
 ·subst h7;refine ⟨7,?_,?_⟩
  ·unfold F18 F49;simp only [Aa,aal];rw [aa8 9 (y:=.inl 7) (by kernel_rfl)];rfl
  ·unfold F19;simp only [aal];rw [aa8 9 (y:=.inl 7) (by kernel_rfl)];rfl
 by_cases h8:w=[98,121,116,101,115]
 ·subst h8;refine ⟨8,?_,?_⟩
  ·unfold F18 F49;simp only [Aa,aal];rw [aa8 9 (y:=.inl 8) (by kernel_rfl)];rfl
  ·unfold F19;simp only [aal];rw [aa8 9 (y:=.inl 8) (by kernel_rfl)];rfl
 have d:(([98,111,111,108]:Bq)==w)=false:=by rw [At];exact λh=>V h.symm
 have m:(([105,51,50]:Bq)==w)=false:=by rw [At];exact λh=>W h.symm
 have o:(([105,54,52]:Bq)==w)=false:=by rw [At];exact λh=>X h.symm
 have z:(([117,51,50]:Bq)==w)=false:=by rw [At];exact λh=>Y h.symm
 have H:(([117,54,52]:Bq)==w)=false:=by rw [At];exact λh=>Z h.symm
 have M:(([100,111,117,98,108,101]:Bq)==w)=false:=by rw [At];exact λh=>h6 h.symm
 have O:(([116,101,120,116]:Bq)==w)=false:=by rw [At];exact λh=>h7 h.symm
 have U:(([98,121,116,101,115]:Bq)==w)=false:=by rw [At];exact λh=>h8 h.symm
 refine ⟨0,?_,?_⟩
 ·unfold F18 F49;simp only [Aa,aal];have e:aaz (S18_3step 0) (w,PV.agg [(PV.str ([98,111,111,108]:Bq)),(PV.str ([105,51,50]:Bq)),(PV.str ([105,54,52]:Bq)),(PV.str ([117,51,50]:Bq)),(PV.str ([117,54,52]:Bq)),(PV.str ([100,111,117,98,108,101]:Bq)),(PV.str ([116,101,120,116]:Bq)),(PV.str ([98,121,116,101,115]:Bq))],(0:Int))=some (.inr ()):=by
   refine aa8 9 ?_;simp [ad1,S18_3step,S18_3,aaa,PV.fld,PV.parts,PV.asStr,d,m,o,z,H,M,O,U,(by decide:IntKind.wrap .i64 1=1),(by decide:IntKind.wrap .i64 2=2),(by decide:IntKind.wrap .i64 3=3),(by decide:IntKind.wrap .i64 4=4),(by decide:IntKind.wrap .i64 5=5),(by decide:IntKind.wrap .i64 6=6),(by decide:IntKind.wrap .i64 7=7),(by decide:IntKind.wrap .i64 8=8)]
  rw [e];rfl
 ·unfold F19;simp only [aal];have e:aaz (S19_3step 0) (w,(1:Int))=some (.inr ()):=by
   refine aa8 9 ?_;simp [ad1,S19_3step,S19_3,F21,d,m,o,z,H,M,O,U,(by decide:IntKind.wrap .i64 2=2),(by decide:IntKind.wrap .i64 3=3),(by decide:IntKind.wrap .i64 4=4),(by decide:IntKind.wrap .i64 5=5),(by decide:IntKind.wrap .i64 6=6),(by decide:IntKind.wrap .i64 7=7),(by decide:IntKind.wrap .i64 8=8),(by decide:IntKind.wrap .i64 9=9)]
  rw [e];rfl
end Go.Ab
namespace Go.Ab
open Go
set_option maxRecDepth 100000
theorem bby {t:List PV}{j k:Nat} (d:j<=t.length) (m:k<=t.length) (h:ts t j=ts t k):j=k:=by have:=congrArg List.length h;rw [adi,adi] at this;omega
theorem ana (w:Bq):F18 0 w=some (adz w)/\F19 0 w=some (adz w):=by
 obtain ⟨n,h1,X⟩:=a02 w;suffices h:n=adz w by rw [<-h];exact ⟨h1,X⟩
 have d:∀ (x:Bq) (k:Int),F19 0 x=some k->w=x->n=k:=λx k Y e=>by subst e;rw [X] at Y;cases Y;rfl
 unfold adz;by_cases o:w=[98,111,111,108]
 ·rw [d _ 1 (by unfold F19;simp only [aal];rw [aa8 9 (y:=.inl 1) (by kernel_rfl)];rfl) o,o];rfl
 by_cases z:w=[105,51,50]
 ·rw [d _ 2 (by unfold F19;simp only [aal];rw [aa8 9 (y:=.inl 2) (by kernel_rfl)];rfl) z,z];rfl
 by_cases H:w=[105,54,52]
 ·rw [d _ 3 (by unfold F19;simp only [aal];rw [aa8 9 (y:=.inl 3) (by kernel_rfl)];rfl) H,H];rfl
 by_cases M:w=[117,51,50]
 ·rw [d _ 4 (by unfold F19;simp only [aal];rw [aa8 9 (y:=.inl 4) (by kernel_rfl)];rfl) M,M];rfl
 by_cases O:w=[117,54,52]
 ·rw [d _ 5 (by unfold F19;simp only [aal];rw [aa8 9 (y:=.inl 5) (by kernel_rfl)];rfl) O,O];rfl
 by_cases U:w=[100,111,117,98,108,101]
 ·rw [d _ 6 (by unfold F19;simp only [aal];rw [aa8 9 (y:=.inl 6) (by kernel_rfl)];rfl) U,U];rfl
 by_cases V:w=[116,101,120,116]
 ·rw [d _ 7 (by unfold F19;simp only [aal];rw [aa8 9 (y:=.inl 7) (by kernel_rfl)];rfl) V,V];rfl
 by_cases W:w=[98,121,116,101,115]
 ·rw [d _ 8 (by unfold F19;simp only [aal];rw [aa8 9 (y:=.inl 8) (by kernel_rfl)];rfl) W,W];rfl
 have g:∀ x:Bq,w≠x->(w==x)=false:=λx h=>At.2 h;rw [g _ o,g _ z,g _ H,g _ M,g _ O,g _ U,g _ V,g _ W];obtain ⟨m,Z,q2⟩:=a4y w ⟨o,z,H,M,O,U,V,W⟩;rw [X] at Z;cases Z;exact q2
theorem ax8 (t:List PV) (M:TOk t) (i:Nat) (H:i<=t.length) (q:QF):Par t q (λv s=>(v,s)) (typS (ts t i)) (F52 0 () (t,(i:Int),q)):=by
 unfold F52 typS;rcases ail t M i H q with ⟨v,j,d,m,o⟩ | ⟨j,e,d,z,m,o⟩
 ·rw [m,Rs.bind_ok];simp only [o,Aa,ab0,(ana v).1];refine .ok (tyOf v) j d rfl ?_;unfold tyOf;cases h:(adz v==0) with
  | true=>
   have:(adz v != 0)=false:=by simp [bne,h]
   simp only [this,Ad,Ae]
  | false=>
   have:(adz v != 0)=true:=by simp [bne,h]
   simp only [this,Ad,Ae]
 ·rw [m,Rs.bind_er];exact .er j e d z rfl (by simp only [o,Aa,aa7])
theorem a7t (w:Bq):0<=adz w/\adz w<=8:=by unfold adz;cases (w==[98,111,111,108])<;>cases (w==[105,51,50])<;>cases (w==[105,54,52])<;>cases (w==[117,51,50])<;>cases (w==[117,54,52])<;>cases (w==[100,111,117,98,108,101])<;>cases (w==[116,101,120,116])<;>cases (w==[98,121,116,101,115])<;>decide
theorem atb (s:Bq):0<=((tyOf s).fld 0).asInt/\((tyOf s).fld 0).asInt<=8:=by
 unfold tyOf;cases (adz s==0) with
 | true=>exact ⟨Int.le_refl 0,(by decide:(0:Int)<=8)⟩
 | false=>exact a7t s
theorem azr {r z:List Tk}{d:PV} (h:typS r=.ok d z):0<=(d.fld 0).asInt/\(d.fld 0).asInt<=8:=by
 unfold typS at h;cases m:ack r with
 | ok s q=>rw [m] at h;simp only [Rs.bind_ok,Rs.ok.injEq] at h;rw [<-h.1];exact atb s
 | er q e=>rw [m] at h;cases h
theorem alq (H:ad0) (k:Int) (s:Bq) (o:ape k s) (t:List PV) (z:TOk t) (j:Nat) (m:j+1<=t.length) (q:QF):
 Par t q (λv s=>(v,s)) (valS (parV k s) (ts t j) (ts t (j+1))) (F133 0 () k s (t,((j+1:Nat):Int),q)):=by
 have U:=z.len
 have w:IntKind.wrap .i64 (((j+1:Nat):Int)-1)=(j:Int):=by rw [abi (by omega) (by omega)];omega
 unfold F133 valS
 rw [H k s o,Aa]
 by_cases d:(parV k s).2=0
 ·have M:((parV k s).2 != 0)=false:=by rw [d];rfl
  have O:((parV k s).2==0)=true:=by rw [d];rfl
  simp only [M,O,Ad,Ae];exact .ok _ (j+1) m rfl rfl
 ·simp only [bneI d,beqI d,Ad,Ae,w];exact .er j _ (by omega) d rfl rfl
theorem az2 {t:List PV}{i j:Nat}{v:Bq} (o:j<=t.length) (h:abd (ts t i)=.ok v (ts t j)):i<t.length/\v=((t.getD i .bad).fld 1).asStr/\j=i+1:=by
 unfold abd ae9 at h;cases m:(aaw (ts t i)==3) with
 | false=>rw [m] at h;cases h
 | true=>have d:=abt (show ((3:Int)==0)=false from rfl) m;rw [m,ada d,aao] at h;simp only [Ad,Rs.ok.injEq] at h;exact ⟨d,h.1.symm,bby o d h.2.symm⟩
theorem aob (po:ad0) (k:Int) (f:Bq->Bq) (hf:∀ s:Bq,s.length<=16384->ape k (f s)) (g:Bq×Q0->Option Bq) (hg:∀ (s:Bq) z,s.length<=16384->g (s,z)=some (f s)) (t:List PV) (U:TNum t) (i:Nat) (hi:i<=t.length) (q:QF):
 Par t q (λv s=>(v,s)) ((abd (ts t i)).bind λs r=>valS (parV k (f s)) (ts t i) r) ((F95 0 () (t,(i:Int),q)).bind λz=>sumE (λM=>(g M).bind λY=>(F133 0 () k Y M.2).bind λz=>sumE (λW=>some (.inl W)) (λX=>some (.inr X)) z) (λV=>some (.inr V)) z):=by
 rcases agr t U.toTOk i hi q with ⟨v,j,m,d,o⟩ | ⟨j,e,m,O,d,o⟩
 ·obtain ⟨H,rfl,rfl⟩:=az2 m d;have Z:=U.sml _ (ace H .bad);simp only [d,o,Rs.bind_ok,Aa,ab0,hg _ _ Z];rcases alq po k _ (hf _ Z) t U.toTOk i H q with ⟨v,j,m,d,o⟩ | ⟨j,e,m,O,d,o⟩
  ·exact .ok v j m d (by simp only [o,Aa,ab0])
  ·exact .er j e m O d (by simp only [o,Aa,aa7])
 ·simp only [d,o,Rs.bind_er,Aa,aa7];exact .er j e m O rfl rfl
theorem aqg (po:ad0) (k:Int) (hk:2<=k/\k<=5) (t:List PV) (ht:TNum t) (o:Bool) (m:Bq) (U:m=bif o then [45] else []) (i:Nat) (hi:i<=t.length) (q:QF):Par t q (λv s=>(v,s)) (intS parV k o (ts t i))
 ((
  F117 0 () (t,(i:Int),q)).bind λd=>bif (d.1 != (2:Int)) then some (.inr ((PV.agg [(PV.int d.2.2.1),(PV.int (2:Int))]),d.2)) else
  bif aaa (IntKind.wrap .i64 (IntKind.wrap .i64 (d.2.2.1+(1:Int))-1)) d.2.1.length then
  (F135 0 (IntKind.wrap .u64 ((d.2.1.getD (IntKind.wrap .i64 (IntKind.wrap .i64 (d.2.2.1+(1:Int))-1)).toNat .bad).fld 2).asInt) (10:Int)).bind λH=>
  bif decide (m.length+H.length<=aau) then
  (F133 0 () k (m++H) (d.2.1,IntKind.wrap .i64 (d.2.2.1+(1:Int)),d.2.2.2)).bind λz=>sumE (λX=>some (.inl X)) (λY=>some (.inr Y)) z
  else none else none):=by
 have hl:=ht.len
 rw [ael,Aa]
 unfold intS
 by_cases M:aaw (ts t i)=2
 ·have e1:(aaw (ts t i) != 2)=false:=by rw [M];rfl
  have Z:(aaw (ts t i)==2)=true:=by rw [M];rfl
  have h:i<t.length:=abt rfl Z;obtain ⟨u,hu,h1,h2⟩:=bba (n:=((t.getD i .bad).fld 2).asInt);have aa:=amw u;have ab:m.length<=1:=by subst U;cases o<;>simp
  have l1:decide (m.length+(decB u).length<=aau)=true:=afb (by omega);have w1:IntKind.wrap .i64 ((i:Int)+1)=((i+1:Nat):Int):=aa9 (by omega);have w2:IntKind.wrap .i64 (((i+1:Nat):Int)-1)=(i:Int):=by rw [abi (by omega) (by omega)];omega
  simp only [e1,Z,Ae,Ad,w1,w2,aab,h,decide_true,Ag,h1,fmtB hu,Aa,l1,asd h,<-U,aao];rcases alq po k (m++decB u) (Or.inr (Or.inr ⟨hk,o,u,hu,by rw [U]⟩)) t ht.toTOk i h q with ⟨v,j,O,V,W⟩ | ⟨j,e,O,he,V,W⟩
  ·exact .ok v j O V (by simp only [W,Aa,ab0])
  ·exact .er j e O he V (by simp only [W,Aa,aa7])
 ·simp only [bneI M,beqI M,Ad,Ae];exact .er i 2 hi (by decide) rfl rfl
theorem bco (W:ad0) (k:Int) (hk:0<=k/\k<=8) (t:List PV) (m:TNum t) (i:Nat) (o:i<=t.length) (q:QF):Par t q (λv s=>(v,s)) (litS parV k (ts t i)) (F63 0 () k (t,(i:Int),q)):=by
 have hl:=m.len;unfold F63 litS;by_cases k0:k=0
 ·subst k0;rw [show ((0:Int)==0)=true from rfl,Ad,Ad];rcases akv t m.toTOk i o q with ⟨v,j,H,M,O⟩ | ⟨j,e,H,X,M,O⟩
  ·simp only [M,O,Rs.bind_ok,Aa,ab0];exact .ok (an5 v) j H rfl rfl
  ·simp only [M,O,Rs.bind_er,Aa,aa7];exact .er j e H X rfl rfl
 rw [beqI k0,Ae,Ae];by_cases k1:k=1
 ·subst k1;rw [show ((1:Int)==1)=true from rfl,Ad,Ad];have w1:IntKind.wrap .i64 ((i:Int)+1)=((i+1:Nat):Int):=aa9 (by omega);have w2:IntKind.wrap .i64 (((i+1:Nat):Int)-1)=(i:Int):=by rw [abi (by omega) (by omega)];omega
  have U:∀ h:i<t.length,Par t q (λv s=>(v,s)) (valS (parV 1 (abr (ts t i))) (ts t i) (ts t (i+1))) ((F133 0 () 1 ((t.getD i .bad).fld 1).asStr (t,((i+1:Nat):Int),q)).bind λz=>sumE (λY=>some (.inl Y)) (λZ=>some (.inr Z)) z):=λh=>by
   have V:=m.sml _ (ace h .bad);rw [ada h];rcases alq W 1 ((t.getD i .bad).fld 1).asStr (Or.inl ⟨Or.inl rfl,V⟩) t m.toTOk i h q with ⟨v,j,H,M,O⟩ | ⟨j,e,H,X,M,O⟩
   ·exact .ok v j H M (by simp only [O,Aa,ab0])
   ·exact .er j e H X M (by simp only [O,Aa,aa7])
  simp only [aqs [116,114,117,101] 1 (by decide) t m.toTOk i o,aqs [102,97,108,115,101] 1 (by decide) t m.toTOk i o,Aa];cases h1:isS 1 [116,114,117,101] (ts t i) with
  | true=>have h:=abl h1;simp only [Am,Ae,Bool.true_or,Ad,w1,w2,aab,h,decide_true,Ag,aao];exact U h
  | false=>
   cases h2:isS 1 [102,97,108,115,101] (ts t i) with
   | true=>have h:=abl h2;simp only [Am,Aj,Ae,Bool.or_true,Ad,w1,w2,aab,h,decide_true,Ag,aao];exact U h
   | false=>simp only [Aj,Ad,Bool.or_false,Ae];exact .er i 2 o (by decide) rfl rfl
 rw [beqI k1,Ae,Ae];have d:=λ(h:k=6\/k=8)=>aob W k (λs=>s) (λs V=>Or.inl ⟨Or.inr h,V⟩) (λy=>some y.1) (λs z h=>rfl) t m i o q;by_cases k6:k=6
 ·subst k6;rw [show ((6:Int)==6)=true from rfl,Ad,Bool.true_or,Ad];exact d (Or.inl rfl)
 by_cases k8:k=8
 ·subst k8;rw [show ((8:Int)==6)=false from rfl,show ((8:Int)==8)=true from rfl,Ae,Ad,Bool.or_true,Ad];exact d (Or.inr rfl)
 rw [beqI k6,beqI k8,Ae,Ae,Bool.or_false,Ae];by_cases k7:k=7
 ·subst k7;rw [show ((7:Int)==7)=true from rfl,Ad,Ad];exact aob W 7 aa4 (λs h=>Or.inr (Or.inl ⟨rfl,s,h,rfl⟩)) (λy=>F134 0 y.1) (λs z h=>asm s (by omega)) t m i o q
 rw [beqI k7,Ae,Ae];simp only [alk [45] 4 (by decide) t m.toTOk i o,Aa];cases V:isS 4 [45] (ts t i) with
 | true=>simp only [Ad,aao];exact aqg W k (by omega) t m true [45] rfl (i+1) (abl V) q
 | false=>simp only [Ae];exact aqg W k (by omega) t m false [] rfl i o q
end Go.Ab
namespace Go.Ab
open Go
set_option maxRecDepth 100000
theorem Par.seq {M U R O:Type}{t:List PV}{q:QF}{mk:M->Q0->R}{d:U->Q0->O}{x:Rs M}{y:Option (R⊕(PV×Q0))}{f:M->List Tk->Rs U}{g:R->Option (O⊕(PV×Q0))} (h:Par t q mk x y)
 (V:∀ v j,j<=t.length->x=.ok v (ts t j)->Par t q d (f v (ts t j)) (g (mk v (t,((j:Nat):Int),q)))):Par t q d (x.bind f) (y.bind λz=>sumE g (λe=>some (.inr e)) z):=by
 rcases h with ⟨v,j,o,m,H⟩ | ⟨j,e,o,W,m,H⟩
 ·have:=V v j o m;rw [m,H];exact this
 ·rw [m,H];exact .er j e o W rfl rfl
theorem Par.map {m H R o:Type}{t:List PV}{q:QF}{mk:m->Q0->R}{d:H->Q0->o}{x:Rs m}{y:Option (R⊕(PV×Q0))}{f:m->H}{g:R->o} (h:Par t q mk x y)
 (M:∀ v s,g (mk v s)=d (f v) s):Par t q d (x.bind λv r=>.ok (f v) r) (y.bind λz=>sumE (λa=>some (.inl (g a))) (λe=>some (.inr e)) z):=
 h.seq λv j O U=>.ok (f v) j O rfl (by rw [M])
def fld0 (card key:Int) (d:PV) (m:Bq):PV:=PV.agg [PV.int 0,PV.str [],PV.int card,PV.int key,d,PV.str m,PV.bool false,abn,PV.slice []]
theorem as7 (po:ad0) (card key:Int) (X:PV) (Y W:Bq) (n:Int) (U:Bool) (O:PV) (t:List PV) (V:TNum t) (j:Nat) (Z:j<=t.length) (q:QF):
 Par t q (λv s=>(v,s)) ((acw parV aae (ts t j)).bind λl r5=>(eatS 4 [59] r5).bind λ_ r6=>.ok (agx n W card key X Y U O l) r6)
  ((
   F205 0 () (t,(j:Int),q)).bind λz=>sumE (λd=>(F94 0 () [59] d.2).bind λz=>sumE (λH=>
   some (.inl (agx n W card key X Y U O d.1,H))) (λM=>some (.inr M)) z) (λo=>some (.inr o)) z):=
 (agf po t V.toTNm j Z q).seq λl k hk _=>(ad9 [59] 4 (by decide) t V.toTOk k hk q).seq λ_ m hm _=>.ok _ m hm rfl rfl
theorem as8 (H:ad0) (card key:Int) (d:PV) (z:Bq) (Z:Bool) (V:0<=(d.fld 0).asInt/\(d.fld 0).asInt<=8) (t:List PV) (o:TNum t) (i:Nat) (hi:i<=t.length) (q:QF):
 Par t q (λv s=>(v,s)) (ag9 parV aae card key d z Z (ts t i)) (F119 0 () (fld0 card key d z) Z (t,(i:Int),q)):=by
 unfold F119 ag9
 refine (akv t o.toTOk i hi q).seq λY j hj _=>(ad9 [61] 4 (by decide) t o.toTOk j hj q).seq λ_ k hk _=>(ase t o.toTOk k hk 65535 (by decide) o.num q).seq λn m O _=>?_
 cases Z with
 | true=>
  simp only [Ad,alk [100,101,102,97,117,108,116] 1 (by decide) t o.toTOk m O,Aa,ari,Bool.true_and]
  cases hd:isS 1 [100,101,102,97,117,108,116] (ts t m) with
  | true=>
   simp only [Ad,aao]
   have M:=abl hd
   rcases bco H ((d.fld 0).asInt) V t o (m+1) M q with ⟨v,p,U,W,X⟩ | ⟨p,e,U,he,W,X⟩
   ·rw [W,show F63 0 () (((fld0 card key d z).fld 4).fld 0).asInt (t,((m+1:Nat):Int),q)=F63 0 () (d.fld 0).asInt (t,((m+1:Nat):Int),q) from rfl,X];exact as7 H card key d z Y n true v t o p U q
   ·rw [W,show F63 0 () (((fld0 card key d z).fld 4).fld 0).asInt (t,((m+1:Nat):Int),q)=F63 0 () (d.fld 0).asInt (t,((m+1:Nat):Int),q) from rfl,X];exact .er p e U he rfl rfl
  | false=>
   simp only [Ae,Rs.bind_ok]
   exact as7 H card key d z Y n false abn t o m O q
 | false=>
  simp only [Ae,ari,Bool.false_and,Rs.bind_ok]
  exact as7 H card key d z Y n false abn t o m O q
theorem bb8 (w:Bq):F120 0 w=some (af3 w):=by grind [F120,af3]
theorem a4a (po:ad0) (t:List PV) (X:TNum t) (i:Nat) (Z:i<=t.length) (q:QF):Par t q (λv s=>(v,s)) (afh parV aae (ts t i)) (F55 0 () (t,(i:Int),q)):=by
 have hl:=X.len;have o:=X.toTOk;unfold F55 afh;simp only [alk [109,97,112] 1 (by decide) t o i Z,Aa];cases h0:isS 1 [109,97,112] (ts t i) with
 | true=>
  simp only [Ad,aao];refine (ad9 [60] 4 (by decide) t o (i+1) (abl h0) q).seq λ_ j hj _=>?_;simp only [ael,Aa];by_cases H:aaw (ts t j)=1
  ·have M:(aaw (ts t j) != 1)=false:=by rw [H];rfl
   have z:(aaw (ts t j)==1)=true:=by rw [H];rfl
   have h:j<t.length:=abt rfl z;simp only [M,z,imp,aab,h,decide_true,Aj,Ad,Ae,Ag,(ana _).1,Aa,ada h,Bool.true_and,aa9 (show j<=9223372036854775000 by omega),aao];cases hk:(adz ((t.getD j .bad).fld 1).asStr==0) with
   | true=>exact .er j 2 hj (by decide) rfl rfl
   | false=>
    simp only [Aj,Ad,Ae];exact (ad9 [44] 4 (by decide) t o (j+1) h q).seq λ_ k hk _=>(ax8 t o k hk q).seq λW m hm U=>(ad9 [62] 4 (by decide) t o m hm q).seq λ_ p hp _=>by
     rcases as8 po 5 (adz ((t.getD j .bad).fld 1).asStr) W [] false (azr U) t X p hp q with ⟨v,a,O,V,d⟩ | ⟨a,e,O,Y,V,d⟩
     ·exact .ok v a O V (by have d:F119 0 () (PV.agg [(PV.int (0:Int)),(PV.str ([]:Bq)),(PV.int (5:Int)),(PV.int (adz ((t.getD j .bad).fld 1).asStr)),W,(PV.str ([]:Bq)),(PV.bool false),(PV.agg [(PV.int (0:Int)),(PV.int (0:Int)),(PV.str ([]:Bq)),(PV.slice []),(PV.slice []),(PV.slice []),(PV.slice [])]),(PV.slice [])]) false (t,((p:Nat):Int),q)=_:=d;grind [ab0])
     ·exact .er a e O Y V (by have d:F119 0 () (PV.agg [(PV.int (0:Int)),(PV.str ([]:Bq)),(PV.int (5:Int)),(PV.int (adz ((t.getD j .bad).fld 1).asStr)),W,(PV.str ([]:Bq)),(PV.bool false),(PV.agg [(PV.int (0:Int)),(PV.int (0:Int)),(PV.str ([]:Bq)),(PV.slice []),(PV.slice []),(PV.slice []),(PV.slice [])]),(PV.slice [])]) false (t,((p:Nat):Int),q)=_:=d;grind [aa7])
  ·have M:(aaw (ts t j) != 1)=true:=bneI H;have z:(aaw (ts t j)==1)=false:=beqI H;simp only [M,z,imp,Am,Aj,Ad,Ae,aag,Aa,Bool.false_and];exact .er j 2 hj (by decide) rfl rfl
 | false=>
  simp only [Ae,ael,Aa];by_cases H:aaw (ts t i)=1
  ·have M:(aaw (ts t i) != 1)=false:=by rw [H];rfl
   have z:(aaw (ts t i)==1)=true:=by rw [H];rfl
   have h:i<t.length:=abt rfl z;simp only [M,z,imp,aab,h,decide_true,Aj,Ad,Ae,Ag,bb8,Aa,ada h,Bool.true_and,aa9 (show i<=9223372036854775000 by omega),aao];cases hk:(af3 ((t.getD i .bad).fld 1).asStr==0) with
   | true=>exact .er i 2 Z (by decide) rfl rfl
   | false=>
    simp only [Aj,Ad,Ae];exact (ax8 t o (i+1) h q).seq λW p hp U=>by
     rcases as8 po (af3 ((t.getD i .bad).fld 1).asStr) 0 W [] true (azr U) t X p hp q with ⟨v,a,O,V,d⟩ | ⟨a,e,O,Y,V,d⟩
     ·exact .ok v a O V (by have d:F119 0 () (PV.agg [(PV.int (0:Int)),(PV.str ([]:Bq)),(PV.int (af3 ((t.getD i .bad).fld 1).asStr)),(PV.int (0:Int)),W,(PV.str ([]:Bq)),(PV.bool false),(PV.agg [(PV.int (0:Int)),(PV.int (0:Int)),(PV.str ([]:Bq)),(PV.slice []),(PV.slice []),(PV.slice []),(PV.slice [])]),(PV.slice [])]) true (t,((p:Nat):Int),q)=_:=d;grind [ab0])
     ·exact .er a e O Y V (by have d:F119 0 () (PV.agg [(PV.int (0:Int)),(PV.str ([]:Bq)),(PV.int (af3 ((t.getD i .bad).fld 1).asStr)),(PV.int (0:Int)),W,(PV.str ([]:Bq)),(PV.bool false),(PV.agg [(PV.int (0:Int)),(PV.int (0:Int)),(PV.str ([]:Bq)),(PV.slice []),(PV.slice []),(PV.slice []),(PV.slice [])]),(PV.slice [])]) true (t,((p:Nat):Int),q)=_:=d;grind [aa7])
  ·have M:(aaw (ts t i) != 1)=true:=bneI H;have z:(aaw (ts t i)==1)=false:=beqI H;simp only [M,z,imp,Am,Aj,Ad,Ae,aag,Aa,Bool.false_and];exact .er i 2 Z (by decide) rfl rfl
end Go.Ab
namespace Go.Ab
open Go
set_option maxRecDepth 100000
inductive RPar {α R:Type} (t:List PV) (q:QF) (mk:α->Q4->R) (x:Rs α) (y:Option R):Prop
 | ok (v:α) (j:Nat):j<=t.length->x=.ok v (ts t j)->y=some (mk v (t,((j:Nat):Int),0,q))->RPar t q mk x y
 | er (j:Nat) (e:Int) (v:α):j<=t.length->e≠0->x=.er (ts t j) e->y=some (mk v (t,((j:Nat):Int),e,q))->RPar t q mk x y
structure RF {α R:Type} (t:List PV) (q:QF) (mk:α->Q4->R) (c:Prop) (f:List Tk->Rs α) (F:Q4->Option R):Prop where
 rp:c->∀ i:Nat,i<=t.length->RPar t q mk (f (ts t i)) (F (t,(i:Int),0,q))
 st:∀ (j:Nat) (e:Int),j<=t.length->e≠0->∃ v,F (t,(j:Int),e,q)=some (mk v (t,(j:Int),e,q))
section
variable {t:List PV}{q:QF}{c:Prop}
theorem RF.bind {z W R H:Type}{mk:z->Q4->R}{o:W->Q4->H}{f:List Tk->Rs z}{F:Q4->Option R}{f2:z->List Tk->Rs W}{g:R->Option H} (h:RF t q mk c f F)
 (M:∀ v,RF t q o (c/\∃ i j,i<=t.length/\j<=t.length/\f (ts t i)=.ok v (ts t j)) (f2 v) (λs=>g (mk v s))):RF t q o c (λr=>(f r).bind f2) (λs=>(F s).bind g):=by
 refine ⟨λY i X=>?_,λj e d m=>?_⟩
 ·rcases h.rp Y i X with ⟨v,j,d,U,V⟩ | ⟨j,e,v,d,m,U,V⟩
  ·grind [Rs.bind_ok,rp]
  ·simp only [U,V,Rs.bind_er,Aa];obtain ⟨w,O⟩:=(M v).st j e d m;exact .er j e w d m rfl O
 ·obtain ⟨v,Z⟩:=h.st j e d m;obtain ⟨w,O⟩:=(M v).st j e d m;grind
theorem RF.imp {m R:Type}{mk:m->Q4->R}{d:Prop}{f:List Tk->Rs m}{F:Q4->Option R} (h:RF t q mk c f F) (o:d->c):RF t q mk d f F:=⟨λx=>h.rp (o x),h.st⟩
theorem RF.ret {d o R:Type}{mk:d->Q4->R} (v:d):RF t q mk c (λr=>.ok v r) (λs=>some (mk v s)):=⟨λ_ i m=>.ok v i m rfl rfl,λj e _ _=>⟨v,rfl⟩⟩
theorem RF.ret' {m R:Type}{mk:m->Q4->R}{g:Q4->Option R} (v:m) (d:∀ s,g s=some (mk v s)):RF t q mk c (λr=>.ok v r) g:=⟨λ_ i o=>.ok v i o rfl (d _),λj e _ _=>⟨v,d _⟩⟩
theorem RF.congr {z R:Type}{mk:z->Q4->R}{f m:List Tk->Rs z}{F d:Q4->Option R} (h:RF t q mk c f F) (O:∀ r,m r=f r) (o:∀ s,d s=F s):RF t q mk c m d:=
 ⟨λH i U=>by rw [O,o];exact h.rp H i U,λj e V M=>by rw [o];exact h.st j e V M⟩
theorem art (k:Int) (o:(k==0)=false) (i:Nat):F105 0 () k (t,(i:Int),0,q)=some (aaw (ts t i)==k,(t,(i:Int),0,q)):=by
 unfold F105;by_cases h:i<t.length
 ·have d:decide ((i:Int)<(t.length:Int))=true:=Ah (by omega);simp only [show ((0:Int)==0)=true from rfl,d,Ad,imp,aab,h,decide_true,Ag,aw1 h]
 ·have d:decide ((i:Int)<(t.length:Int))=false:=Al (by omega);have m:(aaw (ts t i)==k)=false:=by
   grind [afp,aaw,beq_eq_false_iff_ne]
  simp only [show ((0:Int)==0)=true from rfl,d,m,Ad,Ae,imp,Aj,aag]
theorem amp (k:Int) (a e:Int) (d:e≠0):F105 0 () k (t,a,e,q)=some (false,(t,a,e,q)):=by unfold F105;simp only [beqI d,Ae,imp,Aj,Ad,aag]
theorem a0p (d a:Int):F106 0 () d (t,a,0,q)=some (t,a,d,q):=rfl
theorem ai8 (d a e:Int) (m:e≠0):F106 0 () d (t,a,e,q)=some (t,a,e,q):=by unfold F106;simp only [beqI m,Ae]
theorem isR (k:Int) (m:(k==0)=false) (s:Bq) (i:Nat):F107 0 () k s (t,(i:Int),0,q)=some (isS k s (ts t i),(t,(i:Int),0,q)):=by
 unfold F107;rw [art k m,Aa];cases h:(aaw (ts t i)==k) with
 | true=>have d:=abt m h;rw [aw1 d] at h;simp only [imp,Ad,aab,d,decide_true,Ag,bbj d,h,Bool.true_and]
 | false=>
  have:isS k s (ts t i)=false:=by
   cases o:ts t i with
   | nil=>rfl
   | cons x r=>rw [o] at h;simp only [aaw] at h;simp only [isS,h,Bool.false_and]
  simp only [imp,Ae,Aj,Ad,aag,this]
theorem isE (k:Int) (s:Bq) (a e:Int) (d:e≠0):F107 0 () k s (t,a,e,q)=some (false,(t,a,e,q)):=by unfold F107;rw [amp k a e d];simp only [Aa,imp,Ae,Aj,Ad,aag]
theorem mayR (o:TOk t) (k:Int) (d:(k==0)=false) (s:Bq) (i:Nat):F102 0 () k s (t,(i:Int),0,q)=some (bif isS k s (ts t i) then (true,(t,((i+1:Nat):Int),0,q)) else (false,(t,(i:Int),0,q))):=by
 have z:=o.len;unfold F102;rw [isR k d,Aa];cases h:isS k s (ts t i) with
 | true=>have m:=abl h;simp only [Am,Ae,Ad,aa9 (show i<=9223372036854775000 by omega)]
 | false=>rfl
theorem mayE (k:Int) (s:Bq) (a e:Int) (d:e≠0):F102 0 () k s (t,a,e,q)=some (false,(t,a,e,q)):=by grind [F102,isE]
theorem RF.may {O m:Type}{d:O->Q4->m} (Y:TOk t) (k:Int) (X:(k==0)=false) (s:Bq) {f1 f2:List Tk->Rs O}{g:Bool×Q4->Option m} (U:RF t q d c f1 (λz=>g (true,z))) (o:RF t q d c f2 (λz=>g (false,z))):
 RF t q d c (λr=>bif isS k s r then f1 r.tail else f2 r) (λz=>(F102 0 () k s z).bind g):=by
 refine ⟨λH i V=>?_,λj e W M=>?_⟩
 ·simp only [mayR Y k X,Aa,aao];cases h:isS k s (ts t i) with
  | true=>exact U.rp H (i+1) (abl h)
  | false=>exact o.rp H i V
 ·simp only [mayE k s _ e M,Aa];exact o.st j e W M
theorem RF.fail {O R:Type}{mk:O->Q4->R}{g:Q4->Option R} (e:Int) (z:e≠0) (H:∃ v,∀ s,g s=some (mk v s)):RF t q mk c (λr=>.er r e) (λs=>(F106 0 () e s).bind g):=by obtain ⟨v,m⟩:=H;refine ⟨λ_ i M=>.er i e v M z rfl (by simp only [a0p,Aa,m]),λj o U d=>⟨v,by simp only [ai8 e _ o d,Aa,m]⟩⟩
theorem bbs (M:TOk t) (k:Int) (H:(k==0)=false) (s:Bq) {g:Q4->Option Q4} (o:∀ z,g z=(F102 0 () k s z).bind λd=>bif !d.1 then (F106 0 () 2 d.2).bind λm=>some m else some d.2):RF t q (λ_ z=>z) c (eatS k s) g:=by refine RF.congr (RF.may (f1:=λr=>.ok () r) (f2:=λr=>.er r 2) (g:=λd=>bif !d.1 then (F106 0 () 2 d.2).bind λm=>some m else some d.2) M k H s (RF.ret' () λs=>rfl) ?_) (λr=>rfl) o;exact RF.fail 2 (by decide) ⟨(),λs=>rfl⟩
theorem ajb (d:TOk t) (s:Bq):RF t q (λ_ z=>z) c (eatS 4 s) (F104 0 () s):=bbs d 4 rfl s λz=>rfl
theorem bbw (U:TOk t) (k:Int) (O:(k==0)=false) {p:Bq->Bool}{T:Bq->Option Bool} (V:∀ s,s.length<=1048576->T s=some (!p s)) {g:Q4->Option (Bq×Q4)}
 (H:∀ z:Q4,g z=(F105 0 () k z).bind λd=>bif !d.1 then (F106 0 () 2 d.2).bind λX=>some ([],X) else
  bif aaa d.2.2.1 d.2.1.length then (T ((d.2.1.getD d.2.2.1.toNat .bad).fld 1).asStr).bind λY=>bif Y then (F106 0 () 8 d.2).bind λm=>some ([],m) else
   some (((d.2.1.getD d.2.2.1.toNat .bad).fld 1).asStr,d.2.1,IntKind.wrap .i64 (d.2.2.1+1),d.2.2.2) else none):RF t q (λv z=>(v,z)) c (ae9 k p) g:=by
 have hl:=U.len
 refine ⟨λ_ i M=>?_,λj e Z o=>?_⟩
 ·rw [H,art k O,Aa];unfold ae9;cases W:(aaw (ts t i)==k) with
  | false=>exact .er i 2 [] M (by decide) rfl rfl
  | true=>
   have h:=abt O W;simp only [Am,Ae,Ad,aab,h,decide_true,Ag,V _ (aq0 U h),Aa,ada h,aa9 (show i<=9223372036854775000 by omega)];cases hp:p ((t.getD i .bad).fld 1).asStr with
   | true=>exact .ok _ (i+1) h (by rw [Ad,aao]) rfl
   | false=>exact .er i 8 [] M (by decide) rfl rfl
 ·refine ⟨[],?_⟩;rw [H,amp k _ e o];simp only [Aa,Aj,Ad,ai8 2 _ e o]
theorem avt (s:Bq) (d:s.length<=1048576):F218 0 s=some (asz s):=by
 unfold F218 asz;rw [ai3 s (by omega)];cases acj s with
 | true=>simp only [Aa,Ad,alp,Bool.true_and]
 | false=>simp only [Aa,Ae,Bool.false_and]
theorem a6a (m:TOk t):RF t q (λv z=>(v,z)) c ai9 (F136 0 ()):=
 bbw m 1 rfl (p:=asz) (T:=λs=>(F218 0 s).bind λy=>some (!y)) (λs d=>by rw [avt s d];rfl) λz=>by unfold F136;simp only [Option.bind_assoc,Aa]
noncomputable def bbc (s:Bq):Option Bool:=(F219 0 s).bind (λH=>
 let d:=!H
 let o:=(s.length:Int)==(0:Int)
 bif imp (bif !o then d else false) (aaa (0:Int) s.length) then
 let m:=bif o then true else (((s.getD (0:Int).toNat 0).toNat:Int) != (46:Int))
 bif imp (bif !m then d else false) (decide (0<=(1:Int)/\(1:Int)<=(s.length:Int)/\(s.length:Int)<=(s.length:Int))) then
 (bif bif !m then d else false then F219 0 ((s.take (s.length:Int).toNat).drop (1:Int).toNat) else some false).bind λz=>some (bif d then (bif m then true else (!z)) else false)
 else none else none)
theorem bdk (s:Bq) (o:s.length<=1048576):bbc s=some (!aik s):=by
 unfold bbc;rw [ad4 s o,Aa];cases s with
 | nil=>decide
 | cons b r=>
  have H:(((b::r).length:Int)==(0:Int))=false:=by rw [At];simp only [Ao];omega
  have M:aaa (0:Int) (b::r).length=true:=in0 b r;have O:decide (0<=(1:Int)/\(1:Int)<=((b::r).length:Int)/\((b::r).length:Int)<=((b::r).length:Int))=true:=Ah (by simp only [Ao];omega);have U:(((b::r).take ((b::r).length:Int).toNat).drop (1:Int).toNat)=r:=by rw [Ag,List.take_length];rfl
  have V:(((((b::r).getD (0:Int).toNat 0).toNat:Nat):Int) != (46:Int))=!(b==46):=by show ((b.toNat:Int) != (46:Int))=!(b==46);unfold bne;rw [bqI (c:=b) (k:=46) (n:=46) rfl]
  have W:(b==46)=true->ae2 (b::r)=false:=λd=>by
   cases h:ae2 (b::r) with
   | false=>rfl
   | true=>
    obtain ⟨c,z,e,m⟩:=a0u h;simp only [List.cons.injEq] at e;have d:b=46:=by simpa using d
    rw [<-e.1,d] at m;exact absurd m (by decide)
  have X:F219 0 r=some (ae2 r):=ad4 r (by simp only [Ao] at o;omega);show _=some (!(bif b==46 then ae2 r else ae2 (b::r)));simp only [H,M,O,U,V,imp,Aj,Ad,Ae,aag,X,Bool.not_not];cases d:(b==46) with
  | true=>rw [W d];simp
  | false=>cases ae2 (b::r)<;>simp
theorem cbn {d m:Type} (b:Bool) (x:Option d) (K:d->Option m):(bif b then x else none).bind K=bif b then x.bind K else none:=by cases b<;>rfl
theorem azw (m:TOk t):RF t q (λv z=>(v,z)) c ack (F116 0 ()):=
 bbw m 1 rfl (p:=aik) (T:=bbc) (λs d=>bdk s d) λz=>by unfold F116 bbc;simp only [Option.bind_assoc,cbn,Aa]
theorem typR (m:TOk t):RF t q (λv z=>(v,z)) c typS (F53 0 ()):=by
 refine RF.congr (F:=λs=>(F116 0 () s).bind λd=>some (tyOf d.1,d.2)) (RF.bind (f2:=λs r=>.ok (tyOf s) r) (azw m) λv=>RF.ret' (tyOf v) λs=>rfl) (λr=>rfl) λz=>?_;unfold F53;congr 1;funext d;simp only [(ana _).2,Aa];unfold tyOf;cases h:(adz d.1==0) with
 | true=>
  have:(adz d.1 != 0)=false:=by simp [bne,h]
  simp only [this,Ad,Ae]
 | false=>
  have:(adz d.1 != 0)=true:=by simp [bne,h]
  simp only [this,Ad,Ae]
end
end Go.Ab
namespace Go.Ab
open Go
set_option maxRecDepth 100000
def av0:Prop:=∀ (k:Int) (s:Bq),ape k s->F242 0 k s=some (parV k s)
theorem a0i:∀ (k u i:Nat) (d:Bq),u<10^(k+1)->u<18446744073709551616->d.length+k<=1000->i+k<=19->aaz (S138_4step 0) ((u:Int),d,(i:Int))=some (preD u++d):=by
 intro k;induction k with
 | zero=>intro u i d H _ _ O;have m:decide ((u:Int)>=(10:Int))=false:=Al (by omega);rw [preD,if_pos (by omega)];exact aac (by simp only [S138_4step,S138_4,m,aag,Ae];rfl)
 | succ k Y=>
  intro u i d H M Z O;by_cases h:u<10
  ·have m:decide ((u:Int)>=(10:Int))=false:=Al (by omega);rw [preD,if_pos h];exact aac (by simp only [S138_4step,S138_4,m,aag,Ae];rfl)
  ·have m:decide ((u:Int)>=(10:Int))=true:=Ah (by omega);have o:decide ((i:Int)<(20:Int))=true:=Ah (by omega);have X:IntKind.wrap .u64 ((u:Int).tdiv (10:Int))=((u / 10:Nat):Int):=by
    rw [show (u:Int).tdiv (10:Int)=((u / 10:Nat):Int) from rfl,IntKind.wrap_u64];omega
   have V:((u / 10:Nat):Int).tmod (10:Int)=((u / 10%10:Nat):Int):=rfl;have W:preD u++d=preD (u / 10)++(UInt8.ofNat (48+u / 10%10)::d):=by have:=asj (u / 10);rw [show preD u=Lib.decDigits (u / 10) by rw [preD,if_neg h],<-this,Ax];rfl
   rw [W,<-Y (u / 10) (i+1) (UInt8.ofNat (48+u / 10%10)::d) (by rw [Nat.pow_succ] at H;omega) (by omega) (by simp;omega) (by omega)];refine aan ?_;have U:decide ([UInt8.ofNat (48+u / 10%10)].length+d.length<=aau)=true:=afb (by simp;omega);have z:IntKind.wrap .i64 ((i:Int)+1)=((i+1:Nat):Int):=aa9 (by omega);simp only [S138_4step,S138_4,m,o,X,V,z,Ad,dig _ (Nat.mod_lt _ (by decide:0<10)),U];rfl
theorem a8m (u:Nat) (m:u<18446744073709551616):F138 0 (u:Int)=some (decB u):=by unfold F138;have d:((u:Nat):Int).tmod (10:Int)=((u%10:Nat):Int):=rfl;rw [d,dig _ (Nat.mod_lt _ (by decide:0<10)),aal,show (0:Int)=((0:Nat):Int) from rfl,a0i 19 u 0 _ (by omega) m (by simp) (by omega),asj,ahs (by omega)];rfl
section
variable {t:List PV}{q:QF}{c:Prop}
theorem numR (V:TNum t) (d:Int):RF t q (λv z=>(v,z)) c (numS d) (F226 0 () d):=by
 have X:=V.len;refine ⟨λ_ i M=>?_,λj e W H=>⟨0,?_⟩⟩
 ·unfold F226 numS;rw [art 2 rfl,Aa];cases U:(aaw (ts t i)==2) with
  | false=>exact .er i 2 0 M (by decide) rfl rfl
  | true=>
   have h:=abt (show ((2:Int)==0)=false from rfl) U;have O:∀ n:Int,(bif decide (n<0) then true else decide (n>d))=!decide (0<=n/\n<=d):=λn=>by
    by_cases o:0<=n/\n<=d
    ·rw [Ah o,Al (by omega),Al (by omega)];rfl
    ·rw [Al o];by_cases m:n<0
     ·rw [Ah m];rfl
     ·rw [Al m,Ah (by omega)];rfl
   simp only [Am,Ae,Ad,aab,h,decide_true,Ag,asd h,O,aa9 (show i<=9223372036854775000 by omega)];cases Y:decide (0<=((t.getD i .bad).fld 2).asInt/\((t.getD i .bad).fld 2).asInt<=d) with
   | true=>exact .ok _ (i+1) h (by rw [Ad,aao]) rfl
   | false=>exact .er i 6 0 M (by decide) rfl rfl
 ·unfold F226;rw [amp 2 _ e H];simp only [Aa,Aj,Ad,ai8 2 _ e H]
theorem aqj (X:ad0) (W:TNum t) (U:t.length<=100000):RF t q (λv z=>(v,z)) c (acw parV aae) (F222 0 ()):=by
 refine ⟨λ_ i V=>?_,λj e m o=>⟨[],?_⟩⟩
 ·unfold F222;obtain ⟨r,M,O,_⟩:=bc0 t U (i:Int);rcases azf X t W.toTNm i V with ⟨v,j,m,H,d⟩ | ⟨j,e,m,o,H,d⟩
  ·rw [M] at d;cases d;exact .ok v j m H (by simp only [show ((0:Int) != 0)=false from rfl,Ae,O,Aa,a0p])
  ·rw [M] at d;cases d;exact .er j e [] m o H (by simp only [show ((0:Int) != 0)=false from rfl,Ae,O,Aa,a0p])
 ·unfold F222;simp only [bneI o,Ad]
theorem a97 (M:av0) (H:TNum t) (k:Int) (s:Bq) (o:ape k s) (i:Nat) (m:i<t.length):RPar t q (λv z=>(v,z)) (valS (parV k s) (ts t i) (ts t (i+1))) ((F137 0 () k s (t,(i:Int),0,q)).bind λy=>some y):=by
 have V:=H.len;unfold F137 valS;rw [M k s o,Aa];by_cases d:(parV k s).2=0
 ·have O:((parV k s).2 != 0)=false:=by rw [d];rfl
  have U:((parV k s).2==0)=true:=by rw [d];rfl
  simp only [O,U,Ad,Ae,aa9 (show i<=9223372036854775000 by omega)];exact .ok _ (i+1) m rfl rfl
 ·simp only [bneI d,beqI d,Ad,Ae];exact .er i _ abn (by omega) d rfl rfl
theorem intR (ro:av0) (ht:TNum t) (k:Int) (hk:2<=k/\k<=5) (o:Bool) (m:Bq) (M:m=bif o then [45] else []) (i:Nat) (Z:i<=t.length):RPar t q (λv z=>(v,z)) (intS parV k o (ts t i))
 ((
  F105 0 () 2 (t,(i:Int),0,q)).bind λd=>bif !d.1 then (F106 0 () 2 d.2).bind λO=>some (abn,O) else
  bif aaa d.2.2.1 d.2.1.length then (F138 0 (IntKind.wrap .u64 ((d.2.1.getD d.2.2.1.toNat .bad).fld 2).asInt)).bind λH=>
  bif decide (m.length+H.length<=aau) then (F137 0 () k (m++H) d.2).bind λU=>some U else none else none):=by
 rw [art 2 rfl,Aa]
 unfold intS
 cases Y:(aaw (ts t i)==2) with
 | false=>exact .er i 2 abn Z (by decide) rfl rfl
 | true=>
  have h:=abt (show ((2:Int)==0)=false from rfl) Y
  obtain ⟨u,W,X,h2⟩:=bba (n:=((t.getD i .bad).fld 2).asInt)
  have V:=amw u
  have aa:m.length<=1:=by subst M;cases o<;>simp
  have l1:decide (m.length+(decB u).length<=aau)=true:=afb (by omega)
  simp only [Am,Ae,Ad,aab,h,decide_true,Ag,X,a8m u W,Aa,l1,asd h,<-M,aao]
  exact a97 ro ht k (m++decB u) (Or.inr (Or.inr ⟨hk,o,u,W,by rw [M]⟩)) i h
theorem intE (k:Int) (m:Bq) (a e:Int) (M:e≠0):((F105 0 () 2 (t,a,e,q)).bind λd=>bif !d.1 then (F106 0 () 2 d.2).bind λz=>some (abn,z) else
 bif aaa d.2.2.1 d.2.1.length then (F138 0 (IntKind.wrap .u64 ((d.2.1.getD d.2.2.1.toNat .bad).fld 2).asInt)).bind λo=>
 bif decide (m.length+o.length<=aau) then (F137 0 () k (m++o) d.2).bind λH=>some H else none else none)=some (abn,(t,a,e,q)):=by
 rw [amp 2 a e M]
 simp only [Aa,Aj,Ad,ai8 2 _ e M]
theorem asy (X:av0) (O:TNum t) (k:Int) (W:2<=k/\k<=5) {g:Q4->Option (PV×Q4)}
 (V:∀ s,g s=(F102 0 () 4 [45] s).bind λo=>bif o.1 then
  ((F105 0 () 2 o.2).bind λd=>bif !d.1 then (F106 0 () 2 d.2).bind λH=>some (abn,H) else
  bif aaa d.2.2.1 d.2.1.length then (F138 0 (IntKind.wrap .u64 ((d.2.1.getD d.2.2.1.toNat .bad).fld 2).asInt)).bind λm=>
  bif decide (([45]:Bq).length+m.length<=aau) then (F137 0 () k ([45]++m) d.2).bind λM=>some M else none else none)
  else ((F105 0 () 2 o.2).bind λd=>bif !d.1 then (F106 0 () 2 d.2).bind λH=>some (abn,H) else
  bif aaa d.2.2.1 d.2.1.length then (F138 0 (IntKind.wrap .u64 ((d.2.1.getD d.2.2.1.toNat .bad).fld 2).asInt)).bind λm=>
  bif decide (([]:Bq).length+m.length<=aau) then (F137 0 () k ([]++m) d.2).bind λM=>some M else none else none)):
 RF t q (λv z=>(v,z)) c (λr=>bif isS 4 [45] r then intS parV k true r.tail else intS parV k false r) g:=by
 refine ⟨λ_ i Y=>?_,λj e hj U=>⟨abn,?_⟩⟩
 ·rw [V,mayR O.toTOk 4 rfl,Aa];cases Z:isS 4 [45] (ts t i) with
  | true=>simp only [Ad,aao];exact intR X O k W true [45] rfl (i+1) (abl Z)
  | false=>simp only [Ae];exact intR X O k W false [] rfl i Y
 ·rw [V,mayE 4 _ _ e U,Aa];simp only [Ae];exact intE k [] _ e U
theorem bdf (ro:av0) (V:TNum t) (k:Int) (f:Bq->Bq) (Y:∀ s:Bq,s.length<=16384->ape k (f s)) {T:Bq->Option Bq} (W:∀ s:Bq,s.length<=16384->T s=some (f s)) {g:Q4->Option (PV×Q4)}
 (O:∀ s,g s=(F105 0 () 3 s).bind λd=>bif !d.1 then (F106 0 () 2 d.2).bind λm=>some (abn,m) else
  bif aaa d.2.2.1 d.2.1.length then (T ((d.2.1.getD d.2.2.1.toNat .bad).fld 1).asStr).bind λo=>(F137 0 () k o d.2).bind λH=>some H else none):
 RF t q (λv z=>(v,z)) c (λr=>(abd r).bind λs z=>valS (parV k (f s)) r z) g:=by
 refine ⟨λ_ i Z=>?_,λj e hj M=>⟨abn,?_⟩⟩
 ·rw [O,art 3 rfl,Aa];unfold abd ae9;cases X:(aaw (ts t i)==3) with
  | false=>exact .er i 2 abn Z (by decide) rfl rfl
  | true=>have h:=abt (show ((3:Int)==0)=false from rfl) X;have U:=V.sml _ (ace h .bad);simp only [Am,Ae,Ad,aab,h,decide_true,Ag,W _ U,Aa,ada h,aao,Rs.bind_ok];exact a97 ro V k _ (Y _ U) i h
 ·rw [O,amp 3 _ e M];simp only [Aa,Aj,Ad,ai8 2 _ e M]
theorem boolR (M:av0) (d:TNum t) {g:Q4->Option (PV×Q4)} (H:∀ s,g s=F64 0 () 1 s):
 RF t q (λv z=>(v,z)) c (λr=>bif isS 1 [116,114,117,101] r||isS 1 [102,97,108,115,101] r then valS (parV 1 (abr r)) r r.tail else .er r 2) g:=by
 refine ⟨λ_ i V=>?_,λj e W o=>⟨abn,?_⟩⟩
 ·rw [H];unfold F64;simp only [show ((1:Int)==0)=false from rfl,show ((1:Int)==1)=true from rfl,Ae,Ad,isR 1 rfl,Aa];cases O:isS 1 [116,114,117,101] (ts t i) with
  | true=>have h:=abl O;have m:=d.sml _ (ace h .bad);simp only [Am,Ae,Bool.true_or,Ad,aab,h,decide_true,Ag,aao,ada h];exact a97 M d 1 ((t.getD i .bad).fld 1).asStr (Or.inl ⟨Or.inl rfl,m⟩) i h
  | false=>
   cases U:isS 1 [102,97,108,115,101] (ts t i) with
   | true=>have h:=abl U;have m:=d.sml _ (ace h .bad);simp only [Am,Aj,Ae,Bool.or_true,Ad,aab,h,decide_true,Ag,aao,ada h];exact a97 M d 1 ((t.getD i .bad).fld 1).asStr (Or.inl ⟨Or.inl rfl,m⟩) i h
   | false=>simp only [Aj,Ad,Bool.or_false,Ae];exact .er i 2 abn V (by decide) rfl rfl
 ·rw [H];unfold F64;simp only [show ((1:Int)==0)=false from rfl,show ((1:Int)==1)=true from rfl,Ae,Ad,isE 1 _ _ e o,Aa,Aj,ai8 2 _ e o];rfl
theorem litR (M:av0) (o:TNum t) (k:Int) (hk:c->0<=k/\k<=8):RF t q (λv z=>(v,z)) c (litS parV k) (F64 0 () k):=by
 have aa:∀ s:Bq,s.length<=16384->(λs:Bq=>s) s=s:=λs _=>rfl;have V:RF t q (λv z=>(v,z)) c (litS parV 0) (F64 0 () 0):=
  RF.bind (f2:=λs r=>.ok (an5 s) r) (g:=λy2=>some (an5 y2.1,y2.2)) (a6a o.toTOk) λv=>RF.ret' (an5 v) λs=>rfl
 have W:RF t q (λv z=>(v,z)) c (litS parV 1) (F64 0 () 1):=boolR M o λs=>rfl;have X:RF t q (λv z=>(v,z)) c (litS parV 2) (F64 0 () 2):=asy M o 2 (by decide) λs=>rfl;have Y:RF t q (λv z=>(v,z)) c (litS parV 3) (F64 0 () 3):=asy M o 3 (by decide) λs=>rfl;have Z:RF t q (λv z=>(v,z)) c (litS parV 4) (F64 0 () 4):=asy M o 4 (by decide) λs=>rfl;have h5:RF t q (λv z=>(v,z)) c (litS parV 5) (F64 0 () 5):=asy M o 5 (by decide) λs=>rfl;have h6:RF t q (λv z=>(v,z)) c (litS parV 6) (F64 0 () 6):=bdf M o 6 (λs=>s) (λs h=>Or.inl ⟨Or.inr (Or.inl rfl),h⟩) (T:=λs=>some s) (λs h=>rfl) λs=>rfl;have h7:RF t q (λv z=>(v,z)) c (litS parV 7) (F64 0 () 7):=bdf M o 7 aa4 (λs h=>Or.inr (Or.inl ⟨rfl,s,h,rfl⟩)) (T:=F139 0) (λs h=>aju s (by omega)) λs=>rfl;have h8:RF t q (λv z=>(v,z)) c (litS parV 8) (F64 0 () 8):=bdf M o 8 (λs=>s) (λs h=>Or.inl ⟨Or.inr (Or.inr rfl),h⟩) (T:=λs=>some s) (λs h=>rfl) λs=>rfl;refine ⟨λd i m=>?_,λj e O H=>?_⟩
 ·obtain ⟨U,k8⟩:=hk d;rcases (show k=0\/k=1\/k=2\/k=3\/k=4\/k=5\/k=6\/k=7\/k=8 by omega) with rfl | rfl | rfl | rfl | rfl | rfl | rfl | rfl | rfl
  ·exact V.rp d i m
  ·exact W.rp d i m
  ·exact X.rp d i m
  ·exact Y.rp d i m
  ·exact Z.rp d i m
  ·exact h5.rp d i m
  ·exact h6.rp d i m
  ·exact h7.rp d i m
  ·exact h8.rp d i m
 ·by_cases U:k=0
  ·subst U;exact V.st j e O H
  by_cases k1:k=1
  ·subst k1;exact W.st j e O H
  by_cases k2:k=2
  ·subst k2;exact X.st j e O H
  by_cases k3:k=3
  ·subst k3;exact Y.st j e O H
  by_cases k4:k=4
  ·subst k4;exact Z.st j e O H
  by_cases k5:k=5
  ·subst k5;exact h5.st j e O H
  refine ⟨abn,?_⟩;unfold F64;simp only [beqI U,beqI k1,beqI k2,beqI k3,beqI k4,beqI k5,Ae,amp 3 _ e H,Aa,Aj,Ad,ai8 2 _ e H];rfl
end
end Go.Ab
