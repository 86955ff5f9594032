/- Quoted texts are read alike: Unquote of the program and of the reference, on any text; hexadecimal digits. -/
import Derived.Test.YtcpkdafleaddlaaGreatDoorPScan3Fi
set_option linter.unusedVariables false
set_option linter.unusedSimpArgs false
set_option linter.unnecessarySimpa false
namespace Go.Ab
open Go
set_option maxRecDepth 100000
def digI (b:Nat):Int:=if 48<=b/\b<=57 then (b:Int)-48 else if 97<=b/\b<=102 then (b:Int)-87 else -1
theorem a2j:((List.range 256).all λb=>(F305 0 (b:Int)==some (digI b))&&(F340 0 (b:Int)==some (digI b)))=true:=by kernel_rfl
theorem afa (b:UInt8):F305 0 (b.toNat:Int)=some (digI b.toNat)/\F340 0 (b.toNat:Int)=some (digI b.toNat):=by have:=Bi.1 a2j b.toNat (List.mem_range.2 b.toNat_lt);simpa using this
theorem a6e (b:UInt8):∃ v w,F304 0 (b.toNat:Int)=some (v,w):=by unfold F304;cases ((b.toNat:Int)==34)<;>cases ((b.toNat:Int)==92)<;>cases ((b.toNat:Int)==110)<;>cases ((b.toNat:Int)==116)<;>cases ((b.toNat:Int)==114)<;>exact ⟨_,_,rfl⟩
theorem a8h {a x:Bq} (h:Codes a x):a.length<=x.length:=by
 induction h with
 | nil=>simp
 | @cons b c r q d _ m=>
  have:1<=c.length:=by rcases d with ⟨rfl,_⟩ | ⟨_,rfl⟩ | ⟨_,rfl⟩ | ⟨_,rfl⟩ | ⟨_,rfl⟩ | ⟨_,rfl⟩ | rfl<;>simp
  grind
theorem am4 (a:Bq):a.length<=(aa4 a).length:=by have d:=ae7 a a.length 0 (by omega);rw [A1] at d;have:=a8h d;grind [aa4,List.length_cons,List.length_append]
theorem a7m (d:Bq) (hl:d.length<=1048576) (i:Nat) (Z:i<d.length):∃ v n,F237 0 d (i:Int)=some (v,n)/\(n=0\/(n=2/\i+2<=d.length)\/(n=4/\i+4<=d.length)):=by
 have U:IntKind.wrap .i64 ((i:Int)+1)=((i+1:Nat):Int):=aa9 (by omega);have V:IntKind.wrap .i64 ((i:Int)+2)=((i+2:Nat):Int):=by grind [abi]
 have W:IntKind.wrap .i64 ((i:Int)+3)=((i+3:Nat):Int):=by grind [abi]
 unfold F237;simp only [U,V,W];by_cases X:i+1<d.length
 ·have m:decide (((i+1:Nat):Int)>=(d.length:Int))=false:=Al (by omega);have H:aaa ((i+1:Nat):Int) d.length=true:=by rw [aab];grind
  obtain ⟨v,w,z⟩:=a6e (d.getD (i+1) 0);simp only [m,H,Ae,Ad,Ag,z,Aa];cases w with
  | true=>grind
  | false=>
   simp only [Ae];by_cases Y:i+3<d.length
   ·have o:decide (((i+3:Nat):Int)>=(d.length:Int))=false:=Al (by omega);have M:aaa ((i+2:Nat):Int) d.length=true:=by rw [aab];grind
    have O:aaa ((i+3:Nat):Int) d.length=true:=by rw [aab];grind
    simp only [o,M,O,(afa _).1,Aa,imp,aag,Ad,Ag];cases (((d.getD (i+1) 0).toNat:Int) != (120:Int)) with
    | true=>simp only [Am,Ad,Ae,aag,Aa];grind
    | false=>
     simp only [Aj,Ad,Ae,Aa];cases decide (digI (d.getD (i+2) 0).toNat<0) with
     | true=>simp only [Am,Ad,Ae,Aa];grind
     | false=>
      simp only [Aj,Ad,Ae,Aa];cases decide (digI (d.getD (i+3) 0).toNat<0) with
      | true=>grind
      | false=>grind
   ·have o:decide (((i+3:Nat):Int)>=(d.length:Int))=true:=Ah (by omega);simp only [o,aag,Am,Aj,imp,Ae,Ad,Aa];grind
 ·have m:decide (((i+1:Nat):Int)>=(d.length:Int))=true:=Ah (by omega);simp only [m,Ad];grind
theorem aya (o:Bq) (hl:o.length<=1048576):∀ (m i:Nat) (H:List PV),o.length-i<=m->i<=o.length->H.length<=i->∃ z,aaz (S131_6step 0) (o,H,(i:Int))=some z/\(z=.inl ([],0,2)\/∃ (M:List PV) (j:Nat),z=.inr (o,M,(j:Int))/\j<=o.length/\M.length<=j):=by
 intro m;induction m with
 | zero=>intro i H hm Z Y;have d:decide ((i:Int)<(o.length:Int))=false:=Al (by omega);refine ⟨.inr (o,H,(i:Int)),aac ?_,Or.inr ⟨H,i,rfl,Z,Y⟩⟩;simp only [S131_6step,S131_6,d,imp,Ae,Aj,aag,Ad]
 | succ m ih=>
  intro i H hm Z Y;by_cases aa:i<o.length
  ·have d:decide ((i:Int)<(o.length:Int))=true:=Ah (by omega);have r:aaa (i:Int) o.length=true:=by grind [aab,decide_eq_true]
   have W:∀ x:PV,decide (H.length+[x].length<=aaf)=true:=λx=>Ah (by grind [List.length_cons,List.length_nil,aaf]);cases U:(((o.getD i 0).toNat:Int) != (34:Int)) with
   | false=>refine ⟨.inr (o,H,(i:Int)),aac ?_,Or.inr ⟨H,i,rfl,Z,Y⟩⟩;simp only [S131_6step,S131_6,d,r,imp,Ad,Ag,U,Ae]
   | true=>
    cases V:(((o.getD i 0).toNat:Int)==(92:Int)) with
    | false=>obtain ⟨z,O,h2⟩:=ih (i+1) (H++[PV.int ((o.getD i 0).toNat:Int)]) (by omega) (by omega) (by simp;omega);refine ⟨z,?_,h2⟩;rw [<-O];refine aan ?_;simp only [S131_6step,S131_6,d,r,imp,Ad,Ag,U,V,Ae,show ((1:Int)==0)=false from rfl,W,aa9 (show i<=9223372036854775000 by omega)]
    | true=>
     obtain ⟨v,n,hu,hn⟩:=a7m o hl i aa;rcases hn with rfl | ⟨rfl,h2⟩ | ⟨rfl,h4⟩
     ·refine ⟨.inl ([],0,2),aac ?_,Or.inl rfl⟩;simp only [S131_6step,S131_6,d,r,imp,Ad,Ag,U,V,hu,Aa,show ((0:Int)==0)=true from rfl]
     ·obtain ⟨z,O,X⟩:=ih (i+2) (H++[PV.int v]) (by omega) (by omega) (by simp;omega);refine ⟨z,?_,X⟩;rw [<-O];have w:IntKind.wrap .i64 ((i:Int)+2)=((i+2:Nat):Int):=by grind [abi]
      refine aan ?_;simp only [S131_6step,S131_6,d,r,imp,Ad,Ae,Ag,U,V,hu,Aa,show ((2:Int)==0)=false from rfl,W,w]
     ·obtain ⟨z,O,X⟩:=ih (i+4) (H++[PV.int v]) (by omega) (by omega) (by simp;omega);refine ⟨z,?_,X⟩;rw [<-O];have w:IntKind.wrap .i64 ((i:Int)+4)=((i+4:Nat):Int):=by grind [abi]
      refine aan ?_;simp only [S131_6step,S131_6,d,r,imp,Ad,Ae,Ag,U,V,hu,Aa,show ((4:Int)==0)=false from rfl,W,w]
  grind
def apz (s:Bq):Prop:=∃ a q,s=aa4 a++q
theorem a1g (a:Bq):∃ r,aa4 a=34::r:=⟨_,rfl⟩
theorem ajz (m:Bq) (M:m.length<=1048576):(∃ a q,m=aa4 a++q/\F131 0 m=some (a,(((aa4 a).length:Nat):Int),0))\/(¬apz m/\F131 0 m=some ([],0,2)):=by
 by_cases h:apz m
 ·obtain ⟨a,q,rfl⟩:=h;have hg:=am4 a;rw [Bc] at M;exact Or.inl ⟨a,q,rfl,aq3 (by omega) q (by grind)⟩
 ·refine Or.inr ⟨h,?_⟩;cases m with
  | nil=>rfl
  | cons c r=>
   have O:((c::r)==([]:Bq))=false:=rfl;unfold F131;simp only [O,in0,imp,Aj,Ad,Ae];cases hq:((((c::r).getD (0:Int).toNat 0).toNat:Int) != (34:Int)) with
   | true=>rfl
   | false=>
    simp only [Ae,aal];obtain ⟨z,V,W⟩:=aya (c::r) M (c::r).length 1 [] (by omega) (by simp) (by simp);rw [show (1:Int)=((1:Nat):Int) from rfl,V,Aa];rcases W with rfl | ⟨o,j,rfl,hj,Z⟩
    ·rfl
    ·simp only [aa7];by_cases X:j<(c::r).length
     ·have d:decide ((j:Int)>=((c::r).length:Int))=false:=Al (by omega);have w:IntKind.wrap .i64 ((j:Int)+((1:Nat):Int))=((j+1:Nat):Int):=aa9 (by omega);have U:decide (0<=(0:Int)/\(0:Int)<=((j+1:Nat):Int)/\((j+1:Nat):Int)<=((c::r).length:Int))=true:=Ah (by omega);have H:=asm (o.map aat) (by grind);simp only [d,Aj,Ad,Ae,H,Aa,w,U,imp,Ag];cases Y:(aa4 (o.map aat)==((c::r).take (j+1)).drop (0:Int).toNat) with
      | false=>rfl
      | true=>have e:=eq_of_beq Y;have e:aa4 (o.map aat)=(c::r).take (j+1):=e;exact absurd ⟨o.map aat,(c::r).drop (j+1),by rw [e,List.take_append_drop]⟩ h
     grind
theorem a8s (d:Bq) (Z:d.length<=1048576) (i:Nat) (Y:i<d.length):∃ v n,F292 0 d (i:Int)=some (v,n)/\(n=0\/(n=2/\i+2<=d.length)\/(n=4/\i+4<=d.length)):=by
 have U:IntKind.wrap .i64 ((i:Int)+1)=((i+1:Nat):Int):=aa9 (by omega);have V:IntKind.wrap .i64 ((i:Int)+2)=((i+2:Nat):Int):=by rw [abi (by omega) (by omega)];omega
 have W:IntKind.wrap .i64 ((i:Int)+3)=((i+3:Nat):Int):=by rw [abi (by omega) (by omega)];omega
 unfold F292;simp only [U,V,W];by_cases z:i+1<d.length
 ·have m:decide (((i+1:Nat):Int)>=(d.length:Int))=false:=Al (by omega);have H:aaa ((i+1:Nat):Int) d.length=true:=by rw [aab];exact Ah z
  simp only [m,H,Ae,Ad,Ag];cases (((d.getD (i+1) 0).toNat:Int)==(34:Int)) with
  | true=>exact ⟨_,2,rfl,Or.inr (Or.inl ⟨rfl,by omega⟩)⟩
  | false=>
  cases (((d.getD (i+1) 0).toNat:Int)==(92:Int)) with
  | true=>exact ⟨_,2,rfl,Or.inr (Or.inl ⟨rfl,by omega⟩)⟩
  | false=>
  cases (((d.getD (i+1) 0).toNat:Int)==(110:Int)) with
  | true=>exact ⟨_,2,rfl,Or.inr (Or.inl ⟨rfl,by omega⟩)⟩
  | false=>
  cases (((d.getD (i+1) 0).toNat:Int)==(116:Int)) with
  | true=>exact ⟨_,2,rfl,Or.inr (Or.inl ⟨rfl,by omega⟩)⟩
  | false=>
  cases (((d.getD (i+1) 0).toNat:Int)==(114:Int)) with
  | true=>exact ⟨_,2,rfl,Or.inr (Or.inl ⟨rfl,by omega⟩)⟩
  | false=>
   simp only [Ae];by_cases X:i+3<d.length
   ·have o:decide (((i+3:Nat):Int)>=(d.length:Int))=false:=Al (by omega);have M:aaa ((i+2:Nat):Int) d.length=true:=by rw [aab];exact Ah (by omega)
    have O:aaa ((i+3:Nat):Int) d.length=true:=by rw [aab];exact Ah (by omega)
    simp only [o,M,O,(afa _).2,Aa,imp,aag,Ad,Ag];cases (((d.getD (i+1) 0).toNat:Int) != (120:Int)) with
    | true=>simp only [Am,Ad,Ae,aag,Aa];exact ⟨0,0,rfl,Or.inl rfl⟩
    | false=>
     simp only [Aj,Ad,Ae,Aa];cases decide (digI (d.getD (i+2) 0).toNat<0) with
     | true=>simp only [Am,Ad,Ae,Aa];exact ⟨0,0,rfl,Or.inl rfl⟩
     | false=>
      simp only [Aj,Ad,Ae,Aa];cases decide (digI (d.getD (i+3) 0).toNat<0) with
      | true=>exact ⟨0,0,rfl,Or.inl rfl⟩
      | false=>exact ⟨_,4,rfl,Or.inr (Or.inr ⟨rfl,by omega⟩)⟩
   ·have o:decide (((i+3:Nat):Int)>=(d.length:Int))=true:=Ah (by omega);simp only [o,aag,Am,Aj,imp,Ae,Ad,Aa];exact ⟨0,0,rfl,Or.inl rfl⟩
 ·have m:decide (((i+1:Nat):Int)>=(d.length:Int))=true:=Ah (by omega);simp only [m,Ad];exact ⟨0,0,rfl,Or.inl rfl⟩
def RqEnd (d:Bq) (z:(Bq×Int×Int)⊕Unit):Prop:=z=.inl ([],0,2)\/z=.inr ()\/∃ t q,d=aa4 t++q/\z=.inl (t,(((aa4 t).length:Nat):Int),0)
theorem a1q (o:Bq) (hl:o.length<=1048576):∀ (m i:Nat) (H:Bq),o.length-i<=m->i<=o.length->H.length<=i->∃ z,aaz (S215_6step 0) (o,H,(i:Int))=some z/\RqEnd o z:=by
 intro m;induction m with
 | zero=>intro i H hm hi ha;have d:decide ((i:Int)<(o.length:Int))=false:=Al (by omega);refine ⟨.inr (),aac ?_,Or.inr (Or.inl rfl)⟩;simp only [S215_6step,S215_6,d,Ae]
 | succ m ih=>
  intro i H hm hi ha;by_cases V:i<o.length
  ·have d:decide ((i:Int)<(o.length:Int))=true:=Ah (by omega);have r:aaa (i:Int) o.length=true:=by rw [aab];exact Ah V
   have w1:IntKind.wrap .i64 ((i:Int)+1)=((i+1:Nat):Int):=aa9 (by omega);cases O:(((o.getD i 0).toNat:Int)==(34:Int)) with
   | true=>
    have e5:decide (0<=(0:Int)/\(0:Int)<=((i+1:Nat):Int)/\((i+1:Nat):Int)<=(o.length:Int))=true:=Ah (by omega);have W:=aju H (by omega);cases hx:(aa4 H==(o.take (i+1)).drop (0:Int).toNat) with
    | true=>
     have e:aa4 H=o.take (i+1):=eq_of_beq hx;have M:(aa4 H).length=i+1:=by rw [e,List.length_take];omega
     refine ⟨.inl (H,((i+1:Nat):Int),0),aac ?_,Or.inr (Or.inr ⟨H,o.drop (i+1),by rw [e,List.take_append_drop],by rw [M]⟩)⟩;simp only [S215_6step,S215_6,d,r,Ad,Ag,O,W,Aa,w1,e5,hx,Am,Ae]
    | false=>refine ⟨.inl ([],0,2),aac ?_,Or.inl rfl⟩;simp only [S215_6step,S215_6,d,r,Ad,Ag,O,W,Aa,w1,e5,hx,Aj]
   | false=>
    cases X:(((o.getD i 0).toNat:Int) != (92:Int)) with
    | true=>
     have e6:decide (0<=(i:Int)/\(i:Int)<=((i+1:Nat):Int)/\((i+1:Nat):Int)<=(o.length:Int))=true:=Ah (by omega);have M:((o.take (i+1)).drop i).length=1:=by simp;omega
     have e7:decide (H.length+((o.take (i+1)).drop i).length<=aau)=true:=afb (by omega);obtain ⟨z,U,h2⟩:=ih (i+1) (H++(o.take (i+1)).drop i) (by omega) (by omega) (by rw [Bc];omega);refine ⟨z,?_,h2⟩;rw [<-U];refine aan ?_;simp only [S215_6step,S215_6,d,r,Ad,Ag,O,X,Ae,w1,e6,e7]
    | false=>
     obtain ⟨v,n,Z,hn⟩:=a8s o hl i V;have e8:decide (H.length+([(PV.int v)].map aat).length<=aau)=true:=afb (by simp;omega);rcases hn with rfl | ⟨rfl,h2⟩ | ⟨rfl,h4⟩
     ·refine ⟨.inl ([],0,2),aac ?_,Or.inl rfl⟩;simp only [S215_6step,S215_6,d,r,Ad,Ae,Ag,O,X,Z,Aa,show ((0:Int)==0)=true from rfl]
     ·obtain ⟨z,U,Y⟩:=ih (i+2) (H++[(PV.int v)].map aat) (by omega) (by omega) (by simp;omega);refine ⟨z,?_,Y⟩;rw [<-U];have w:IntKind.wrap .i64 ((i:Int)+2)=((i+2:Nat):Int):=by rw [abi (by omega) (by omega)];omega
      refine aan ?_;simp only [S215_6step,S215_6,d,r,Ad,Ae,Ag,O,X,Z,Aa,show ((2:Int)==0)=false from rfl,e8,w]
     ·obtain ⟨z,U,Y⟩:=ih (i+4) (H++[(PV.int v)].map aat) (by omega) (by omega) (by simp;omega);refine ⟨z,?_,Y⟩;rw [<-U];have w:IntKind.wrap .i64 ((i:Int)+4)=((i+4:Nat):Int):=by rw [abi (by omega) (by omega)];omega
      refine aan ?_;simp only [S215_6step,S215_6,d,r,Ad,Ae,Ag,O,X,Z,Aa,show ((4:Int)==0)=false from rfl,e8,w]
  ·have d:decide ((i:Int)<(o.length:Int))=false:=Al (by omega);refine ⟨.inr (),aac ?_,Or.inr (Or.inl rfl)⟩;simp only [S215_6step,S215_6,d,Ae]
theorem af5 {d:Bq}{i:Nat}{e:UInt8}{q:Bq} (W:d.length<=1048576) (h:d.drop i=92::e::q) {v:Int} (O:(e=34/\v=34)\/(e=92/\v=92)\/(e=110/\v=10)\/(e=116/\v=9)\/(e=114/\v=13)):F292 0 d (i:Int)=some (v,2):=by
 obtain ⟨V,_,z⟩:=ab9 0 h;obtain ⟨H,M,_⟩:=ab9 0 z;have U:IntKind.wrap .i64 ((i:Int)+1)=((i+1:Nat):Int):=aa9 (by omega);have m:decide (((i+1:Nat):Int)>=(d.length:Int))=false:=Al (by omega);have o:aaa ((i+1:Nat):Int) d.length=true:=by rw [aab];exact Ah H
 unfold F292;simp only [U,m,o,Ad,Ae,Ag,M];rcases O with ⟨rfl,rfl⟩ | ⟨rfl,rfl⟩ | ⟨rfl,rfl⟩ | ⟨rfl,rfl⟩ | ⟨rfl,rfl⟩<;>rfl
theorem a3p:((List.range 16).all λh=>digI (hexd h).toNat==(h:Int))=true:=by kernel_rfl
theorem arj {h:Nat} (d:h<16):digI (hexd h).toNat=(h:Int):=by grind [List.all_eq_true,a3p]
theorem bd5 {d:Bq}{i:Nat}{b:UInt8}{q:Bq} (hl:d.length<=1048576) (h:d.drop i=92::120::(hex2 b.toNat++q)):F292 0 d (i:Int)=some ((b.toNat:Int),4):=by
 have h:d.drop i=92::120::hexd (b.toNat / 16)::hexd (b.toNat%16)::q:=h;have hb:=b.toNat_lt;obtain ⟨h1,_,U⟩:=ab9 0 h;obtain ⟨V,W,X⟩:=ab9 0 U;obtain ⟨Y,Z,h8⟩:=ab9 0 X;obtain ⟨h9,o,_⟩:=ab9 0 h8;have w1:IntKind.wrap .i64 ((i:Int)+1)=((i+1:Nat):Int):=aa9 (by omega);have w2:IntKind.wrap .i64 ((i:Int)+2)=((i+1+1:Nat):Int):=by rw [abi (by omega) (by omega)];omega
 have w3:IntKind.wrap .i64 ((i:Int)+3)=((i+1+1+1:Nat):Int):=by rw [abi (by omega) (by omega)];omega
 have M:decide (((i+1:Nat):Int)>=(d.length:Int))=false:=Al (by omega);have O:decide (((i+1+1+1:Nat):Int)>=(d.length:Int))=false:=Al (by omega);have r1:aaa ((i+1:Nat):Int) d.length=true:=by rw [aab];exact Ah V
 have r2:aaa ((i+1+1:Nat):Int) d.length=true:=by rw [aab];exact Ah Y
 have r3:aaa ((i+1+1+1:Nat):Int) d.length=true:=by rw [aab];exact Ah h9
 have v1:=arj (h:=b.toNat / 16) (by omega);have v2:=arj (h:=b.toNat%16) (by omega);have n1:decide (((b.toNat / 16:Nat):Int)<0)=false:=Al (by omega);have n2:decide (((b.toNat%16:Nat):Int)<0)=false:=Al (by omega);have wv:IntKind.wrap .u8 (IntKind.wrap .i64 ((IntKind.wrap .i64 ((16:Int)*((b.toNat / 16:Nat):Int)))+((b.toNat%16:Nat):Int)))=(b.toNat:Int):=by have z:IntKind.wrap .i64 ((16:Int)*((b.toNat / 16:Nat):Int))=(16:Int)*((b.toNat / 16:Nat):Int):=abi (by omega) (by omega);have H:IntKind.wrap .i64 ((16:Int)*((b.toNat / 16:Nat):Int)+((b.toNat%16:Nat):Int))=(16:Int)*((b.toNat / 16:Nat):Int)+((b.toNat%16:Nat):Int):=abi (by omega) (by omega);rw [z,H,IntKind.wrap_u8];omega
 have m:(((120:UInt8).toNat:Nat):Int)=120:=rfl;unfold F292;simp only [w1,w2,w3,M,O,r1,r2,r3,Ad,Ae,Ag,W,Z,o,m,show ((120:Int)==34)=false from rfl,show ((120:Int)==92)=false from rfl,show ((120:Int)==110)=false from rfl,show ((120:Int)==116)=false from rfl,show ((120:Int)==114)=false from rfl,show ((120:Int) != 120)=false from rfl,(afa _).2,v1,v2,n1,n2,imp,Aj,Bool.true_or,aag,Aa,wv]
theorem bc7 {d:Bq} (z:d.length<=1048576) {i:Nat}{m:Bq} (ha:m.length<=i) {b:UInt8}{c q:Bq} (Y:anq b c) (h:d.drop i=c++q):S215_6step 0 (d,m,(i:Int))=some (.inl (d,m++[b],((i+c.length:Nat):Int))):=by
 have ne:c≠[]:=by rcases Y with ⟨rfl,_⟩ | ⟨_,rfl⟩ | ⟨_,rfl⟩ | ⟨_,rfl⟩ | ⟨_,rfl⟩ | ⟨_,rfl⟩ | rfl<;>simp
 have hi:i<d.length:=by have:=congrArg List.length h;rw [Ar,Bc] at this;have:0<c.length:=List.length_pos_iff.2 ne;omega
 have O:decide ((i:Int)<(d.length:Int))=true:=Ah (by omega);have U:aaa (i:Int) d.length=true:=by rw [aab];exact Ah hi
 have W:∀ x:UInt8,[(PV.int (x.toNat:Int))].map aat=[x]:=λx=>by rw [Bk,List.map_nil,ahq]
 have X:∀ v:Int,decide (m.length+([(PV.int v)].map aat).length<=aau)=true:=λv=>afb (by simp;omega);have o:∀ (e:UInt8) (r:Bq) (v:UInt8),d.drop i=92::e::r->F292 0 d (i:Int)=some ((v.toNat:Int),2)->S215_6step 0 (d,m,(i:Int))=some (.inl (d,m++[v],((i+2:Nat):Int))):=λe r v hd V=>by
  obtain ⟨_,H,_⟩:=ab9 0 hd;have w:IntKind.wrap .i64 ((i:Int)+2)=((i+2:Nat):Int):=by rw [abi (by omega) (by omega)];omega
  simp only [S215_6step,S215_6,O,U,X,H,V,w,Ad,Ae,Aa,Ag,show ((((92:UInt8).toNat:Nat):Int)==(34:Int))=false from rfl,show ((((92:UInt8).toNat:Nat):Int) != (92:Int))=false from rfl,show ((2:Int)==0)=false from rfl,W]
 rcases Y with ⟨rfl,Z,b2⟩ | ⟨rfl,rfl⟩ | ⟨rfl,rfl⟩ | ⟨rfl,rfl⟩ | ⟨rfl,rfl⟩ | ⟨rfl,rfl⟩ | rfl
 ·obtain ⟨_,H,h5⟩:=ab9 0 (show d.drop i=b::q from h);have w:IntKind.wrap .i64 ((i:Int)+1)=((i+1:Nat):Int):=aa9 (by omega);have g1:((b.toNat:Int)==(34:Int))=false:=by rw [bqI (c:=b) (k:=34) (n:=34) rfl,At];exact Z
  have g2:((b.toNat:Int) != (92:Int))=true:=by show (!((b.toNat:Int)==(92:Int)))=true;rw [bqI (c:=b) (k:=92) (n:=92) rfl,At.2 b2];rfl
  have e6:decide (0<=(i:Int)/\(i:Int)<=((i+1:Nat):Int)/\((i+1:Nat):Int)<=(d.length:Int))=true:=Ah (by omega);have M:(d.take (i+1)).drop i=[b]:=by have:d.drop i=b::q:=h;rw [List.drop_take,this];simp
  have e7:decide (m.length+[b].length<=aau)=true:=afb (by simp;omega);simp only [S215_6step,S215_6,O,U,H,w,g1,g2,e6,e7,M,Ad,Ae,Ag];rfl
 ·exact o _ _ 34 h (af5 z h (Or.inl ⟨rfl,rfl⟩))
 ·exact o _ _ 92 h (af5 z h (Or.inr (Or.inl ⟨rfl,rfl⟩)))
 ·exact o _ _ 10 h (af5 z h (Or.inr (Or.inr (Or.inl ⟨rfl,rfl⟩))))
 ·exact o _ _ 9 h (af5 z h (Or.inr (Or.inr (Or.inr (Or.inl ⟨rfl,rfl⟩)))))
 ·exact o _ _ 13 h (af5 z h (Or.inr (Or.inr (Or.inr (Or.inr ⟨rfl,rfl⟩)))))
 ·have V:=bd5 (b:=b) (q:=q) z h;obtain ⟨_,H,_⟩:=ab9 0 (show d.drop i=92::(120::(hex2 b.toNat++q)) from h);have w:IntKind.wrap .i64 ((i:Int)+4)=((i+4:Nat):Int):=by rw [abi (by omega) (by omega)];omega
  simp only [S215_6step,S215_6,O,U,X,H,V,w,Ad,Ae,Aa,Ag,show ((((92:UInt8).toNat:Nat):Int)==(34:Int))=false from rfl,show ((((92:UInt8).toNat:Nat):Int) != (92:Int))=false from rfl,show ((4:Int)==0)=false from rfl,W];rfl
theorem bc6 {d:Bq} (hl:d.length<=1048576) {a x:Bq} (Y:Codes a x):∀ (i:Nat) (m:Bq) (s:Bq),d.drop i=x++34::s->m.length<=i->aa4 (m++a)=d.take (i+x.length+1)->aaz (S215_6step 0) (d,m,(i:Int))=some (.inl (m++a,((i+x.length+1:Nat):Int),0)):=by
 induction Y with
 | nil=>
  intro i m s h M z;rw [List.append_nil] at z ⊢;obtain ⟨Z,X,_⟩:=ab9 0 (show d.drop i=34::s from h);have U:decide ((i:Int)<(d.length:Int))=true:=Ah (by omega);have V:aaa (i:Int) d.length=true:=by rw [aab];exact Ah Z
  have w1:IntKind.wrap .i64 ((i:Int)+1)=((i+1:Nat):Int):=aa9 (by omega);have W:decide (0<=(0:Int)/\(0:Int)<=((i+1:Nat):Int)/\((i+1:Nat):Int)<=(d.length:Int))=true:=Ah (by omega);have H:=aju m (by omega);have hx:(aa4 m==(d.take (i+1)).drop (0:Int).toNat)=true:=by have:aa4 m=d.take (i+1):=z;rw [this];exact A9 _
  refine aac ?_;simp only [S215_6step,S215_6,U,V,Ad,Ag,X,show ((((34:UInt8).toNat:Nat):Int)==(34:Int))=true from rfl,H,Aa,w1,W,hx,Am,Ae];rfl
 | @cons b c r q O hr ih=>
  intro i m s h M z;rw [Ax] at h;have st:=bc7 hl M O h;have hn:d.drop (i+c.length)=q++34::s:=by rw [<-A8,h,Bp]
  have hp:0<c.length:=by rcases O with ⟨rfl,_⟩ | ⟨_,rfl⟩ | ⟨_,rfl⟩ | ⟨_,rfl⟩ | ⟨_,rfl⟩ | ⟨_,rfl⟩ | rfl<;>simp
  have o:i+(c++q).length+1=i+c.length+q.length+1:=by rw [Bc];omega
  rw [aan st,ih (i+c.length) (m++[b]) s hn (by simp;omega) (by rw [Ax,List.singleton_append,z,o]),Ax,List.singleton_append,o]
theorem bbq (d:Bq) (M:d.length<=1048576):(∃ a q,d=aa4 a++q/\F215 0 d=some (a,(((aa4 a).length:Nat):Int),0))\/(¬apz d/\F215 0 d=some ([],0,2)):=by
 by_cases h:apz d
 ·obtain ⟨a,q,rfl⟩:=h;refine Or.inl ⟨a,q,rfl,?_⟩;have m:aa4 a=34::(aav a 0++[34]):=by unfold aa4;rfl
  have O:(aa4 a).length=(aav a 0).length+2:=by rw [m];simp
  have H:=ae7 a a.length 0 (by omega);rw [A1] at H;have Y:(aa4 a++q).drop 1=aav a 0++34::q:=by rw [m];simp
  have lp:=bc6 M H 1 [] q Y (by simp) (by rw [A3,show 1+(aav a 0).length+1=(aa4 a).length by omega,Bn]);rw [A3,show 1+(aav a 0).length+1=(aa4 a).length by omega] at lp;have o:(((aa4 a++q).length:Int)==(0:Int))=false:=by rw [At,Bc];omega
  have U:aaa (0:Int) (aa4 a++q).length=true:=by rw [m,Bb,in0]
  have V:((((aa4 a++q).getD (0:Int).toNat 0).toNat:Int) != (34:Int))=false:=by rw [m];rfl
  unfold F215;simp only [o,U,V,imp,Aj,Ad,Ae,aal];rw [show (1:Int)=((1:Nat):Int) from rfl,lp];rfl
 ·refine Or.inr ⟨h,?_⟩;cases d with
  | nil=>rfl
  | cons c r=>
   have o:(((c::r).length:Int)==(0:Int))=false:=by rw [At];simp only [Ao];omega
   unfold F215;simp only [o,in0,imp,Aj,Ad,Ae];cases m:((((c::r).getD (0:Int).toNat 0).toNat:Int) != (34:Int)) with
   | true=>rfl
   | false=>
    simp only [Ae,aal];obtain ⟨z,W,X⟩:=a1q (c::r) M (c::r).length 1 [] (by omega) (by simp) (by simp);rw [show (1:Int)=((1:Nat):Int) from rfl,W,Aa];rcases X with rfl | rfl | ⟨t,q,e,rfl⟩
    ·rfl
    ·rfl
    ·exact absurd ⟨t,q,e⟩ h
theorem a1i {a b q r:Bq} (h:aa4 a++q=aa4 b++r):a=b:=(a6h h).1
theorem azt (d:Bq) (M:d.length<=1048576):F215 0 d=F131 0 d:=by
 rcases ajz d M with ⟨a,q,z,H⟩ | ⟨z,H⟩
 ·rcases bbq d M with ⟨b,r,m,o⟩ | ⟨m,o⟩
  ·have:=a1i (z.symm.trans m);subst this;rw [H,o]
  ·exact absurd ⟨a,q,z⟩ m
 ·rcases bbq d M with ⟨b,r,m,o⟩ | ⟨m,o⟩
  ·exact absurd ⟨b,r,m⟩ z
  ·rw [H,o]
end Go.Ab
namespace Go.Ab
open Go
set_option maxRecDepth 100000
def uh:Bq->Option Bq
 | []=>some []
 | [_]=>none
 | a::b::r=>if digI a.toNat<0\/digI b.toNat<0 then none else (uh r).map (UInt8.ofNat (16*(digI a.toNat).toNat+(digI b.toNat).toNat)::·)
theorem atc (a b:UInt8) (r:Bq):uh (a::b::r)=if digI a.toNat<0\/digI b.toNat<0 then none else (uh r).map (UInt8.ofNat (16*(digI a.toNat).toNat+(digI b.toNat).toNat)::·):=by rw [uh]
theorem ais (b:Nat):digI b<16:=by
 unfold digI;split
 ·omega
 ·split<;>omega
def ac1 (s:Bq):Bq×Int:=match (if s.length%2=0 then uh s else none) with | some l=>(l,0) | none=>([],2)
theorem bdv {h l:Nat} (d:h<16) (m:l<16):(UInt8.ofNat (16*h+l)).toNat=16*h+l:=by rw [UInt8.toNat_ofNat'];omega
theorem asq (s:Bq) (hl:s.length<=1048576):∀ (m i:Nat) (o:Bq),s.length-i<=2*m->i<=s.length->(s.length-i)%2=0->o.length<=i->
 aaz (S364_6step 0) (s,o,(i:Int))=some (match uh (s.drop i) with | some l=>.inr (o++l) | none=>.inl ([],2)):=by
 intro m
 induction m with
 | zero=>
  intro i o hm hi he ha
  have d:decide ((i:Int)<(s.length:Int))=false:=Al (by omega)
  rw [Aq (by omega)]
  refine (aac (y:=.inr o) ?_).trans (by simp [uh])
  simp only [S364_6step,S364_6,d,Ae]
 | succ m ih=>
  intro i o hm hi he ha
  by_cases M:i<s.length
  ·have z:i+1<s.length:=by omega
   have d:decide ((i:Int)<(s.length:Int))=true:=Ah (by omega);have X:aaa (i:Int) s.length=true:=by rw [aab];exact Ah M
   have Y:aaa ((i+1:Nat):Int) s.length=true:=by rw [aab];exact Ah z
   have Z:IntKind.wrap .i64 ((i:Int)+1)=((i+1:Nat):Int):=aa9 (by omega);have w2:IntKind.wrap .i64 ((i:Int)+2)=((i+2:Nat):Int):=by rw [abi (by omega) (by omega)];omega
   have e8:∀ v:Int,decide (o.length+([(PV.int v)].map aat).length<=aau)=true:=λv=>afb (by simp;omega);rw [aaj M 0,aaj z 0,atc];have gh:=ais (s.getD i 0).toNat;have gl:=ais (s.getD (i+1) 0).toNat;by_cases H:digI (s.getD i 0).toNat<0\/digI (s.getD (i+1) 0).toNat<0
   ·rw [if_pos H];refine aac ?_;simp only [S364_6step,S364_6,d,X,Y,Z,Ad,Ag,(afa _).2,Aa,imp,aag];rcases H with H | H
    ·rw [Ah H];simp
    ·by_cases W:digI (s.getD i 0).toNat<0
     ·rw [Ah W];simp
     ·rw [Al W];simp only [Aj,Ad,Aa,Ae];rw [Ah H];rfl
   ·rw [if_neg H];have n0:decide (digI (s.getD i 0).toNat<0)=false:=Al (by omega);have n1:decide (digI (s.getD (i+1) 0).toNat<0)=false:=Al (by omega);have hv:[(PV.int (IntKind.wrap .u8 (IntKind.wrap .i64 ((IntKind.wrap .i64 ((16:Int)*digI (s.getD i 0).toNat))+digI (s.getD (i+1) 0).toNat))))].map aat=[UInt8.ofNat (16*(digI (s.getD i 0).toNat).toNat+(digI (s.getD (i+1) 0).toNat).toNat)]:=by
     have O:IntKind.wrap .i64 ((16:Int)*digI (s.getD i 0).toNat)=(16:Int)*digI (s.getD i 0).toNat:=abi (by omega) (by omega);have U:IntKind.wrap .i64 ((16:Int)*digI (s.getD i 0).toNat+digI (s.getD (i+1) 0).toNat)=(16:Int)*digI (s.getD i 0).toNat+digI (s.getD (i+1) 0).toNat:=abi (by omega) (by omega);have V:IntKind.wrap .u8 ((16:Int)*digI (s.getD i 0).toNat+digI (s.getD (i+1) 0).toNat)=((16*(digI (s.getD i 0).toNat).toNat+(digI (s.getD (i+1) 0).toNat).toNat:Nat):Int):=by rw [IntKind.wrap_u8];omega
     rw [O,U,V];rfl
    rw [aan (x1:=(s,o++[UInt8.ofNat (16*(digI (s.getD i 0).toNat).toNat+(digI (s.getD (i+1) 0).toNat).toNat)],((i+2:Nat):Int)))]
    ·rw [ih (i+2) _ (by omega) (by omega) (by omega) (by simp;omega)];cases uh (s.drop (i+1+1)) with
     | none=>rfl
     | some l=>simp
    ·simp only [S364_6step,S364_6,d,X,Y,Z,w2,Ad,Ae,Ag,(afa _).2,Aa,imp,n0,n1,Aj,e8,hv]
  ·have d:decide ((i:Int)<(s.length:Int))=false:=Al (by omega);rw [Aq (by omega)];refine (aac (y:=.inr o) ?_).trans (by simp [uh]);simp only [S364_6step,S364_6,d,Ae]
theorem mod2 (n:Nat):((((n:Nat):Int).tmod (2:Int)) != (0:Int))=!decide (n%2=0):=by rw [show ((n:Nat):Int).tmod (2:Int)=((n%2:Nat):Int) from rfl];have:=Nat.mod_two_eq_zero_or_one n;rcases this with h | h<;>rw [h]<;>rfl
theorem ajv (s:Bq) (m:s.length<=1048576):F364 0 s=some (ac1 s):=by
 unfold F364 ac1;rw [mod2];by_cases d:s.length%2=0
 ·rw [Ah d,if_pos d,Am,Ae,aal,show (0:Int)=((0:Nat):Int) from rfl,asq s m s.length 0 [] (by omega) (by omega) (by omega) (by simp),A1];cases uh s<;>simp [sumE]
 ·rw [Al d,if_neg d];rfl
theorem a2h (s:Bq) (hl:s.length<=1048576):∀ (m i:Nat) (o:Bq),s.length-i<=2*m->i<=s.length->(s.length-i)%2=0->o.length<=i->
 aaz (S356_6step 0) (s,o.map (λc=>PV.int (c.toNat:Int)),(i:Int))=some (match uh (s.drop i) with | some l=>.inr ((o++l).map (λc=>PV.int (c.toNat:Int))) | none=>.inl ([],2)):=by
 intro m
 induction m with
 | zero=>
  intro i o hm hi he Z
  have d:decide ((i:Int)<(s.length:Int))=false:=Al (by omega)
  rw [Aq (by omega)]
  refine (aac (y:=.inr (o.map (λc=>PV.int (c.toNat:Int)))) ?_).trans (by simp [uh])
  simp only [S356_6step,S356_6,d,Ae]
 | succ m ih=>
  intro i o hm hi he Z
  by_cases O:i<s.length
  ·have z:i+1<s.length:=by omega
   have d:decide ((i:Int)<(s.length:Int))=true:=Ah (by omega);have V:aaa (i:Int) s.length=true:=by rw [aab];exact Ah O
   have W:aaa ((i+1:Nat):Int) s.length=true:=by rw [aab];exact Ah z
   have X:IntKind.wrap .i64 ((i:Int)+1)=((i+1:Nat):Int):=aa9 (by omega);have w2:IntKind.wrap .i64 ((i:Int)+2)=((i+2:Nat):Int):=by rw [abi (by omega) (by omega)];omega
   have Y:∀ v:PV,decide ((o.map (λc=>PV.int (c.toNat:Int))).length+[v].length<=aaf)=true:=λv=>Ah (by simp only [List.length_map,Ao,Ba];unfold aaf;omega);rw [aaj O 0,aaj z 0,atc];have gh:=ais (s.getD i 0).toNat;have gl:=ais (s.getD (i+1) 0).toNat;by_cases H:digI (s.getD i 0).toNat<0\/digI (s.getD (i+1) 0).toNat<0
   ·rw [if_pos H];refine aac ?_;have hx:(bif decide (digI (s.getD i 0).toNat<0) then true else decide (digI (s.getD (i+1) 0).toNat<0))=true:=by
     rcases H with H | H
     ·rw [Ah H];rfl
     ·rw [Ah H];simp
    simp only [S356_6step,S356_6,d,V,W,X,Ad,Ag,(afa _).1,Aa,hx]
   ·rw [if_neg H];have n0:decide (digI (s.getD i 0).toNat<0)=false:=Al (by omega);have n1:decide (digI (s.getD (i+1) 0).toNat<0)=false:=Al (by omega);obtain ⟨h,U⟩:∃ h:Nat,digI (s.getD i 0).toNat=(h:Int):=⟨(digI (s.getD i 0).toNat).toNat,by omega⟩;obtain ⟨l,M⟩:∃ l:Nat,digI (s.getD (i+1) 0).toNat=(l:Int):=⟨(digI (s.getD (i+1) 0).toNat).toNat,by omega⟩;have hv:IntKind.wrap .u8 (af2 .or .i64 (IntKind.wrap .i64 ((h:Int)*2^(min (4:Int).toNat (IntKind.bits .i64)))) (l:Int))=((UInt8.ofNat (16*h+l)).toNat:Int):=by
     have:=bes (b:=16*h+l) (by omega);rw [show (16*h+l) / 16=h by omega,show (16*h+l)%16=l by omega] at this;rw [this,bdv (by omega) (by omega)]
    rw [aan (x1:=(s,(o++[UInt8.ofNat (16*h+l)]).map (λc=>PV.int (c.toNat:Int)),((i+2:Nat):Int)))]
    ·rw [ih (i+2) _ (by omega) (by omega) (by omega) (by simp;omega),U,M,Ag,Ag];cases uh (s.drop (i+1+1)) with
     | none=>rfl
     | some l=>simp
    ·simp only [S356_6step,S356_6,d,V,W,X,w2,Ad,Ae,Ag,(afa _).1,Aa,n0,n1,Y,U,M,hv,List.map_append,Bk,List.map_nil];rw [show decide ((h:Int)<0)=false from Al (by omega),show decide ((l:Int)<0)=false from Al (by omega)];rfl
  ·have d:decide ((i:Int)<(s.length:Int))=false:=Al (by omega);rw [Aq (by omega)];refine (aac (y:=.inr (o.map (λc=>PV.int (c.toNat:Int)))) ?_).trans (by simp [uh]);simp only [S356_6step,S356_6,d,Ae]
theorem a0b (l:Bq):(l.map (λc=>PV.int (c.toNat:Int))).map aat=l:=by rw [List.map_map];exact (List.map_congr_left (g:=id) (λx _=>ahq x)).trans (List.map_id _)
theorem azs (s:Bq) (m:s.length<=1048576):F356 0 s=some (ac1 s):=by
 unfold F356 ac1;rw [mod2];by_cases d:s.length%2=0
 ·have z:IntKind.wrap .i64 (((s.length:Nat):Int).tdiv (2:Int))=((s.length / 2:Nat):Int):=by
   rw [show ((s.length:Nat):Int).tdiv (2:Int)=((s.length / 2:Nat):Int) from rfl,abi (by omega) (by omega)]
  have o:decide (0<=((s.length / 2:Nat):Int)/\((s.length / 2:Nat):Int)<=aaf)=true:=Ah (by unfold aaf;omega);have lp:=a2h s m s.length 0 [] (by omega) (by omega) (by omega) (by simp);simp only [A1,A3,List.map_nil] at lp;rw [Ah d,if_pos d,Am,Ae];simp only [z,o,Ad,aal];rw [show (0:Int)=((0:Nat):Int) from rfl,lp];cases uh s with
  | none=>rfl
  | some l=>simp only [A3,Aa,aa7,a0b]
 ·rw [Al d,if_neg d];rfl
def valB (v:Nat) (l:Bq):Nat:=l.foldl (λv b=>256*v+b.toNat) v
theorem a3q {a:UInt8} (h:¬digI a.toNat<0):a=hexd (digI a.toNat).toNat:=by
 have d:((List.range 256).all λb=>decide (digI b<0)||(UInt8.ofNat b==hexd (digI b).toNat))=true:=by kernel_rfl
 have:=Bi.1 d a.toNat (List.mem_range.2 a.toNat_lt);rw [Al h,Bool.false_or,UInt8.ofNat_toNat] at this;exact eq_of_beq this
theorem apa:∀ (t l:Bq),uh t=some l->t=l.flatMap (λb=>hex2 b.toNat)/\t.length=2*l.length
 | [],l,h=>by cases h;exact ⟨rfl,rfl⟩
 | [a],l,h=>by cases h
 | a::b::r,l,h=>by
  rw [atc] at h;by_cases d:digI a.toNat<0\/digI b.toNat<0
  ·rw [if_pos d] at h;cases h
  ·rw [if_neg d] at h;cases o:uh r with
   | none=>rw [o] at h;cases h
   | some m=>
    rw [o] at h;simp only [Option.map_some,Ak] at h;subst h;obtain ⟨M,O⟩:=apa r m o;have W:=ais a.toNat;have gb:=ais b.toNat;have U:¬digI a.toNat<0:=λx=>d (Or.inl x);have V:¬digI b.toNat<0:=λx=>d (Or.inr x);refine ⟨?_,by simp only [Ao,O];omega⟩;rw [List.flatMap_cons,<-M,bdv (by omega) (by omega)];have z:(16*(digI a.toNat).toNat+(digI b.toNat).toNat) / 16=(digI a.toNat).toNat:=by omega
    have H:(16*(digI a.toNat).toNat+(digI b.toNat).toNat)%16=(digI b.toNat).toNat:=by omega
    unfold hex2;rw [z,H,<-a3q U,<-a3q V];rfl
theorem a4h (b:Nat) (h:b<256):hexN 2 b=hex2 b:=by simp only [hexN,A3,hex2];rw [show b / 16%16=b / 16 by omega];rfl
theorem ayw:∀ (l:Bq) (v n:Nat),hexN (n+2*l.length) (valB v l)=hexN n v++l.flatMap (λb=>hex2 b.toNat):=by
 intro l;induction l with
 | nil=>intro v n;simp [valB]
 | cons b r d=>intro v n;have m:=b.toNat_lt;have:=d (256*v+b.toNat) (n+2);rw [show n+2*(b::r).length=n+2+2*r.length by simp;omega,show valB v (b::r)=valB (256*v+b.toNat) r from rfl,this,a9b,show (256*v+b.toNat) / 256=v by omega,show (256*v+b.toNat)%256=b.toNat by omega,a4h _ (by omega),List.flatMap_cons,Ax]
theorem a7o:∀ (l:Bq) (v n:Nat),v<256^n->valB v l<256^(n+l.length):=by
 intro l;induction l with
 | nil=>intro v n h;exact h
 | cons b r d=>intro v n h;have m:=b.toNat_lt;have:=d (256*v+b.toNat) (n+1) (by rw [Nat.pow_succ];omega);rw [show n+(b::r).length=n+1+r.length by simp;omega];exact this
theorem a7l:∀ (t:Bq),(∀ c,c∈t->¬digI c.toNat<0)->t.length%2=0->∃ l,uh t=some l
 | [],_,_=>⟨[],rfl⟩
 | [a],_,h=>by cases h
 | a::b::r,hd,h=>by
  obtain ⟨l,m⟩:=a7l r (λc d=>hd c (by simp [d])) (by simp only [Ao] at h;omega);have o:¬(digI a.toNat<0\/digI b.toNat<0):=by have:=hd a (by simp);have:=hd b (by simp);omega
  exact ⟨_,by rw [atc,if_neg o,m];rfl⟩
theorem a89:∀ (n u:Nat) (c:UInt8),c∈hexN n u->¬digI c.toNat<0:=by
 intro n;induction n with
 | zero=>intro u c d;cases d
 | succ n m=>
  intro u c d;rw [hexN,Bm,List.mem_singleton] at d;rcases d with d | rfl
  ·exact m _ c d
  ·rw [arj (Nat.mod_lt _ (by decide))];omega
theorem a0j:((List.range 16).all λd=>ahf (hexd d)==some d)=true:=by kernel_rfl
theorem a0k {d:Nat} (h:d<16):ahf (hexd d)=some d:=by have:=Bi.1 a0j d (List.mem_range.2 h);simpa using this
theorem a1d:∀ (l m:Bq) (o:Nat),acb o (l++m)=match acb o l with | .ok a=>acb a m | .range=>.range | Lib.NumEnd.syntax=>Lib.NumEnd.syntax:=by
 intro l;induction l with
 | nil=>intro m o;rfl
 | cons c r z=>
  intro m o;simp only [Bb,acb];cases ahf c with
  | none=>rfl
  | some d=>
   by_cases h:1152921504606846976<=o
   ·simp [h]
   ·simp only [h,A7];exact z m _
theorem axe:∀ (n u:Nat),n<=16->acb 0 (hexN n u)=.ok (u%16^n):=by
 intro n;induction n with
 | zero=>intro u _;simp [hexN,acb,Nat.mod_one]
 | succ n H=>
  intro u M;rw [hexN,a1d,H (u / 16) (by omega)];have z:u / 16%16^n<16^n:=Nat.mod_lt _ (Nat.pow_pos (by decide));have o:16^n<=16^15:=Nat.pow_le_pow_right (by decide) (by omega);have m:(16:Nat)^15=1152921504606846976:=by decide
  have d:¬1152921504606846976<=u / 16%16^n:=by omega
  simp only [acb,a0k (Nat.mod_lt u (show 0<16 by decide)),if_neg d];rw [Nat.pow_succ,Nat.mul_comm (16^n) 16,Nat.mod_mul];congr 1;omega
theorem a5y:∀ (l:Bq) (m u:Nat),m<18446744073709551616->acb m l=.ok u->u<18446744073709551616:=by
 intro l;induction l with
 | nil=>intro m u h e;cases e;exact h
 | cons c r M=>
  intro m u h e;simp only [acb] at e;cases o:ahf c with
  | none=>rw [o] at e;cases e
  | some d=>
   rw [o] at e;simp only at e;by_cases H:1152921504606846976<=m
   ·rw [if_pos H] at e;cases e
   ·rw [if_neg H] at e;have z:d<16:=by
     unfold ahf at o;split at o
     ·cases o;omega
     ·split at o
      ·cases o;omega
      ·cases o
    exact M _ u (by omega) e
theorem axd (u:Nat) (m:u<18446744073709551616):acg (hexN 16 u)=.ok u:=by
 have d:(16:Nat)^16=18446744073709551616:=by decide
 unfold acg;rw [if_neg (by intro h;have:=aru 16 u;rw [h] at this;cases this),axe 16 u (by omega),d,Nat.mod_eq_of_lt m]
theorem azq (s:Bq):∃ y,F141 0 s ([48,120]:Bq)=some y/\y.length<=s.length/\∀ r,s=48::120::r->y=r:=by
 unfold F141 F245 F297;match s with
 | []=>exact ⟨[],rfl,by simp,λr h=>by cases h⟩
 | [a]=>exact ⟨[a],rfl,by simp,λr h=>by cases h⟩
 | a::b::r=>
  have m:decide (((a::b::r).length:Int)>=(([48,120]:Bq).length:Int))=true:=Ah (by simp only [Ao,Ba];omega);have o:decide ((0:Int)<=(0:Int)/\(0:Int)<=(([48,120]:Bq).length:Int)/\(([48,120]:Bq).length:Int)<=((a::b::r).length:Int))=true:=Ah (by simp only [Ao,Ba];omega);have z:decide ((0:Int)<=(([48,120]:Bq).length:Int)/\(([48,120]:Bq).length:Int)<=((a::b::r).length:Int)/\((a::b::r).length:Int)<=((a::b::r).length:Int))=true:=Ah (by simp only [Ao,Ba];omega);have H:(((a::b::r).take (([48,120]:Bq).length:Int).toNat).drop (0:Int).toNat==([48,120]:Bq))=(a==48&&b==120):=by show ([a,b]==([48,120]:Bq))=_;simp
  have M:(((a::b::r).take ((a::b::r).length:Int).toNat).drop (([48,120]:Bq).length:Int).toNat)=r:=by show ((a::b::r).take (a::b::r).length).drop 2=r;rw [List.take_length];rfl
  simp only [m,o,z,H,M,imp,Ad,Aa];cases h:(a==48&&b==120) with
  | true=>exact ⟨r,rfl,by simp;omega,λq d=>by simp only [List.cons.injEq] at d;exact d.2.2⟩
  | false=>refine ⟨a::b::r,rfl,Nat.le_refl _,λq d=>?_⟩;simp only [List.cons.injEq] at d;rw [d.1,d.2.1] at h;cases h
theorem ay4 (s:Bq) (d:s.length<=1048576):acl 0 s 16 64=some (abu (acg s)):=by unfold acl;have:Nat.ble s.length 281474976710656=true:=Nat.ble_eq_true_of_le (by omega);rw [this];rfl
theorem anz {u:Nat} (h:¬adu u<=1):ae1 u=48::120::hexN 16 u:=by unfold ae1;have d:(adu u==0)=false:=beqI (by omega);have m:(adu u==1)=false:=beqI (by omega);simp [d,m]
theorem ap9 {u:Nat} (h:adu u<=1):ae1 u=[110,97,110]\/ae1 u=[105,110,102]\/ae1 u=[45,105,110,102]:=by
 have d:adu u=0\/adu u=1:=by
  unfold adu at h ⊢;split
  ·exact Or.inl rfl
  ·split
   ·exact Or.inr rfl
   ·rename_i a b;rw [if_neg a,if_neg b] at h;split at h
    ·exact absurd h (by decide)
    ·split at h<;>exact absurd h (by decide)
 unfold ae1;rcases d with d | d
 ·rw [d];exact Or.inl rfl
 ·rw [d];simp only [show ((1:Int)==0)=false from rfl,show ((1:Int)==1)=true from rfl,Ae,Ad];cases decide (9223372036854775808<=u) with
  | true=>exact Or.inr (Or.inr rfl)
  | false=>exact Or.inr (Or.inl rfl)
end Go.Ab
namespace Go.Ab
open Go
set_option maxRecDepth 100000
def Both (a b:Option (PV×Int)):Prop:=∃ (k n:Int) (s:Bq) (e:Int),a=some (aci k n s,e)/\b=some (aci k n s,e)
theorem Both.of {a b:Option (PV×Int)} (k n:Int) (s:Bq) (e:Int) (d:a=some (aci k n s,e)) (m:b=some (aci k n s,e)):Both a b:=⟨k,n,s,e,d,m⟩
theorem ba5 (l:Bq) (Z:l.length<=8):∀ (m i v:Nat),l.length-i<=m->i<=l.length->v<256^i->
 aaz (S316_16step 0) ((),l,(),(i:Int),abn,mkV 6 (v:Int))=some ((),(),abn,mkV 6 ((valB v (l.drop i):Nat):Int)):=by
 intro m
 induction m with
 | zero=>
  intro i v H z M
  have d:decide ((i:Int)<(l.length:Int))=false:=Al (by omega)
  rw [Aq (by omega)]
  refine aac ?_
  simp only [S316_16step,S316_16,d,Ae]
  rfl
 | succ m U=>
  intro i v H z M
  by_cases o:i<l.length
  ·have d:decide ((i:Int)<(l.length:Int))=true:=Ah (by omega);have V:aaa (i:Int) l.length=true:=by rw [aab];exact Ah o
   have W:IntKind.wrap .i64 ((i:Int)+1)=((i+1:Nat):Int):=aa9 (by omega);have Y:=(l.getD i 0).toNat_lt;have hp:256^i<=256^7:=Nat.pow_le_pow_right (by decide) (by omega);have X:(256:Nat)^7=72057594037927936:=by decide
   have O:IntKind.wrap .u64 ((IntKind.wrap .u64 ((256:Int)*(v:Int)))+(IntKind.wrap .u64 ((l.getD i 0).toNat:Int)))=((256*v+(l.getD i 0).toNat:Nat):Int):=by rw [IntKind.wrap_u64,IntKind.wrap_u64,IntKind.wrap_u64];omega
   rw [aaj o 0];rw [aan (x1:=((),l,(),((i+1:Nat):Int),abn,mkV 6 ((256*v+(l.getD i 0).toNat:Nat):Int)))]
   ·rw [U (i+1) _ (by omega) (by omega) (by rw [Nat.pow_succ];omega)];rfl
   ·simp only [S316_16step,S316_16,d,V,W,Ad,Ag];show some (Sum.inl ((),l,(),((i+1:Nat):Int),abn,mkV 6 (IntKind.wrap .u64 ((IntKind.wrap .u64 ((256:Int)*(v:Int)))+(IntKind.wrap .u64 ((l.getD i 0).toNat:Int))))))=_;rw [O]
  ·have d:decide ((i:Int)<(l.length:Int))=false:=Al (by omega);rw [Aq (by omega)];refine aac ?_;simp only [S316_16step,S316_16,d,Ae];rfl
theorem aqo {s:Bq}{u:Nat} (h:acg s=.ok u):u<18446744073709551616:=by
 unfold acg at h;split at h
 ·cases h
 ·exact a5y s 0 u (by decide) h
theorem eqLs {a b:Bq} (h:a=b):(a==b)=true:=by rw [h];exact A9 b
theorem neLs {a b:Bq} (h:a≠b):(a==b)=false:=At.2 h
set_option maxHeartbeats 800000 in
theorem awj (s:Bq) (hl:s.length<=1048576):Both (F306 0 s) (F316 0 s):=by
 by_cases c1:s=[110,97,110]
 ·subst c1;exact Both.of 6 9221120237041090560 [] 0 rfl rfl
 by_cases c2:s=[105,110,102]
 ·subst c2;exact Both.of 6 9218868437227405312 [] 0 rfl rfl
 by_cases c3:s=[45,105,110,102]
 ·subst c3;exact Both.of 6 18442240474082181120 [] 0 rfl rfl
 obtain ⟨y,hy,ai,ag⟩:=azq s;have ae:=ay4 y (by omega);have d:F306 0 s=(bif !(abu (acg y)).2 then some [] else F149 0 (abu (acg y)).1).bind λy9=>bif (bif !(abu (acg y)).2 then true else !(y9==s)) then some (abn,(2:Int)) else some (mkV 6 (abu (acg y)).1,0):=by unfold F306;rw [neLs c1,neLs c2,neLs c3,hy,Aa,ae,Aa];cases (abu (acg y)).2<;>rfl
 have af:∀ l,s.length=18->s.take 2=[48,120]->uh (s.drop 2)=some l->F316 0 s=if adu (valB 0 l)<=1 then some (abn,2) else some (mkV 6 ((valB 0 l:Nat):Int),0):=by
  intro l m V o;have z:l.length=8:=by have:=(apa _ _ o).2;rw [Ar,m] at this;omega
  have he:(s.drop 2).length%2=0:=by rw [Ar,m]
  have hx:F364 0 (s.drop 2)=some (l,0):=by rw [ajv _ (by rw [Ar];omega)];unfold ac1;rw [if_pos he,o]
  have e5:((s.length:Int) != (18:Int))=false:=by rw [m];rfl
  have e6:decide (0<=(0:Int)/\(0:Int)<=(2:Int)/\(2:Int)<=(s.length:Int))=true:=Ah (by omega);have e7:decide (0<=(2:Int)/\(2:Int)<=(s.length:Int)/\(s.length:Int)<=(s.length:Int))=true:=Ah (by omega);have e8:(s.take (2:Int).toNat).drop (0:Int).toNat=[48,120]:=V;have e9:(s.take (s.length:Int).toNat).drop (2:Int).toNat=s.drop 2:=by rw [Ag,List.take_length];rfl
  have lp:=ba5 l (by omega) l.length 0 0 (by omega) (by omega) (by decide);rw [A1] at lp;have hf:=axl (valB 0 l);unfold F316;rw [neLs c1,neLs c2,neLs c3];simp only [e5,e6,e7,e8,e9,hx,Ae,Ad,Aj,imp,eqLs rfl,Am,Aa,aal];have ah:aaz (S316_16step 0) ((),l,(),(0:Int),PV.agg [(PV.int (0:Int)),(PV.int (0:Int)),(PV.str ([]:Bq)),(PV.slice []),(PV.slice []),(PV.slice []),(PV.slice [])],PV.agg [(PV.int (6:Int)),(PV.int (0:Int)),(PV.str ([]:Bq)),(PV.slice []),(PV.slice []),(PV.slice []),(PV.slice [])])=some ((),(),abn,mkV 6 ((valB 0 l:Nat):Int)):=lp;rw [ah];simp only [show ((0:Int) != 0)=false from rfl,Ae,Aa];rw [show ((mkV 6 ((valB 0 l:Nat):Int)).fld 1).asInt=((valB 0 l:Nat):Int) from rfl,hf,Aa];by_cases M:adu (valB 0 l)<=1
  ·rw [Ah M,if_pos M];rfl
  ·rw [Al M,if_neg M];rfl
 have ad:(¬∃ l,s.length=18/\s.take 2=[48,120]/\uh (s.drop 2)=some l)->F316 0 s=some (abn,2):=by
  intro hn;unfold F316;rw [neLs c1,neLs c2,neLs c3];by_cases m:s.length=18
  ·have e5:((s.length:Int) != (18:Int))=false:=by rw [m];rfl
   have e6:decide (0<=(0:Int)/\(0:Int)<=(2:Int)/\(2:Int)<=(s.length:Int))=true:=Ah (by omega);have e7:decide (0<=(2:Int)/\(2:Int)<=(s.length:Int)/\(s.length:Int)<=(s.length:Int))=true:=Ah (by omega);have e8:(s.take (2:Int).toNat).drop (0:Int).toNat=s.take 2:=rfl;have e9:(s.take (s.length:Int).toNat).drop (2:Int).toNat=s.drop 2:=by rw [Ag,List.take_length];rfl
   simp only [e5,e6,e7,e8,e9,Ae,Ad,Aj,imp];by_cases V:s.take 2=[48,120]
   ·rw [eqLs V];have he:(s.drop 2).length%2=0:=by rw [Ar,m]
    have o:uh (s.drop 2)=none:=by
     cases h:uh (s.drop 2) with
     | none=>rfl
     | some l=>exact absurd ⟨l,m,V,h⟩ hn
    rw [ajv _ (by rw [Ar];omega)];unfold ac1;rw [if_pos he,o];rfl
   ·rw [neLs V];rfl
  ·have e5:((s.length:Int) != (18:Int))=true:=bneI (by omega);simp only [e5,Ad,Ae,Am,Aj,aag,imp];rfl
 have aa:∀ u:Nat,s=48::120::hexN 16 u->u<18446744073709551616->s.length=18/\s.take 2=[48,120]/\∃ l,uh (s.drop 2)=some l/\valB 0 l=u:=by
  intro u X o;have W:=aru 16 u;have hd:s.drop 2=hexN 16 u:=by rw [X];rfl
  obtain ⟨l,U⟩:=a7l (hexN 16 u) (a89 16 u) (by rw [W]);obtain ⟨h1,h2⟩:=apa _ _ U;have z:l.length=8:=by omega
  have hv:=ayw l 0 0;rw [z,<-h1,show 0+2*8=16 from rfl,show hexN 0 0=[] from rfl,A3] at hv;have O:=a7o l 0 0 (by decide);have Y:(256:Nat)^(0+8)=18446744073709551616:=by decide
  have ab:(16:Nat)^16=18446744073709551616:=by decide
  rw [z,Y] at O;refine ⟨by rw [X];simp [W],by rw [X];rfl,l,by rw [hd];exact U,?_⟩;exact a9a 16 _ _ (by rw [ab];exact O) (by rw [ab];exact o) hv
 by_cases H:∃ u:Nat,u<18446744073709551616/\s=48::120::hexN 16 u
 ·obtain ⟨u,o,X⟩:=H;obtain ⟨m,V,l,U,hv⟩:=aa u X o;have hr:=af l m V U;rw [hv] at hr;rw [ag _ X,axd u o] at d;simp only [abu,Am,Ae,anx u o,Aa] at d;by_cases M:adu u<=1
  ·rw [if_pos M] at hr;have Z:ae1 u≠s:=by
    rcases ap9 M with h | h | h<;>rw [h,X]<;>intro h'<;>simp at h'
   rw [neLs Z] at d;exact Both.of 0 0 [] 2 d hr
  ·rw [if_neg M] at hr;rw [eqLs ((anz M).trans X.symm)] at d;exact Both.of 6 u [] 0 d hr
 ·have hr:F316 0 s=some (abn,2):=by
   refine ad ?_;rintro ⟨l,m,V,o⟩;refine H ⟨valB 0 l,?_,?_⟩
   ·have z:l.length=8:=by have:=(apa _ _ o).2;rw [Ar,m] at this;omega
    have O:=a7o l 0 0 (by decide);have Y:(256:Nat)^(0+8)=18446744073709551616:=by decide
    rw [z,Y] at O;exact O
   ·have z:l.length=8:=by have:=(apa _ _ o).2;rw [Ar,m] at this;omega
    have hv:=ayw l 0 0;rw [z,<-(apa _ _ o).1,show 0+2*8=16 from rfl,show hexN 0 0=[] from rfl,A3] at hv;have:=List.take_append_drop 2 s;rw [V,<-hv,Bb,Bb,A3] at this;exact this.symm
  refine Both.of 0 0 [] 2 ?_ hr;rw [d];cases hp:acg y with
  | ok u=>
   have o:=aqo hp;have Z:ae1 u≠s:=by
    intro hd;by_cases M:adu u<=1
    ·rcases ap9 M with h | h | h
     ·exact c1 (hd.symm.trans h)
     ·exact c2 (hd.symm.trans h)
     ·exact c3 (hd.symm.trans h)
    ·exact H ⟨u,o,hd.symm.trans (anz M)⟩
   simp only [abu,Am,Ae,anx u o,Aa,neLs Z,Aj,Ad];rfl
  | range=>rfl
  | «syntax»=>rfl
theorem apb (k b:Int) (d:2<=k/\k<=5):F250 0 k b=some (abx k b):=by
 rcases (show k=2\/k=3\/k=4\/k=5 by omega) with rfl | rfl | rfl | rfl
 ·grind [F250,abx,IntKind.wrap]
 ·rfl
 ·show some (decide (b<=4294967295))=some (decide (b<4294967296));grind
 ·rfl
theorem fitsK (k b:Int) (d:2<=k/\k<=5):amo k (mkV k b)=abx k b:=by rcases (show k=2\/k=3\/k=4\/k=5 by omega) with rfl | rfl | rfl | rfl<;>rfl
def numW (k:Int) (d:Bool) (u:Nat):PV×Int:=
 if d=true/\u=0 then (ac2,2)
 else if k=2\/k=3 then
  (if d=true then (if 9223372036854775808<u then (ac2,6) else (bif abx k (IntKind.wrap .u64 (-(u:Int))) then (mkV k (IntKind.wrap .u64 (-(u:Int))),0) else (ac2,6)))
  else if 9223372036854775808<=u then (ac2,6) else bif abx k u then (mkV k u,0) else (ac2,6))
 else if d=true then (ac2,6) else bif abx k u then (mkV k u,0) else (ac2,6)
theorem a5s (k:Int) (o:Bool) (u:Nat):∃ (a n e:Int),numW k o u=(aci a n [],e):=by
 have z:∀ e:Int,∃ (a n d:Int),(ac2,e)=(aci a n [],d):=λe=>⟨0,0,e,rfl⟩;have m:∀ b:Int,∃ (a n d:Int),(mkV k b,(0:Int))=(aci a n [],d):=λb=>⟨k,b,0,rfl⟩;have c:∀ b:Int,∃ (a n d:Int),(bif abx k b then (mkV k b,(0:Int)) else (ac2,6))=(aci a n [],d):=λb=>by
  cases abx k b
  ·exact z 6
  ·exact m b
 unfold numW;split
 ·exact z 2
 ·split
  ·split
   ·split
    ·exact z 6
    ·exact c _
   ·split
    ·exact z 6
    ·exact c _
  ·split
   ·exact z 6
   ·exact c _
theorem a6l (k:Int) (Y:2<=k/\k<=5) (o:Bool) (u:Nat) (Z:u<18446744073709551616):F318 0 k (signed o (Lib.decDigits u))=some (numW k o u):=by
 unfold F318 numW;rw [amh o u Z,Aa];by_cases z:o=true/\u=0
 ·rw [if_pos z,if_pos z];rfl
 ·rw [if_neg z,if_neg z];have V:∀ b:Int,0<=b->b<18446744073709551616->F153 0 k (PV.agg [(PV.int k),(PV.int b),(PV.str ([]:Bq)),(PV.slice []),(PV.slice []),(PV.slice []),(PV.slice [])])=some (abx k b):=λb z X=>by rw [<-fitsK k b Y];exact ajt k (mkV k b) (aur k z X)
  have hz:(0-(u:Int))=-(u:Int):=by omega
  have W:IntKind.wrap .u64 (-(u:Int))=(-(u:Int))%18446744073709551616:=by rw [IntKind.wrap_u64]
  have H:=V (u:Int) (by omega) (by omega);have O:=V (IntKind.wrap .u64 (-(u:Int))) (by rw [W];omega) (by rw [W];omega);by_cases U:k=2\/k=3
  ·have m:F366 0 k=some true:=by rcases U with rfl | rfl<;>rfl
   rw [if_pos U];cases o with
   | false=>
    by_cases M:9223372036854775808<=u
    ·have d:decide ((u:Int)>=(9223372036854775808:Int))=true:=Ah (by omega);simp [m,d,M,ac2]
    ·have d:decide ((u:Int)>=(9223372036854775808:Int))=false:=Al (by omega);simp [m,d,M,H,mkV];cases abx k u<;>rfl
   | true=>
    by_cases M:9223372036854775808<u
    ·have d:decide ((u:Int)>(9223372036854775808:Int))=true:=Ah (by omega);simp [m,d,M,ac2]
    ·have d:decide ((u:Int)>(9223372036854775808:Int))=false:=Al (by omega);simp [m,d,M,hz,O,mkV];cases abx k (IntKind.wrap .u64 (-(u:Int)))<;>rfl
  ·have m:F366 0 k=some false:=by rcases (show k=4\/k=5 by omega) with rfl | rfl<;>rfl
   rw [if_neg U];cases o with
   | true=>simp [m,ac2]
   | false=>simp [m,H,mkV];cases abx k u<;>rfl
theorem a5t (k:Int) (M:2<=k/\k<=5) (d:Bool) (u:Nat) (o:u<18446744073709551616):F309 0 k (signed d (Lib.decDigits u))=some (numW k d u):=by
 have V:=aqt d u o;unfold F309 numW;rw [ap8 d u o,al8 _ (by omega),agz _ (by omega)];by_cases z:d=true/\u=0
 ·obtain ⟨rfl,rfl⟩:=z;rfl
 ·have U:(d&&decide (u=0))=false:=by
   grind
  rw [if_neg z,U];have O:IntKind.wrap .u64 (u:Int)=(u:Int):=by rw [IntKind.wrap_u64];omega
  by_cases H:k=2\/k=3
  ·have m:(bif (k==(2:Int)) then true else (k==(3:Int)))=true:=by grind
   rw [if_pos H,m];cases d with
   | false=>have e:signed false (Lib.decDigits u)=Lib.decDigits u:=rfl;grind [amb,al4,ac2,apb,mkV,abx]
   | true=>have e:signed true (Lib.decDigits u)=45::Lib.decDigits u:=rfl;grind [amc,al4,ac2,apb,mkV,abx,IntKind.wrap]
  ·have m:(bif (k==(2:Int)) then true else (k==(3:Int)))=false:=by grind
   rw [if_neg H,m];cases d with
   | true=>have e:signed true (Lib.decDigits u)=45::Lib.decDigits u:=rfl;grind [akt,abu,ac2]
   | false=>have e:signed false (Lib.decDigits u)=Lib.decDigits u:=rfl;rw [e,aen o];simp [abu,apb k _ M,mkV];cases abx k u<;>rfl
theorem ave (d:Bool) {u:Nat} (m:u<18446744073709551616):(bif d then ([45]:Bq) else [])++decB u=signed d (Lib.decDigits u):=by rw [ahs (by omega)];cases d<;>rfl
theorem ai1 (s:Bq) (d:s.length<=1048576):∃ (a:Bq) (b:Bool),a.length<=1048576/\F355 0 s=some (a,b)/\∃ n e:Int,F215 0 s=some (a,n,e)/\(bif e != 0 then true else n != (s.length:Int))=!b:=by
 unfold F355;rw [azt s d];rcases ajz s d with ⟨a,q,m,h⟩ | ⟨_,h⟩
 ·have:=am4 a;have o:(aa4 a).length<=s.length:=by rw [m];simp
  refine ⟨a,_,by omega,by rw [h,Aa],_,_,h,?_⟩;simp only [show ((0:Int) != 0)=false from rfl,show ((0:Int)==0)=true from rfl,Ae,Ad];rfl
 ·exact ⟨[],_,by simp,by rw [h,Aa],_,_,h,rfl⟩
theorem a2f (s:Bq) (z:s.length<=1048576):Both (F308 0 7 s) (F317 0 7 s):=by
 obtain ⟨a,b,X,M,n,e,O,o⟩:=ai1 s z;have d:((7:Int)==8)=false:=rfl;have m:((7:Int)==7)=true:=rfl;have U:=ate a;have V:=aow a (by omega);have H:F308 0 7 s=bif !b then some (abn,2) else bif !valid a then some (abn,7) else bif decide ((a.length:Int)>4096) then some (abn,3) else some (aci 7 0 a,0):=by unfold F308;simp only [d,m,Ae,Ad,M,Aa,U];rfl
 have W:F317 0 7 s=bif !b then some (abn,2) else bif !valid a then some (abn,7) else bif decide ((a.length:Int)>4096) then some (abn,3) else some (aci 7 0 a,0):=by unfold F317;simp only [d,Ae,O,Aa,o,V];rfl
 rw [H,W];cases b with
 | false=>exact Both.of 0 0 [] 2 rfl rfl
 | true=>
  cases valid a with
  | false=>exact Both.of 0 0 [] 7 rfl rfl
  | true=>
   cases Y:decide ((a.length:Int)>4096) with
   | true=>exact Both.of 0 0 [] 3 rfl rfl
   | false=>exact Both.of 7 0 a 0 rfl rfl
theorem a8l (s:Bq):F354 0 s ([120]:Bq)=some (match s with | 120::r=>(r,true) | _=>(s,false)):=by
 unfold F354 F374 F297;cases s with
 | nil=>rfl
 | cons a r=>
  have d:decide (((a::r).length:Int)>=(([120]:Bq).length:Int))=true:=Ah (by grind);have m:decide ((0:Int)<=(0:Int)/\(0:Int)<=(([120]:Bq).length:Int)/\(([120]:Bq).length:Int)<=((a::r).length:Int))=true:=Ah (by grind);have o:decide ((0:Int)<=(([120]:Bq).length:Int)/\(([120]:Bq).length:Int)<=((a::r).length:Int)/\((a::r).length:Int)<=((a::r).length:Int))=true:=Ah (by grind);have z:(((a::r).take (([120]:Bq).length:Int).toNat).drop (0:Int).toNat==([120]:Bq))=(a==120):=by simp_all
  have H:(((a::r).take ((a::r).length:Int).toNat).drop (([120]:Bq).length:Int).toNat)=r:=by grind [List.take_length]
  simp only [d,m,o,z,H,imp,Ad,Aa];grind
theorem bey (s l:Bq) (h:uh s=some l):l.length<=s.length:=by have:=(apa s l h).2;omega
theorem aml (s:Bq):ac1 s=([],2)\/∃ l,ac1 s=(l,0)/\l.length<=s.length:=by
 unfold ac1;by_cases d:s.length%2=0
 ·rw [if_pos d];cases h:uh s with
  | none=>exact Or.inl rfl
  | some l=>exact Or.inr ⟨l,rfl,bey s l h⟩
 grind
theorem a0d (s:Bq) (Z:s.length<=1048576):Both (F308 0 8 s) ((F242 0 8 s)):=by
 have m:((8:Int)==8)=true:=rfl;have O:((8:Int)==7)=false:=rfl;have X:((8:Int)==1)=false:=rfl;have Y:((8:Int)==6)=false:=rfl;have z:F256 0 8=some true:=rfl;cases s with
 | nil=>refine Both.of 0 0 [] 2 ?_ rfl;obtain ⟨a,b,M,H,_⟩:=ai1 [] (by simp);unfold F308;rw [m,Ad,a8l];simp only [Aa,H,Aj,Ad];rfl
 | cons c r=>
  have r0:aaa (0:Int) (c::r).length=true:=by rw [show (0:Int)=((0:Nat):Int) from rfl,aab];simp
  by_cases U:c=120
  ·subst U;have W:r.length<=1048576:=by simp only [Ao] at Z;omega
   obtain ⟨a,b,M,H,n,e,hr,hb⟩:=ai1 r W;have hu:=azs a M;have hv:=ajv a M;have hp:F308 0 8 (120::r)=bif !b then some (abn,2) else bif (ac1 a).2 != 0 then some (abn,(ac1 a).2) else bif decide (((ac1 a).1.length:Int)>4096) then some (abn,3) else some (aci 8 0 (ac1 a).1,0):=by unfold F308;rw [m,Ad,a8l];simp only [Aa,H,m,O,Ad,Ae,Am,hu];rfl
   have hd:decide (0<=(1:Int)/\(1:Int)<=(((120:UInt8)::r).length:Int)/\(((120:UInt8)::r).length:Int)<=(((120:UInt8)::r).length:Int))=true:=Ah (by simp only [Ao];omega);have ht:(((120:UInt8)::r).take (((120:UInt8)::r).length:Int).toNat).drop (1:Int).toNat=r:=by rw [Ag,List.take_length];rfl
   have hx:F242 0 8 (120::r)=bif !b then some (abn,2) else bif (ac1 a).2 != 0 then some (abn,2) else bif decide (((ac1 a).1.length:Int)>4096) then some (abn,3) else some (aci 8 0 (ac1 a).1,0):=by
    unfold F242;rw [z,Aa];simp only [X,Y,O,m,Am,Ae,Ad,imp,r0,neLs (show (120:UInt8)::r≠[] by simp),Aj];rw [hd,ht];unfold F317;rw [hr,Aa];simp only [hb,m,Ad,hv,Aa];cases b with
    | false=>rfl
    | true=>
     cases (ac1 a).2 != 0 with
     | true=>rfl
     | false=>cases decide (((ac1 a).1.length:Int)>4096)<;>rfl
   rw [hp,hx];cases b with
   | false=>exact Both.of 0 0 [] 2 rfl rfl
   | true=>
    rcases aml a with h | ⟨l,h,_⟩
    ·rw [h];exact Both.of 0 0 [] 2 rfl rfl
    ·rw [h];cases d:decide ((l.length:Int)>4096) with
     | true=>exact Both.of 0 0 [] 3 (by simp only [d];rfl) (by simp only [d];rfl)
     | false=>exact Both.of 8 0 l 0 (by simp only [d];rfl) (by simp only [d];rfl)
  ·obtain ⟨a,b,M,H,_⟩:=ai1 (c::r) Z;refine Both.of 0 0 [] 2 ?_ ?_
   ·unfold F308;rw [m,Ad,a8l];split
    ·rename_i o;simp only [List.cons.injEq] at o;exact absurd o.1 U
    ·simp only [Aa,H,Aj,Ad];rfl
   ·have V:(((((c::r).getD (0:Int).toNat 0).toNat:Int)) != (120:Int))=true:=bneI (by
     intro h;refine U (UInt8.toNat_inj.1 ?_);have h':((c.toNat:Nat):Int)=120:=h;have:c.toNat=120:=by omega
     rw [this];rfl)
    unfold F242;rw [z,Aa];simp only [X,Y,O,m,Am,Ae,Ad,imp,r0,neLs (show c::r≠[] by simp),Aj,V];rfl
theorem bb6 (k:Int) (s:Bq) (M:ape k s):Both (F239 0 k s) (F242 0 k s):=by
 rcases M with ⟨z,O⟩ | ⟨rfl,x,U,rfl⟩ | ⟨z,o,u,H,rfl⟩
 ·rcases z with rfl | rfl | rfl
  ·by_cases d:s=[116,114,117,101]
   ·subst d;exact Both.of 1 1 [] 0 rfl rfl
   ·by_cases m:s=[102,97,108,115,101]
    ·subst m;exact Both.of 1 0 [] 0 rfl rfl
    ·refine Both.of 0 0 [] 2 ?_ ?_
     ·unfold F239;rw [neLs d,neLs m];rfl
     ·unfold F242;rw [neLs d,neLs m];rfl
  ·obtain ⟨k,n,t,e,d,m⟩:=awj s (by omega);refine Both.of k n t e ?_ ?_
   ·unfold F239;rw [d];rfl
   ·unfold F242;rw [m];rfl
  ·obtain ⟨k,n,t,e,d,m⟩:=a0d s (by omega);refine Both.of k n t e ?_ m;unfold F239;rw [d];rfl
 ·have:=aot x;obtain ⟨k,n,t,e,d,m⟩:=a2f (aa4 x) (by omega);refine Both.of k n t e ?_ ?_
  ·unfold F239;rw [d];rfl
  ·unfold F242;rw [m];rfl
 ·rw [ave o H];obtain ⟨a,n,e,h⟩:=a5s k o u;have d:=a5t k z o u H;have m:=a6l k z o u H;rw [h] at d m;refine Both.of a n [] e ?_ ?_
  ·unfold F239;rw [d];rcases (show k=2\/k=3\/k=4\/k=5 by omega) with rfl | rfl | rfl | rfl<;>rfl
  ·unfold F242;rw [m];rcases (show k=2\/k=3\/k=4\/k=5 by omega) with rfl | rfl | rfl | rfl<;>rfl
def One (L:Nat) (a:Option (PV×Int)):Prop:=∃ (k n:Int) (s:Bq) (e:Int),a=some (aci k n s,e)/\(0<=n/\n<18446744073709551616)/\s.length<=L
theorem One.of {L:Nat}{a:Option (PV×Int)} (k n e:Int) (h:a=some (aci k n [],e)) (d:0<=n/\n<18446744073709551616:=by decide):One L a:=⟨k,n,[],e,h,d,Nat.zero_le _⟩
def a2q (L:Nat) (k:Int) (s:Bq):Prop:=((k=1\/k=6\/k=8)/\s.length<=16384/\s.length<=L)\/(k=7/\∃ x:Bq,x.length<=16384/\x.length<=L/\s=aa4 x)\/((2<=k/\k<=5)/\∃ (d:Bool) (u:Nat),u<18446744073709551616/\s=(bif d then [45] else [])++decB u)
theorem bbp {k:Int}{s:Bq} (h:ape k s):a2q 16384 k s:=by
 rcases h with ⟨m,d⟩ | ⟨m,x,d,o⟩ | h
 ·exact Or.inl ⟨m,d,d⟩
 ·exact Or.inr (Or.inl ⟨m,x,d,d,o⟩)
 ·exact Or.inr (Or.inr h)
theorem a1a (k:Int) (m:Bool) (u:Nat) (M:u<18446744073709551616):∃ (a n e:Int),numW k m u=(aci a n [],e)/\0<=n/\n<18446744073709551616:=by
 have z:∀ e:Int,∃ (a n d:Int),(ac2,e)=(aci a n [],d)/\0<=n/\n<18446744073709551616:=λe=>⟨0,0,e,rfl,by decide,by decide⟩;have c:∀ b:Int,0<=b/\b<18446744073709551616->∃ (a n d:Int),(bif abx k b then (mkV k b,(0:Int)) else (ac2,6))=(aci a n [],d)/\0<=n/\n<18446744073709551616:=λb o=>by
  cases abx k b
  ·exact z 6
  ·exact ⟨k,b,0,rfl,o⟩
 have O:0<=IntKind.wrap .u64 (-(u:Int))/\IntKind.wrap .u64 (-(u:Int))<18446744073709551616:=by rw [IntKind.wrap_u64];omega
 have H:0<=(u:Int)/\(u:Int)<18446744073709551616:=by omega
 unfold numW;split
 ·exact z 2
 ·split
  ·split
   ·split;all_goals simp_all
   ·split;all_goals simp_all
  ·split;all_goals simp_all
theorem a1j (s:Bq) (d:s.length<=1048576):∃ (a:Bq) (b:Bool),a.length<=s.length/\F355 0 s=some (a,b):=by
 unfold F355;rcases ajz s d with ⟨a,q,m,h⟩ | ⟨_,h⟩
 ·have:=am4 a;have o:(aa4 a).length<=s.length:=by rw [m];simp
  exact ⟨a,_,by omega,by rw [h,Aa]⟩
 simp_all
theorem a6i (x:Bq) (m:x.length<=16384):F355 0 (aa4 x)=some (x,true):=by have d:=aot x;have h:=aq3 (a:=x) (by omega) [] (by grind);grind [F355]
theorem a0l (L:Nat) (s:Bq) (W:s.length<=1048576):One L (F306 0 s):=by
 by_cases m:s=[110,97,110]
 ·subst m;exact .of 6 9221120237041090560 0 rfl
 by_cases o:s=[105,110,102]
 ·subst o;exact .of 6 9218868437227405312 0 rfl
 by_cases z:s=[45,105,110,102]
 ·subst z;exact .of 6 18442240474082181120 0 rfl
 obtain ⟨y,O,U,V⟩:=azq s;have d:=ay4 y (by omega);unfold F306;rw [neLs m,neLs o,neLs z,O,Aa,d,Aa];cases H:acg y with
 | ok u=>
  have M:=aqo H;simp only [abu,Am,Aj,Ae,Ad,anx u M,Aa];cases (ae1 u==s)
  ·exact .of 0 0 2 rfl
  ·exact .of 6 u 0 rfl (by omega)
 | range=>exact .of 0 0 2 rfl
 | «syntax»=>exact .of 0 0 2 rfl
theorem a5a (L:Nat) (k:Int) (a:Bq) (d:a.length<=L):One L (bif decide ((a.length:Int)>4096) then some (abn,3) else some (aci k 0 a,0)):=by
 cases decide ((a.length:Int)>4096)
 ·exact ⟨k,0,a,0,rfl,by decide,d⟩
 ·exact .of 0 0 3 rfl
theorem a7g (L:Nat) (x:Bq) (o:x.length<=16384) (d:x.length<=L):One L (F308 0 7 (aa4 x)):=by
 have m:F308 0 7 (aa4 x)=bif !valid x then some (abn,7) else bif decide ((x.length:Int)>4096) then some (abn,3) else some (aci 7 0 x,0):=by unfold F308;simp only [show ((7:Int)==8)=false from rfl,show ((7:Int)==7)=true from rfl,Ae,Ad,a6i x o,Aa,ate x];rfl
 rw [m];cases valid x
 ·exact .of 0 0 7 rfl
 ·exact a5a L 7 x d
theorem a7h (L:Nat) (s:Bq) (U:s.length<=1048576) (M:s.length<=L):One L (F308 0 8 s):=by
 have W:∀ q:Bq,∀ ok:Bool,q.length<=s.length->F354 0 s ([120]:Bq)=some (q,ok)->One L (F308 0 8 s):=λq ok V m=>by
  obtain ⟨a,b,O,d⟩:=a1j q (by omega);have z:=azs a (by omega);have o:F308 0 8 s=bif (bif !ok then true else !b) then some (abn,2) else bif (ac1 a).2 != 0 then some (abn,(ac1 a).2) else bif decide (((ac1 a).1.length:Int)>4096) then some (abn,3) else some (aci 8 0 (ac1 a).1,0):=by unfold F308;simp only [show ((8:Int)==8)=true from rfl,show ((8:Int)==7)=false from rfl,Ae,Ad,m,d,Aa,z];rfl
  rw [o];cases (bif !ok then true else !b)
  ·cases (ac1 a).2 != 0
   ·refine a5a L 8 _ ?_;rcases aml a with h | ⟨l,h,H⟩<;>rw [h];all_goals grind
   ·exact .of 0 0 _ rfl
  ·exact .of 0 0 2 rfl
 have m:=a8l s;grind
theorem bep (L:Nat) (k:Int) (s:Bq) (U:a2q L k s):One L (F239 0 k s):=by
 rcases U with ⟨H,W,z⟩ | ⟨rfl,x,V,z,rfl⟩ | ⟨H,m,u,M,rfl⟩
 ·rcases H with rfl | rfl | rfl
  ·by_cases o:s=[116,114,117,101]
   ·subst o;exact .of 1 1 0 rfl
   ·by_cases d:s=[102,97,108,115,101]
    ·subst d;exact .of 1 0 0 rfl
    ·refine .of 0 0 2 ?_;unfold F239;rw [neLs o,neLs d];rfl
  ·obtain ⟨k,n,t,e,h,d⟩:=a0l L s (by omega);refine ⟨k,n,t,e,?_,d⟩;unfold F239;rw [h];rfl
  ·obtain ⟨k,n,t,e,h,d⟩:=a7h L s (by omega) z;refine ⟨k,n,t,e,?_,d⟩;unfold F239;rw [h];rfl
 ·have:=aot x;obtain ⟨k,n,t,e,h,d⟩:=a7g L x V z;refine ⟨k,n,t,e,?_,d⟩;unfold F239;rw [h];rfl
 ·rw [ave m M];obtain ⟨a,n,e,h,O⟩:=a1a k m u M;have o:=a5t k H m u M;rw [h] at o;refine .of a n e ?_ O;unfold F239;rw [o];rcases (show k=2\/k=3\/k=4\/k=5 by omega) with rfl | rfl | rfl | rfl<;>rfl
theorem aze (L:Nat) (k:Int) (s:Bq) (d:a2q L k s):F239 0 k s=some (parV k s)/\∃ (a n:Int) (t:Bq) (e:Int),parV k s=(aci a n t,e)/\(0<=n/\n<18446744073709551616)/\t.length<=L:=by obtain ⟨a,n,t,e,m,o⟩:=bep L k s d;grind [parV,aci]
theorem aux:ad0:=λk s d=>(aze _ k s (bbp d)).1
theorem refOk:av0:=by intro k s o;obtain ⟨a,n,t,e,d,m⟩:=bb6 k s o;unfold parV;rw [d,m];rfl
theorem a5x (k:Int) (s:Bq) (d:ape k s):∃ (a n:Int) (t:Bq) (e:Int),parV k s=(aci a n t,e):=by obtain ⟨_,a,n,t,e,h,_⟩:=aze _ k s (bbp d);grind
end Go.Ab
namespace Go.Ab
open Go
set_option maxRecDepth 100000
def Flat (v:PV):Prop:=∃ (a n:Int) (t:Bq),v=aci a n t
def SmT (ts:List Tk):Prop:=∀ x,x∈ts->x.s.length<=16384
theorem SmT.tail {ts:List Tk} (h:SmT ts):SmT ts.tail:=λx d=>h x (List.mem_of_mem_tail d)
theorem SmT.text {ts:List Tk} (h:SmT ts):(abr ts).length<=16384:=by
 cases ts with
 | nil=>exact Nat.zero_le _
 | cons x r=>exact h x (by simp)
theorem bbt {t:List PV} (m:TNum t) (i:Nat):SmT (ts t i):=by intro x d;unfold ts at d;obtain ⟨y,o,rfl⟩:=List.mem_map.1 d;exact m.sml y (List.mem_of_mem_drop o)
theorem a4c:Flat abn:=⟨0,0,[],rfl⟩
theorem am9 {k:Int}{s:Bq} (o:ape k s) {b r q:List Tk}{v:PV} (h:valS (parV k s) b r=.ok v q):Flat v:=by obtain ⟨a,n,t,e,d⟩:=a5x k s o;unfold valS at h;rw [d] at h;cases m:(e==0)<;>simp only [m,Ad,Ae] at h<;>cases h;exact ⟨a,n,t,rfl⟩
theorem arx {k:Int} (z:2<=k/\k<=5) (d:Bool) {l q:List Tk}{v:PV} (h:intS parV k d l=.ok v q):Flat v:=by
 unfold intS at h;cases o:(aaw l==2) with
 | false=>grind
 | true=>rw [o] at h;obtain ⟨u,H,M,m⟩:=bba (n:=aoq l);exact am9 (Or.inr (Or.inr ⟨z,d,u,H,by rw [m]⟩)) h
theorem ayg {l q:List Tk}{s:Bq} (m:SmT l) (h:abd l=.ok s q):s.length<=16384:=by unfold abd ae9 at h;cases d:(aaw l==3)<;>simp only [d,Ad,Ae] at h<;>cases h;exact m.text
theorem a9m {l:List Tk} (X:SmT l) {k:Int} (hk:0<=k/\k<=8) {v:PV}{q:List Tk} (h:litS parV k l=.ok v q):Flat v:=by
 unfold litS at h;cases d:(k==0) with
 | true=>rw [d] at h;cases Z:ai9 l<;>simp only [Z,Ad,Rs.bind] at h<;>cases h;exact ⟨9,0,_,rfl⟩
 | false=>
  cases m:(k==1) with
  | true=>
   have M:k=1:=eq_of_beq m;subst M;rw [d,m] at h;simp only [Ae,Ad] at h;cases V:(isS 1 [116,114,117,101] l||isS 1 [102,97,108,115,101] l)<;>simp only [V,Ad,Ae] at h
   ·cases h
   ·exact am9 (Or.inl ⟨Or.inl rfl,X.text⟩) h
  | false=>
   cases H:(k==6||k==8) with
   | true=>
    rw [d,m,H] at h;simp only [Ae,Ad] at h;have z:k=6\/k=8:=by simpa using H
    cases o:abd l with
    | er=>grind [Rs.bind]
    | ok s q'=>simp only [o,Rs.bind] at h;have W:=ayg X o;exact am9 (Or.inl ⟨by omega,W⟩) h
   | false=>
    have z:¬(k=6\/k=8):=by grind
    cases O:(k==7) with
    | true=>
     have U:k=7:=eq_of_beq O;subst U;rw [d,m,H,O] at h;simp only [Ae,Ad] at h;cases o:abd l with
     | er=>grind [Rs.bind]
     | ok s q'=>simp only [o,Rs.bind] at h;have W:=ayg X o;exact am9 (Or.inr (Or.inl ⟨rfl,s,W,rfl⟩)) h
    | false=>
     rw [d,m,H,O] at h;simp only [Ae] at h;have n0:k≠0:=λe=>by all_goals grind
     have n1:k≠1:=λe=>by all_goals grind
     have n7:k≠7:=λe=>by all_goals grind
     have Y:2<=k/\k<=5:=by omega
     cases V:isS 4 [45] l<;>simp only [V,Ad,Ae] at h;all_goals grind [arx]
end Go.Ab
namespace Go.Ab
open Go
set_option maxRecDepth 100000
noncomputable section
theorem bec {w:Bq} (l:List Tk):isS 1 w l=(aaw l==1&&abr l==w):=by
 cases l with
 | nil=>rfl
 | cons x r=>rfl
section
variable {t:List PV}{q:QF}{c:Prop}
def ahr (l:List Tk):Int:=bif isS 1 [109,97,112] l then 5 else bif aaw l==1 then af3 (abr l) else 0
theorem a3j (l:List Tk):ahr l=5->isS 1 [109,97,112] l=true:=by
 unfold ahr;cases isS 1 [109,97,112] l with
 | true=>exact λ_=>rfl
 | false=>
  simp only [Ae];cases aaw l==1 with
  | false=>intro h;cases h
  | true=>
   simp only [Ad];unfold af3;cases abr l==[114,101,113,117,105,114,101,100] with
   | true=>intro h;cases h
   | false=>
    cases abr l==[111,112,116,105,111,110,97,108] with
    | true=>intro h;cases h
    | false=>
     cases abr l==[112,108,97,105,110] with
     | true=>intro h;cases h
     | false=>cases abr l==[108,105,115,116]<;>intro h<;>cases h
theorem bdz (i:Nat):F121 0 () (t,(i:Int),0,q)=some (ahr (ts t i),(t,(i:Int),0,q)):=by
 unfold F121 ahr af3;simp only [isR 1 rfl,Aa,bec];obtain ⟨x,H⟩:∃ x,abr (ts t i)=x:=⟨_,rfl⟩;simp only [H];cases aaw (ts t i)==1 with
 | false=>rfl
 | true=>
  simp only [Bool.true_and,Ad];by_cases d:x=[114,101,113,117,105,114,101,100]
  ·subst d;rfl
  by_cases m:x=[111,112,116,105,111,110,97,108]
  ·subst m;rfl
  by_cases o:x=[112,108,97,105,110]
  ·subst o;rfl
  by_cases z:x=[108,105,115,116]
  ·subst z;rfl
  simp only [neLs d,neLs m,neLs o,neLs z,Ae];cases x==[109,97,112]<;>rfl
theorem cardE (a e:Int) (d:e≠0):F121 0 () (t,a,e,q)=some (0,(t,a,e,q)):=by unfold F121;simp only [isE 1 _ a e d,Aa,Ae]
def af0 (card key:Int) (d:PV) (m:Bq):PV:=PV.agg [(PV.int (0:Int)),(PV.str ([]:Bq)),(PV.int card),(PV.int key),d,(PV.str m),(PV.bool false),abn,(PV.slice [])]
theorem RF.step {m z R o:Type}{mk:m->Q4->R}{d:z->Q4->o}{f:List Tk->Rs m}{F:Q4->Option R}{f2:m->List Tk->Rs z}{g:R->Option o}{G:m->Q4->Option o} (h:RF t q mk c f F)
 (M:∀ v s,g (mk v s)=G v s) (H:∀ v,RF t q d (c/\∃ i j,i<=t.length/\j<=t.length/\f (ts t i)=.ok v (ts t j)) (f2 v) (G v)):RF t q d c (λr=>(f r).bind f2) (λs=>(F s).bind g):=
 RF.bind h λv=>RF.congr (H v) (λ_=>rfl) (λs=>M v s)
def finS (card key:Int) (M:PV) (O:Bq) (n:Int) (o:Bq) (m:Bool) (d:PV) (r:List Tk):Rs PV:=(acw parV aae r).bind λl z=>(eatS 4 [59] z).bind λ_ H=>.ok (agx n o card key M O m d l) H
def finG (card key:Int) (H:PV) (M:Bq) (n:Int) (z:Bq) (o:Bool) (m:PV) (s:Q4):Option (PV×Q4):=(F222 0 () s).bind λd=>(F104 0 () [59] d.2).bind λO=>some (agx n z card key H M o m d.1,O)
theorem fin1 (d:TOk t) (x:PV):RF t q (λv z=>(v,z)) c (λr=>(eatS 4 [59] r).bind λ_ m=>.ok x m) (λs=>(F104 0 () [59] s).bind λo=>some (x,o)):=
 RF.step (ajb d [59]) (G:=λ_ s=>some (x,s)) (λ_ _=>rfl) λ_=>RF.ret' x λs=>rfl
theorem finR (O:TNum t) (U:t.length<=100000) (card key:Int) (H:PV) (M:Bq) (n:Int) (o:Bq) (m:Bool) (d:PV):RF t q (λv z=>(v,z)) c (finS card key H M n o m d) (finG card key H M n o m d):=
 RF.step (aqj aux O U) (G:=λl s=>(F104 0 () [59] s).bind λV=>some (agx n o card key H M m d l,V)) (λ_ _=>rfl) λl=>fin1 O.toTOk _
def dfG (card key:Int) (d:PV) (o:Bq) (M:Bool) (n:Int) (m:Bq) (s:Q4):Option (PV×Q4):=
 bif M then (F102 0 () 1 [100,101,102,97,117,108,116] s).bind λz=>bif z.1 then (F64 0 () (d.fld 0).asInt z.2).bind λH=>finG card key d o n m true H.1 H.2 else finG card key d o n m false abn z.2
 else finG card key d o n m false abn s
def dfS (card key:Int) (m:PV) (H:Bq) (M:Bool) (n:Int) (o:Bq) (r:List Tk):Rs PV:=(ari parV M (m.fld 0).asInt r).bind λd z=>finS card key m H n o d.1 d.2 z
theorem dfR (H:TNum t) (O:t.length<=100000) (card key:Int) (d:PV) (o:Bq) (M:Bool) (n:Int) (m:Bq) (X:M=true->c->0<=(d.fld 0).asInt/\(d.fld 0).asInt<=8):RF t q (λv z=>(v,z)) c (dfS card key d o M n m) (dfG card key d o M n m):=by
 cases M with
 | false=>exact RF.congr (finR H O card key d o n m false abn) (λr=>rfl) (λs=>rfl)
 | true=>
  refine RF.congr (RF.may (f1:=λr=>(litS parV (d.fld 0).asInt r).bind λv Y=>finS card key d o n m true v Y) (f2:=finS card key d o n m false abn)
   (g:=λU=>bif U.1 then (F64 0 () (d.fld 0).asInt U.2).bind λV=>finG card key d o n m true V.1 V.2 else finG card key d o n m false abn U.2) H.toTOk 1 rfl [100,101,102,97,117,108,116] ?_ ?_) (λr=>?_) (λs=>rfl)
  ·exact RF.congr (RF.step (litR refOk H _ (λW=>X rfl W)) (G:=λv s=>finG card key d o n m true v s) (λ_ _=>rfl) λv=>finR H O card key d o n m true v) (λr=>rfl) (λs=>rfl)
  ·exact RF.congr (finR H O card key d o n m false abn) (λr=>rfl) (λs=>rfl)
  ·unfold dfS ari;rw [Bool.true_and];cases isS 1 [100,101,102,97,117,108,116] r with
   | false=>rfl
   | true=>simp only [Ad];cases litS parV (d.fld 0).asInt r.tail<;>rfl
theorem endR (Y:TNum t) (h5:t.length<=100000) (card key:Int) (m:PV) (M:Bq) (o:Bool) (hk:o=true->c->0<=(m.fld 0).asInt/\(m.fld 0).asInt<=8):
 RF t q (λv z=>(v,z)) c (ag9 parV aae card key m M o) (F122 0 () (af0 card key m M) o):=by
 have h0:=Y.toTOk
 have b3:∀ (O:Prop) (d:Bq),(O->c)->RF t q (λv z=>(v,z)) O (λr=>(numS 65535 r).bind λn W=>dfS card key m M o n d W) (λs=>(F226 0 () 65535 s).bind λH=>dfG card key m M o H.1 d H.2):=λO d U=>
  RF.step (numR Y 65535) (G:=λn s=>dfG card key m M o n d s) (λ_ _=>rfl) λn=>dfR Y h5 card key m M o n d λhw V=>hk hw (U V.1)
 have b2:∀ (O:Prop) (d:Bq),(O->c)->RF t q (λv z=>(v,z)) O (λr=>(eatS 4 [61] r).bind λ_ Z=>(numS 65535 Z).bind λn W=>dfS card key m M o n d W) (λs=>(F104 0 () [61] s).bind λX=>(F226 0 () 65535 X).bind λH=>dfG card key m M o H.1 d H.2):=λO d U=>
  RF.step (ajb h0 [61]) (G:=λ_ s=>(F226 0 () 65535 s).bind λH=>dfG card key m M o H.1 d H.2) (λ_ _=>rfl) λ_=>b3 _ d λV=>U V.1
 have b1:RF t q (λv z=>(v,z)) c (λr=>(ai9 r).bind λd r1=>(eatS 4 [61] r1).bind λ_ Z=>(numS 65535 Z).bind λn W=>dfS card key m M o n d W) (λs=>(F136 0 () s).bind λy1=>(F104 0 () [61] y1.2).bind λX=>(F226 0 () 65535 X).bind λH=>dfG card key m M o H.1 y1.1 H.2):=
  RF.step (a6a h0) (G:=λd s=>(F104 0 () [61] s).bind λX=>(F226 0 () 65535 X).bind λH=>dfG card key m M o H.1 d H.2) (λ_ _=>rfl) λd=>b2 _ d λV=>V.1
 refine RF.congr b1 (λr=>rfl) (λs=>?_)
 unfold F122 dfG
 cases o with
 | false=>rfl
 | true=>rfl
theorem a7k {l r:List Tk}{d:PV} (h:typS l=.ok d r):0<=(d.fld 0).asInt/\(d.fld 0).asInt<=8:=by unfold typS at h;cases m:ack l<;>simp only [m,Rs.bind] at h<;>cases h;exact atb _
theorem bcf (ht:TNum t) (h5:t.length<=100000):RF t q (λv z=>(v,z)) True (afh parV aae) (F56 0 ()):=by
 have h0:=ht.toTOk;have hl:=ht.len;have X:∀ (U:Prop) (card key:Int) (o:PV) (wd:Bool),(wd=true->U->0<=(o.fld 0).asInt/\(o.fld 0).asInt<=8)->RF t q (λv z=>(v,z)) U (ag9 parV aae card key o [] wd) (λs=>(F122 0 () (af0 card key o []) wd s).bind λy=>some y):=λU card key o wd hk=>
  RF.congr (endR ht h5 card key o [] wd hk) (λr=>rfl) (λs=>by cases (F122 0 () (af0 card key o []) wd s)<;>rfl)
 have V:∀ card:Int,RF t q (λv z=>(v,z)) True (λr=>(typS r).bind λo W=>ag9 parV aae card 0 o [] true W) (λs=>(F53 0 () s).bind λy8=>(F122 0 () (af0 card 0 y8.1 []) true y8.2).bind λZ=>some Z):=λcard=>
  RF.step (typR h0) (G:=λo s=>(F122 0 () (af0 card 0 o []) true s).bind λZ=>some Z) (λ_ _=>rfl) λo=>X _ card 0 o true λ_ ⟨_,i,j,_,_,h⟩=>a7k h
 have ag:∀ (U:Prop) (w:Int) (o:PV),RF t q (λv z=>(v,z)) U (λr=>(eatS 4 [62] r).bind λ_ Y=>ag9 parV aae 5 w o [] false Y) (λs=>(F104 0 () [62] s).bind λM=>(F122 0 () (af0 5 w o []) false M).bind λm=>some m):=λU w o=>
  RF.step (ajb h0 [62]) (G:=λ_ s=>(F122 0 () (af0 5 w o []) false s).bind λm=>some m) (λ_ _=>rfl) λ_=>X _ 5 w o false λh=>by cases h
 have af:∀ (U:Prop) (w:Int),RF t q (λv z=>(v,z)) U (λr=>(typS r).bind λo r3=>(eatS 4 [62] r3).bind λ_ Y=>ag9 parV aae 5 w o [] false Y) (λs=>(F53 0 () s).bind λH=>(F104 0 () [62] H.2).bind λM=>(F122 0 () (af0 5 w H.1 []) false M).bind λm=>some m):=λU w=>
  RF.step (typR h0) (G:=λo s=>(F104 0 () [62] s).bind λM=>(F122 0 () (af0 5 w o []) false M).bind λm=>some m) (λ_ _=>rfl) λo=>ag _ w o
 have ae:∀ w:Int,RF t q (λv z=>(v,z)) True (λr=>(eatS 4 [44] r).bind λ_ W=>(typS W).bind λo r3=>(eatS 4 [62] r3).bind λ_ Y=>ag9 parV aae 5 w o [] false Y)
  (λs=>(F104 0 () [44] s).bind λO=>(F53 0 () O).bind λH=>(F104 0 () [62] H.2).bind λM=>(F122 0 () (af0 5 w H.1 []) false M).bind λm=>some m):=λw=>
  RF.step (ajb h0 [44]) (G:=λ_ s=>(F53 0 () s).bind λH=>(F104 0 () [62] H.2).bind λM=>(F122 0 () (af0 5 w H.1 []) false M).bind λm=>some m) (λ_ _=>rfl) λ_=>af _ w
 have zf:∀ x2:Int,PV.agg [(PV.int (0:Int)),(PV.str ([]:Bq)),(PV.int x2),(PV.int (0:Int)),(PV.agg [(PV.int (0:Int)),(PV.str ([]:Bq))]),(PV.str ([]:Bq)),(PV.bool false),(PV.agg [(PV.int (0:Int)),(PV.int (0:Int)),(PV.str ([]:Bq)),(PV.slice []),(PV.slice []),(PV.slice []),(PV.slice [])]),(PV.slice [])]=af0 x2 0 (PV.agg [(PV.int (0:Int)),(PV.str ([]:Bq))]) []:=λ_=>rfl;have ah:RF t q (λv z=>(v,z)) True (λr=>(eatS 4 [60] r).bind λ_ W=>bif aaw W==1&&!(adz (abr W)==0) then (eatS 4 [44] W.tail).bind λ_ r3=>(typS r3).bind λo Y=>(eatS 4 [62] Y).bind λ_ r5=>ag9 parV aae 5 (adz (abr W)) o [] false r5 else .er W 2)
  (λs=>(F104 0 () [60] s).bind λaj=>(F105 0 () 1 aj).bind λd=>
   bif imp (!!d.1) (aaa d.2.2.1 d.2.1.length) then (bif !!d.1 then F19 0 ((d.2.1.getD d.2.2.1.toNat .bad).fld 1).asStr else some 0).bind λaa=>
    bif (bif !d.1 then true else (aa==(0:Int))) then (F106 0 () 2 d.2).bind λab=>some (af0 5 0 (PV.agg [(PV.int (0:Int)),(PV.str ([]:Bq))]) [],ab)
    else bif aaa d.2.2.1 d.2.1.length then (F19 0 ((d.2.1.getD d.2.2.1.toNat .bad).fld 1).asStr).bind λad=>
     (F104 0 () [44] (d.2.1,(IntKind.wrap .i64 (d.2.2.1+(1:Int))),d.2.2.2)).bind λO=>(F53 0 () O).bind λH=>(F104 0 () [62] H.2).bind λM=>(F122 0 () (af0 5 ad H.1 []) false M).bind λm=>some m
    else none else none):=by
  refine RF.step (ajb h0 [60]) (G:=λ_ s=>(F105 0 () 1 s).bind λd=>
   bif imp (!!d.1) (aaa d.2.2.1 d.2.1.length) then (bif !!d.1 then F19 0 ((d.2.1.getD d.2.2.1.toNat .bad).fld 1).asStr else some 0).bind λaa=>
    bif (bif !d.1 then true else (aa==(0:Int))) then (F106 0 () 2 d.2).bind λab=>some (af0 5 0 (PV.agg [(PV.int (0:Int)),(PV.str ([]:Bq))]) [],ab)
    else bif aaa d.2.2.1 d.2.1.length then (F19 0 ((d.2.1.getD d.2.2.1.toNat .bad).fld 1).asStr).bind λad=>
     (F104 0 () [44] (d.2.1,(IntKind.wrap .i64 (d.2.2.1+(1:Int))),d.2.2.2)).bind λO=>(F53 0 () O).bind λH=>(F104 0 () [62] H.2).bind λM=>(F122 0 () (af0 5 ad H.1 []) false M).bind λm=>some m
    else none else none) (λ_ _=>rfl) λ_=>?_
  refine ⟨λ_ i hi=>?_,λj e hj he=>⟨af0 5 0 (PV.agg [(PV.int (0:Int)),(PV.str ([]:Bq))]) [],?_⟩⟩
  ·simp only [art 1 rfl,Aa];cases hb:(aaw (ts t i)==1) with
   | false=>simp only [Aj,Am,imp,Ad,Ae,aag,Aa,Bool.false_and];exact .er i 2 _ hi (by decide) rfl rfl
   | true=>
    have h:=abt (show ((1:Int)==0)=false from rfl) hb;simp only [Aj,Am,imp,Ad,Ae,aab,h,decide_true,Ag,(ana _).2,Aa,Bool.true_and,ada h,aa9 (show i<=9223372036854775000 by omega),aao];cases hw:(adz ((t.getD i .bad).fld 1).asStr==0) with
    | true=>exact .er i 2 _ hi (by decide) rfl rfl
    | false=>simp only [Aj,Ad,Ae];exact (ae (adz ((t.getD i .bad).fld 1).asStr)).rp trivial (i+1) h
  ·simp only [amp 1 _ e he,Aa,Aj,Am,imp,Ad,Ae,aag,ai8 2 _ e he]
 refine ⟨λ_ i hi=>?_,λj e hj he=>⟨af0 0 0 (PV.agg [(PV.int (0:Int)),(PV.str ([]:Bq))]) [],?_⟩⟩
 ·unfold F56 afh;simp only [bdz,Aa];cases hm:isS 1 [109,97,112] (ts t i) with
  | true=>
   have hc:ahr (ts t i)=5:=by unfold ahr;rw [hm];rfl
   have h:=abl hm;simp only [hc,show ((5:Int)==0)=false from rfl,show ((5:Int) != 5)=false from rfl,Ad,Ae,aa9 (show i<=9223372036854775000 by omega),aao];exact ah.rp trivial (i+1) h
  | false=>
   cases hb:(aaw (ts t i)==1) with
   | false=>
    have hc:ahr (ts t i)=0:=by unfold ahr;rw [hm,hb];rfl
    simp only [hc,show ((0:Int)==0)=true from rfl,Ad,Ae,Bool.false_and];exact .er i 2 _ hi (by decide) rfl rfl
   | true=>
    have hc:ahr (ts t i)=af3 (abr (ts t i)):=by unfold ahr;rw [hm,hb];rfl
    have h:=abt (show ((1:Int)==0)=false from rfl) hb;have ai:(af3 (abr (ts t i)) != 5)=true:=bneI λh=>by have:=a3j (ts t i) (hc.trans h);rw [hm] at this;cases this
    simp only [hc,ai,Bool.true_and,Ad,Ae,aa9 (show i<=9223372036854775000 by omega),aao];cases hw:(af3 (abr (ts t i))==0) with
    | true=>exact .er i 2 _ hi (by decide) rfl rfl
    | false=>simp only [Aj,Ad,Ae];exact (V (af3 (abr (ts t i)))).rp trivial (i+1) h
 ·unfold F56;simp only [cardE _ e he,Aa,show ((0:Int)==0)=true from rfl,Ad,ai8 2 _ e he];rfl
end
theorem Rs.bind_inv {d m:Type}{x:Rs d}{f:d->List Tk->Rs m}{v:m}{r:List Tk} (h:x.bind f=.ok v r):∃ a q,x=.ok a q/\f a q=.ok v r:=by
 cases x with
 | ok a q=>exact ⟨a,q,rfl,h⟩
 | er q e=>cases h
theorem aff {k:Int}{s:Bq}{l r:List Tk}{v:Unit} (h:eatS k s l=.ok v r):r=l.tail:=by unfold eatS at h;cases d:isS k s l<;>simp only [d,Ad,Ae] at h<;>cases h;rfl
theorem ao8 {k:Int}{p:Bq->Bool}{l r:List Tk}{v:Bq} (h:ae9 k p l=.ok v r):r=l.tail:=by
 unfold ae9 at h;cases d:(aaw l==k)<;>simp only [d,Ad,Ae] at h
 ·cases h
 ·cases m:p (abr l)<;>simp only [m,Ad,Ae] at h<;>cases h;rfl
theorem aza {d:Int}{l r:List Tk}{v:Int} (h:numS d l=.ok v r):r=l.tail:=by
 unfold numS at h;cases m:(aaw l==2)<;>simp only [m,Ad,Ae] at h
 ·cases h
 ·cases o:decide (0<=aoq l/\aoq l<=d)<;>simp only [o,Ad,Ae] at h<;>cases h;rfl
theorem am7 {l r:List Tk}{v:PV} (h:typS l=.ok v r):r=l.tail:=by obtain ⟨a,q,d,m⟩:=Rs.bind_inv h;cases m;exact ao8 d
def atm (v:PV):Prop:=∃ (s:Bq) (w:PV),v=PV.agg [PV.str s,w]/\Flat w
theorem auu {k:Int} (m:k=1\/k=7\/k=3\/k=4) {l r:List Tk}{v:PV} (h:ag5 parV k l=.ok v r):Flat v:=by
 have d:∀ k:Int,2<=k/\k<=5->(bif isS 4 [45] l then intS parV k true l.tail else intS parV k false l)=.ok v r->Flat v:=λk m h=>by
  cases M:isS 4 [45] l<;>simp only [M,Ad,Ae] at h
  ·exact arx m _ h
  ·exact arx m _ h
 unfold ag5 at h;rcases m with rfl | rfl | rfl | rfl
 ·simp only [show ((1:Int)==1)=true from rfl,Ad] at h;cases o:isS 1 [116,114,117,101] l<;>simp only [o,Ad,Ae] at h
  ·cases z:isS 1 [102,97,108,115,101] l<;>simp only [z,Ad,Ae] at h<;>cases h;exact ⟨_,_,_,rfl⟩
  ·cases h;exact ⟨_,_,_,rfl⟩
 ·simp only [show ((7:Int)==1)=false from rfl,show ((7:Int)==7)=true from rfl,Ad,Ae] at h;cases o:(aaw l==3)<;>simp only [o,Ad,Ae] at h
  ·cases h
  ·cases z:decide ((abr l).length>4096)<;>simp only [z,Ad,Ae] at h
   ·cases H:valid (abr l)<;>simp only [H,Ad,Ae] at h<;>cases h;exact ⟨_,_,_,rfl⟩
   ·cases h
 ·exact d 3 (by decide) h
 ·exact d 4 (by decide) h
theorem a5r {l r:List Tk}{v:PV} (h:apr parV aae l=.ok v r):atm v:=by
 unfold apr at h;cases o:(aaw l==1)<;>simp only [o,Ad,Ae] at h
 ·cases h
 ·cases d:(aae (abr l)==0)<;>simp only [d,Ad,Ae] at h
  ·obtain ⟨_,q,_,z⟩:=Rs.bind_inv h;obtain ⟨w,O,H,M⟩:=Rs.bind_inv z;cases M;exact ⟨_,w,rfl,auu (by
    have m:aae (abr l)≠0:=λe=>by rw [e] at d;cases d
    exact an6 m) H⟩
  ·cases h
theorem apt:∀ (m:Nat) (l:List Tk) (d:List PV),l.length<=m->(∀ x,x∈d->atm x)->∀ v r,ac9 parV aae l d=.ok v r->∀ x,x∈v->atm x:=by
 intro m;induction m with
 | zero=>intro l d W O v r h;have:l=[]:=Az (by omega);subst this;rw [acy] at h;cases h
 | succ m Y=>
  intro l d W O v r h;rw [acy] at h;obtain ⟨n,q,M,z⟩:=Rs.bind_inv h;have X:=a5r M;have Z:=aoo parV aae l n q M;have o:∀ x,x∈d++[n]->atm x:=λx H=>by
   rcases Bm.1 H with H | H
   ·exact O x H
   ·rw [List.mem_singleton.1 H];exact X
  cases U:isS 4 [93] q<;>simp only [U,Ad,Ae] at z
  ·cases V:isS 4 [44] q<;>simp only [V,Ad,Ae] at z
   ·cases z
   ·exact Y q.tail _ (by have:=acd q;omega) o v r z
  ·cases z;exact o
theorem aql {l r:List Tk}{v:List PV} (h:acw parV aae l=.ok v r):∀ x,x∈v->atm x:=by
 unfold acw at h;cases m:isS 4 [91] l<;>simp only [m,Ad,Ae] at h
 ·cases h;intro x d;cases d
 ·exact apt _ _ [] (Nat.le_refl _) (by intro x d;cases d) v r h
def a7x (v:PV):Prop:=∃ (m:Int) (H:Bq) (card key:Int) (M:PV) (O:Bq) (z:Bool) (o:PV) (d:List PV),v=agx m H card key M O z o d/\Flat o/\∀ x,x∈d->atm x
theorem as6 {card key:Int}{o:PV}{U:Bq}{z:Bool}{l r:List Tk}{v:PV} (hs:SmT l) (hk:z=true->0<=(o.fld 0).asInt/\(o.fld 0).asInt<=8) (h:ag9 parV aae card key o U z l=.ok v r):a7x v:=by
 obtain ⟨nm,r1,V,h⟩:=Rs.bind_inv h;obtain ⟨_,r2,W,h⟩:=Rs.bind_inv h;obtain ⟨n,O,X,h⟩:=Rs.bind_inv h;obtain ⟨d,r4,m,h⟩:=Rs.bind_inv h;obtain ⟨M,r5,Y,h⟩:=Rs.bind_inv h;obtain ⟨_,r6,e6,h⟩:=Rs.bind_inv h;cases h;refine ⟨n,nm,card,key,o,U,d.1,d.2,M,rfl,?_,aql Y⟩;have s3:SmT O:=by rw [aza X,aff W,ao8 V];exact hs.tail.tail.tail
 unfold ari at m;cases H:(z&&isS 1 [100,101,102,97,117,108,116] O)<;>simp only [H,Ad,Ae] at m
 ·cases m;exact a4c
 ·obtain ⟨w,q,Z,e8⟩:=Rs.bind_inv m;cases e8;have hw:z=true:=by simp only [Ai] at H;exact H.1
  exact a9m s3.tail (hk hw) Z
theorem a8t {l r:List Tk}{v:PV} (o:SmT l) (h:afh parV aae l=.ok v r):a7x v:=by
 unfold afh at h;cases O:isS 1 [109,97,112] l<;>simp only [O,Ad,Ae] at h
 ·cases m:(aaw l==1&&!(af3 (abr l)==0))<;>simp only [m,Ad,Ae] at h
  ·cases h
  ·obtain ⟨U,q,d,h⟩:=Rs.bind_inv h;refine as6 (by rw [am7 d];exact o.tail.tail) (λ_=>a7k d) h
 ·obtain ⟨_,q,d,h⟩:=Rs.bind_inv h;cases m:(aaw q==1&&!(adz (abr q)==0))<;>simp only [m,Ad,Ae] at h
  ·cases h
  ·obtain ⟨_,V,z,h⟩:=Rs.bind_inv h;obtain ⟨U,W,H,h⟩:=Rs.bind_inv h;obtain ⟨_,X,M,h⟩:=Rs.bind_inv h;refine as6 (by rw [aff M,am7 H,aff z,aff d];exact o.tail.tail.tail.tail.tail.tail) (λh=>by cases h) h
theorem aqd {v:PV} (h:Flat v):F57 0 v v=some true:=by obtain ⟨a,n,t,rfl⟩:=h;unfold F57;refine ali 1 λd o=>?_;obtain ⟨d,rfl⟩:∃ m,d=m+1:=⟨d-1,by omega⟩;unfold G57 B57;simp only [aci,PV.fld,PV.asInt,PV.asStr,PV.asList,bne_self_eq_false,A9,Ad,Ae,List.getD_cons_zero,List.getD_cons_succ,Am,aal];rw [aac (step:=B57_5step 0 (G57 0 d)) (y:=.inr ((),(),aci a n t,aci a n t)) rfl];simp only [Aa,aa7];rw [aac (step:=B57_10step 0 (G57 0 d)) (y:=.inr ((),(),aci a n t,aci a n t)) rfl];simp only [Aa,aa7];rw [aac (step:=B57_15step 0 (G57 0 d)) (y:=.inr ((),(),aci a n t,aci a n t)) rfl];simp only [Aa,aa7];rw [aac (step:=B57_20step 0 (G57 0 d)) (y:=.inr (aci a n t,aci a n t)) rfl];rfl
theorem allT:∀ k i:Nat,allF (λ_=>true) i k=true
 | 0,_=>rfl
 | k+1,i=>by rw [allF,allT k (i+1)];rfl
theorem aop (l:List PV) (O:l.length<=1048576) (z:∀ x,x∈l->atm x):F58 0 l l=some true:=by
 unfold F58;have m:=ah5 (step:=S58_5step 0) (λi=>(l,l,(i:Int))) l.length (λ_=>true) (.inl false) (.inr ())
  (λi o=>by obtain ⟨s,w,M,d⟩:=z _ (ace o .bad);have H:=aqd d;simp only [S58_5step,S58_5,abh,o,decide_true,Ad,aab,Ag,aa9 (show i<=9223372036854775000 by omega),M,A9,Am,Aj,imp,Ae];rw [show (PV.agg [PV.str s,w]).fld 1=w from rfl,H];rfl)
  (by simp only [S58_5step,S58_5,abh,Nat.lt_irrefl,decide_false,Ae]) l.length 0 (by omega)
 simp only [bne_self_eq_false,Ae,aal];rw [show (0:Int)=((0:Nat):Int) from rfl,m];rw [allT];rfl
theorem auc {v:PV} (h:a7x v) (X:(v.fld 8).asList.length<=1048576):F27 0 v v=some true:=by obtain ⟨m,H,card,key,M,O,z,o,d,rfl,W,Y⟩:=h;have U:=aqd W;have V:=aop d X Y;unfold F27;simp only [A9,Ad];rw [show (agx m H card key M O z o d).fld 7=o from rfl,show ((agx m H card key M O z o d).fld 8).asList=d from rfl,U];simp only [Aa,Ad,V]
theorem asr:∀ (m:Nat) (l:List Tk) (d:List PV),l.length<=m->∀ v r,ac9 parV aae l d=.ok v r->v.length<=d.length+l.length:=by
 intro m;induction m with
 | zero=>intro l d O v r h;have:l=[]:=Az (by omega);subst this;rw [acy] at h;cases h
 | succ m U=>
  intro l d O v r h;rw [acy] at h;obtain ⟨n,q,z,o⟩:=Rs.bind_inv h;have V:=aoo parV aae l n q z;cases H:isS 4 [93] q<;>simp only [H,Ad,Ae] at o
  ·cases M:isS 4 [44] q<;>simp only [M,Ad,Ae] at o
   ·cases o
   ·have:=U q.tail _ (by have:=acd q;omega) v r o;have:=acd q;simp only [Bc,Ao,Ba] at *;omega
  ·cases o;simp only [Bc,Ao,Ba];omega
theorem aqk {l r:List Tk}{v:List PV} (h:acw parV aae l=.ok v r):v.length<=l.length:=by
 unfold acw at h;cases d:isS 4 [91] l<;>simp only [d,Ad,Ae] at h
 ·cases h;simp
 ·have:=asr _ _ [] (Nat.le_refl _) v r h;have:=acd l;simp only [Ba] at *;omega
theorem ao5 {card key:Int}{ty:PV}{un:Bq}{H:Bool}{l r:List Tk}{v:PV} (h:ag9 parV aae card key ty un H l=.ok v r):(v.fld 8).asList.length<=l.length:=by
 obtain ⟨nm,r1,M,h⟩:=Rs.bind_inv h;obtain ⟨_,r2,O,h⟩:=Rs.bind_inv h;obtain ⟨n,z,U,h⟩:=Rs.bind_inv h;obtain ⟨d,r4,m,h⟩:=Rs.bind_inv h;obtain ⟨o,r5,V,h⟩:=Rs.bind_inv h;obtain ⟨_,r6,e6,h⟩:=Rs.bind_inv h;cases h;have h1:=aqk V;have Y:r4.length<=z.length:=by
  unfold ari at m;cases Z:(H&&isS 1 [100,101,102,97,117,108,116] z)<;>simp only [Z,Ad,Ae] at m
  ·cases m;exact Nat.le_refl _
  ·obtain ⟨w,q,W,X⟩:=Rs.bind_inv m;cases X;have:=bbl parV _ _ _ _ W;have:=acd z;omega
 rw [aza U,aff O,ao8 M] at Y;have:=acd l;have:=acd l.tail;have:=acd l.tail.tail;show o.length<=_;omega
theorem a33 {l r:List Tk}{v:PV} (h:afh parV aae l=.ok v r):(v.fld 8).asList.length<=l.length:=by
 have d:∀ q:List Tk,q.tail.length<=q.length:=acd;unfold afh at h;cases O:isS 1 [109,97,112] l<;>simp only [O,Ad,Ae] at h
 ·cases o:(aaw l==1&&!(af3 (abr l)==0))<;>simp only [o,Ad,Ae] at h
  ·cases h
  ·obtain ⟨U,q,m,h⟩:=Rs.bind_inv h;have:=ao5 h;rw [am7 m] at this;have:=d l;have:=d l.tail;omega
 ·obtain ⟨_,q,m,h⟩:=Rs.bind_inv h;cases o:(aaw q==1&&!(adz (abr q)==0))<;>simp only [o,Ad,Ae] at h
  ·cases h
  ·obtain ⟨_,V,z,h⟩:=Rs.bind_inv h;obtain ⟨U,W,H,h⟩:=Rs.bind_inv h;obtain ⟨_,X,M,h⟩:=Rs.bind_inv h;have:=ao5 h;rw [aff M,am7 H,aff z,aff m] at this;have:=d l;have:=d l.tail;have:=d l.tail.tail;have:=d l.tail.tail.tail;have:=d l.tail.tail.tail.tail;have:=d l.tail.tail.tail.tail.tail;omega
end
end Go.Ab
namespace Go.Ab
open Go
set_option maxRecDepth 100000
end Go.Ab
