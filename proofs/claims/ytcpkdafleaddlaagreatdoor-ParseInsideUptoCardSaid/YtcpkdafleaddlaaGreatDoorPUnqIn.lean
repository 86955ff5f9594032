/- Quoted texts are read alike: Unquote of the program and of the reference, on any text; hexadecimal digits. -/
import Derived.Test.YtcpkdafleaddlaaGreatDoorPScan3In
set_option linter.unusedVariables false
set_option linter.unusedSimpArgs false
set_option linter.unnecessarySimpa false
namespace Go.Ab
open Go
set_option maxRecDepth 100000
def digI (b:Nat):Int:=if 48<=b/\b<=57 then (b:Int)-48 else if 97<=b/\b<=102 then (b:Int)-87 else -1
theorem ayp:((List.range 256).all fun b=>(F305 0 (b:Int)==some (digI b))&&(F340 0 (b:Int)==some (digI b)))=true:=by kernel_rfl
theorem aeu (b:UInt8):F305 0 (b.toNat:Int)=some (digI b.toNat)/\F340 0 (b.toNat:Int)=some (digI b.toNat):=by
 have:=List.all_eq_true.1 ayp b.toNat (List.mem_range.2 b.toNat_lt)
 simpa using this
theorem a3k (b:UInt8):∃ v w,F304 0 (b.toNat:Int)=some (v,w):=by
 unfold F304
 cases ((b.toNat:Int)==34)<;>cases ((b.toNat:Int)==92)<;>cases ((b.toNat:Int)==110)<;>cases ((b.toNat:Int)==116)<;>cases ((b.toNat:Int)==114)<;>exact ⟨_,_,rfl⟩
theorem a6d {a x:List UInt8} (h:Codes a x):a.length<=x.length:=by
 induction h with
 | nil=>simp
 | @cons b c r q hb _ ih=>
  have:1<=c.length:=by
   rcases hb with ⟨rfl,_⟩ | ⟨_,rfl⟩ | ⟨_,rfl⟩ | ⟨_,rfl⟩ | ⟨_,rfl⟩ | ⟨_,rfl⟩ | rfl<;>simp
  simp only [List.length_cons,List.length_append];omega
theorem alu (a:List UInt8):a.length<=(aa6 a).length:=by
 have hc:=aet a a.length 0 (by omega)
 rw [List.drop_zero] at hc
 have:=a6d hc
 unfold aa6
 simp only [List.length_cons,List.length_append];omega
theorem a00 (src:List UInt8) (hl:src.length<=1048576) (i:Nat) (hi:i<src.length):∃ v n,F237 0 src (i:Int)=some (v,n)/\(n=0∨(n=2/\i+2<=src.length)∨(n=4/\i+4<=src.length)):=by
 have w1:IntKind.wrap .i64 ((i:Int)+1)=((i+1:Nat):Int):=ab2 (by omega)
 have w2:IntKind.wrap .i64 ((i:Int)+2)=((i+2:Nat):Int):=by rw [abf (by omega) (by omega)];omega
 have w3:IntKind.wrap .i64 ((i:Int)+3)=((i+3:Nat):Int):=by rw [abf (by omega) (by omega)];omega
 unfold F237
 simp only [w1,w2,w3]
 by_cases h1:i+1<src.length
 ·have d1:decide (((i+1:Nat):Int)≥(src.length:Int))=false:=decide_eq_false (by omega)
  have r1:aaa ((i+1:Nat):Int) src.length=true:=by rw [aab];exact decide_eq_true h1
  obtain ⟨v,w,hp⟩:=a3k (src.getD (i+1) 0)
  simp only [d1,r1,cond_false,cond_true,Int.toNat_natCast,hp,Option.bind_some]
  cases w with
  | true=>exact ⟨v,2,rfl,Or.inr (Or.inl ⟨rfl,by omega⟩)⟩
  | false=>
   simp only [cond_false]
   by_cases h3:i+3<src.length
   ·have d3:decide (((i+3:Nat):Int)≥(src.length:Int))=false:=decide_eq_false (by omega)
    have r2:aaa ((i+2:Nat):Int) src.length=true:=by rw [aab];exact decide_eq_true (by omega)
    have r3:aaa ((i+3:Nat):Int) src.length=true:=by rw [aab];exact decide_eq_true (by omega)
    simp only [d3,r2,r3,(aeu _).1,Option.bind_some,imp,aah,cond_true,Int.toNat_natCast]
    cases (((src.getD (i+1) 0).toNat:Int) != (120:Int)) with
    | true=>
     simp only [Bool.not_true,cond_true,cond_false,aah,Option.bind_some]
     exact ⟨0,0,rfl,Or.inl rfl⟩
    | false=>
     simp only [Bool.not_false,cond_true,cond_false,Option.bind_some]
     cases decide (digI (src.getD (i+2) 0).toNat<0) with
     | true=>
      simp only [Bool.not_true,cond_true,cond_false,Option.bind_some]
      exact ⟨0,0,rfl,Or.inl rfl⟩
     | false=>
      simp only [Bool.not_false,cond_true,cond_false,Option.bind_some]
      cases decide (digI (src.getD (i+3) 0).toNat<0) with
      | true=>exact ⟨0,0,rfl,Or.inl rfl⟩
      | false=>exact ⟨_,4,rfl,Or.inr (Or.inr ⟨rfl,by omega⟩)⟩
   ·have d3:decide (((i+3:Nat):Int)≥(src.length:Int))=true:=decide_eq_true (by omega)
    simp only [d3,aah,Bool.not_true,Bool.not_false,imp,cond_false,cond_true,Option.bind_some]
    exact ⟨0,0,rfl,Or.inl rfl⟩
 ·have d1:decide (((i+1:Nat):Int)≥(src.length:Int))=true:=decide_eq_true (by omega)
  simp only [d1,cond_true]
  exact ⟨0,0,rfl,Or.inl rfl⟩
theorem at1 (src:List UInt8) (hl:src.length<=1048576):∀ (m i:Nat) (acc:List PV),src.length-i<=m->i<=src.length->acc.length<=i->∃ z,abi (S131_6step 0) (src,acc,(i:Int))=some z/\(z=.inl ([],0,2)∨∃ (acc':List PV) (j:Nat),z=.inr (src,acc',(j:Int))/\j<=src.length/\acc'.length<=j):=by
 intro m
 induction m with
 | zero=>
  intro i acc hm hi ha
  have d:decide ((i:Int)<(src.length:Int))=false:=decide_eq_false (by omega)
  refine ⟨.inr (src,acc,(i:Int)),aac ?_,Or.inr ⟨acc,i,rfl,hi,ha⟩⟩
  simp only [S131_6step,S131_6,d,imp,cond_false,Bool.not_false,aah,cond_true]
 | succ m ih=>
  intro i acc hm hi ha
  by_cases hlt:i<src.length
  ·have d:decide ((i:Int)<(src.length:Int))=true:=decide_eq_true (by omega)
   have r:aaa (i:Int) src.length=true:=by rw [aab];exact decide_eq_true hlt
   have ea:∀ x:PV,decide (acc.length+[x].length<=aal)=true:=fun x=>decide_eq_true (by simp only [List.length_cons,List.length_nil];unfold aal;omega)
   cases hq:(((src.getD i 0).toNat:Int) != (34:Int)) with
   | false=>
    refine ⟨.inr (src,acc,(i:Int)),aac ?_,Or.inr ⟨acc,i,rfl,hi,ha⟩⟩
    simp only [S131_6step,S131_6,d,r,imp,cond_true,Int.toNat_natCast,hq,cond_false]
   | true=>
    cases hb:(((src.getD i 0).toNat:Int)==(92:Int)) with
    | false=>
     obtain ⟨z,h1,h2⟩:=ih (i+1) (acc++[PV.int ((src.getD i 0).toNat:Int)]) (by omega) (by omega) (by simp;omega)
     refine ⟨z,?_,h2⟩
     rw [<-h1]
     refine aax ?_
     simp only [S131_6step,S131_6,d,r,imp,cond_true,Int.toNat_natCast,hq,hb,cond_false,show ((1:Int)==0)=false from rfl,ea,ab2 (show i<=9223372036854775000 by omega)]
    | true=>
     obtain ⟨v,n,hu,hn⟩:=a00 src hl i hlt
     rcases hn with rfl | ⟨rfl,h2⟩ | ⟨rfl,h4⟩
     ·refine ⟨.inl ([],0,2),aac ?_,Or.inl rfl⟩
      simp only [S131_6step,S131_6,d,r,imp,cond_true,Int.toNat_natCast,hq,hb,hu,Option.bind_some,show ((0:Int)==0)=true from rfl]
     ·obtain ⟨z,h1,h3⟩:=ih (i+2) (acc++[PV.int v]) (by omega) (by omega) (by simp;omega)
      refine ⟨z,?_,h3⟩
      rw [<-h1]
      have w:IntKind.wrap .i64 ((i:Int)+2)=((i+2:Nat):Int):=by rw [abf (by omega) (by omega)];omega
      refine aax ?_
      simp only [S131_6step,S131_6,d,r,imp,cond_true,cond_false,Int.toNat_natCast,hq,hb,hu,Option.bind_some,show ((2:Int)==0)=false from rfl,ea,w]
     ·obtain ⟨z,h1,h3⟩:=ih (i+4) (acc++[PV.int v]) (by omega) (by omega) (by simp;omega)
      refine ⟨z,?_,h3⟩
      rw [<-h1]
      have w:IntKind.wrap .i64 ((i:Int)+4)=((i+4:Nat):Int):=by rw [abf (by omega) (by omega)];omega
      refine aax ?_
      simp only [S131_6step,S131_6,d,r,imp,cond_true,cond_false,Int.toNat_natCast,hq,hb,hu,Option.bind_some,show ((4:Int)==0)=false from rfl,ea,w]
  ·have d:decide ((i:Int)<(src.length:Int))=false:=decide_eq_false (by omega)
   refine ⟨.inr (src,acc,(i:Int)),aac ?_,Or.inr ⟨acc,i,rfl,hi,ha⟩⟩
   simp only [S131_6step,S131_6,d,imp,cond_false,Bool.not_false,aah,cond_true]
def aon (s:List UInt8):Prop:=∃ a q,s=aa6 a++q
theorem azb (a:List UInt8):∃ r,aa6 a=34::r:=⟨_,rfl⟩
theorem an1 (src:List UInt8) (hl:src.length<=1048576):(∃ a q,src=aa6 a++q/\F131 0 src=some (a,(((aa6 a).length:Nat):Int),0))∨(¬aon src/\F131 0 src=some ([],0,2)):=by
 by_cases h:aon src
 ·obtain ⟨a,q,rfl⟩:=h
  have hg:=alu a
  rw [List.length_append] at hl
  exact Or.inl ⟨a,q,rfl,aou (by omega) q (by rw [List.length_append];exact hl)⟩
 ·refine Or.inr ⟨h,?_⟩
  cases src with
  | nil=>rfl
  | cons c r=>
   have e0:((c::r)==([]:List UInt8))=false:=rfl
   unfold F131
   simp only [e0,in0,imp,Bool.not_false,cond_true,cond_false]
   cases hq:((((c::r).getD (0:Int).toNat 0).toNat:Int) != (34:Int)) with
   | true=>rfl
   | false=>
    simp only [cond_false,aaq]
    obtain ⟨z,h1,h2⟩:=at1 (c::r) hl (c::r).length 1 [] (by omega) (by simp) (by simp)
    rw [show (1:Int)=((1:Nat):Int) from rfl,h1,Option.bind_some]
    rcases h2 with rfl | ⟨acc',j,rfl,hj,ha⟩
    ·rfl
    ·simp only [aa3]
     by_cases hjl:j<(c::r).length
     ·have d:decide ((j:Int)≥((c::r).length:Int))=false:=decide_eq_false (by omega)
      have w:IntKind.wrap .i64 ((j:Int)+((1:Nat):Int))=((j+1:Nat):Int):=ab2 (by omega)
      have e5:decide (0<=(0:Int)/\(0:Int)<=((j+1:Nat):Int)/\((j+1:Nat):Int)<=((c::r).length:Int))=true:=decide_eq_true (by omega)
      have hql:=aqu (acc'.map aan) (by rw [List.length_map];omega)
      simp only [d,Bool.not_false,cond_true,cond_false,hql,Option.bind_some,w,e5,imp,Int.toNat_natCast]
      cases hx:(aa6 (acc'.map aan)==((c::r).take (j+1)).drop (0:Int).toNat) with
      | false=>rfl
      | true=>
       have e:=eq_of_beq hx
       have e:aa6 (acc'.map aan)=(c::r).take (j+1):=e
       exact absurd ⟨acc'.map aan,(c::r).drop (j+1),by rw [e,List.take_append_drop]⟩ h
     ·have d:decide ((j:Int)≥((c::r).length:Int))=true:=decide_eq_true (by omega)
      simp only [d,Bool.not_true,Bool.not_false,imp,cond_true,cond_false,aah,Option.bind_some]
theorem a6f (src:List UInt8) (hl:src.length<=1048576) (i:Nat) (hi:i<src.length):∃ v n,F292 0 src (i:Int)=some (v,n)/\(n=0∨(n=2/\i+2<=src.length)∨(n=4/\i+4<=src.length)):=by
 have w1:IntKind.wrap .i64 ((i:Int)+1)=((i+1:Nat):Int):=ab2 (by omega)
 have w2:IntKind.wrap .i64 ((i:Int)+2)=((i+2:Nat):Int):=by rw [abf (by omega) (by omega)];omega
 have w3:IntKind.wrap .i64 ((i:Int)+3)=((i+3:Nat):Int):=by rw [abf (by omega) (by omega)];omega
 unfold F292
 simp only [w1,w2,w3]
 by_cases h1:i+1<src.length
 ·have d1:decide (((i+1:Nat):Int)≥(src.length:Int))=false:=decide_eq_false (by omega)
  have r1:aaa ((i+1:Nat):Int) src.length=true:=by rw [aab];exact decide_eq_true h1
  simp only [d1,r1,cond_false,cond_true,Int.toNat_natCast]
  cases (((src.getD (i+1) 0).toNat:Int)==(34:Int)) with
  | true=>exact ⟨_,2,rfl,Or.inr (Or.inl ⟨rfl,by omega⟩)⟩
  | false=>
  cases (((src.getD (i+1) 0).toNat:Int)==(92:Int)) with
  | true=>exact ⟨_,2,rfl,Or.inr (Or.inl ⟨rfl,by omega⟩)⟩
  | false=>
  cases (((src.getD (i+1) 0).toNat:Int)==(110:Int)) with
  | true=>exact ⟨_,2,rfl,Or.inr (Or.inl ⟨rfl,by omega⟩)⟩
  | false=>
  cases (((src.getD (i+1) 0).toNat:Int)==(116:Int)) with
  | true=>exact ⟨_,2,rfl,Or.inr (Or.inl ⟨rfl,by omega⟩)⟩
  | false=>
  cases (((src.getD (i+1) 0).toNat:Int)==(114:Int)) with
  | true=>exact ⟨_,2,rfl,Or.inr (Or.inl ⟨rfl,by omega⟩)⟩
  | false=>
   simp only [cond_false]
   by_cases h3:i+3<src.length
   ·have d3:decide (((i+3:Nat):Int)≥(src.length:Int))=false:=decide_eq_false (by omega)
    have r2:aaa ((i+2:Nat):Int) src.length=true:=by rw [aab];exact decide_eq_true (by omega)
    have r3:aaa ((i+3:Nat):Int) src.length=true:=by rw [aab];exact decide_eq_true (by omega)
    simp only [d3,r2,r3,(aeu _).2,Option.bind_some,imp,aah,cond_true,Int.toNat_natCast]
    cases (((src.getD (i+1) 0).toNat:Int) != (120:Int)) with
    | true=>
     simp only [Bool.not_true,cond_true,cond_false,aah,Option.bind_some]
     exact ⟨0,0,rfl,Or.inl rfl⟩
    | false=>
     simp only [Bool.not_false,cond_true,cond_false,Option.bind_some]
     cases decide (digI (src.getD (i+2) 0).toNat<0) with
     | true=>
      simp only [Bool.not_true,cond_true,cond_false,Option.bind_some]
      exact ⟨0,0,rfl,Or.inl rfl⟩
     | false=>
      simp only [Bool.not_false,cond_true,cond_false,Option.bind_some]
      cases decide (digI (src.getD (i+3) 0).toNat<0) with
      | true=>exact ⟨0,0,rfl,Or.inl rfl⟩
      | false=>exact ⟨_,4,rfl,Or.inr (Or.inr ⟨rfl,by omega⟩)⟩
   ·have d3:decide (((i+3:Nat):Int)≥(src.length:Int))=true:=decide_eq_true (by omega)
    simp only [d3,aah,Bool.not_true,Bool.not_false,imp,cond_false,cond_true,Option.bind_some]
    exact ⟨0,0,rfl,Or.inl rfl⟩
 ·have d1:decide (((i+1:Nat):Int)≥(src.length:Int))=true:=decide_eq_true (by omega)
  simp only [d1,cond_true]
  exact ⟨0,0,rfl,Or.inl rfl⟩
def RqEnd (src:List UInt8) (z:(List UInt8×Int×Int)⊕Unit):Prop:=z=.inl ([],0,2)∨z=.inr ()∨∃ t q,src=aa6 t++q/\z=.inl (t,(((aa6 t).length:Nat):Int),0)
theorem axt (src:List UInt8) (hl:src.length<=1048576):∀ (m i:Nat) (acc:List UInt8),src.length-i<=m->i<=src.length->acc.length<=i->∃ z,abi (S215_6step 0) (src,acc,(i:Int))=some z/\RqEnd src z:=by
 intro m
 induction m with
 | zero=>
  intro i acc hm hi ha
  have d:decide ((i:Int)<(src.length:Int))=false:=decide_eq_false (by omega)
  refine ⟨.inr (),aac ?_,Or.inr (Or.inl rfl)⟩
  simp only [S215_6step,S215_6,d,cond_false]
 | succ m ih=>
  intro i acc hm hi ha
  by_cases hlt:i<src.length
  ·have d:decide ((i:Int)<(src.length:Int))=true:=decide_eq_true (by omega)
   have r:aaa (i:Int) src.length=true:=by rw [aab];exact decide_eq_true hlt
   have w1:IntKind.wrap .i64 ((i:Int)+1)=((i+1:Nat):Int):=ab2 (by omega)
   cases hq:(((src.getD i 0).toNat:Int)==(34:Int)) with
   | true=>
    have e5:decide (0<=(0:Int)/\(0:Int)<=((i+1:Nat):Int)/\((i+1:Nat):Int)<=(src.length:Int))=true:=decide_eq_true (by omega)
    have hql:=amg acc (by omega)
    cases hx:(aa6 acc==(src.take (i+1)).drop (0:Int).toNat) with
    | true=>
     have e:aa6 acc=src.take (i+1):=eq_of_beq hx
     have hlen:(aa6 acc).length=i+1:=by rw [e,List.length_take];omega
     refine ⟨.inl (acc,((i+1:Nat):Int),0),aac ?_,Or.inr (Or.inr ⟨acc,src.drop (i+1),by rw [e,List.take_append_drop],by rw [hlen]⟩)⟩
     simp only [S215_6step,S215_6,d,r,cond_true,Int.toNat_natCast,hq,hql,Option.bind_some,w1,e5,hx,Bool.not_true,cond_false]
    | false=>
     refine ⟨.inl ([],0,2),aac ?_,Or.inl rfl⟩
     simp only [S215_6step,S215_6,d,r,cond_true,Int.toNat_natCast,hq,hql,Option.bind_some,w1,e5,hx,Bool.not_false]
   | false=>
    cases hb:(((src.getD i 0).toNat:Int) != (92:Int)) with
    | true=>
     have e6:decide (0<=(i:Int)/\(i:Int)<=((i+1:Nat):Int)/\((i+1:Nat):Int)<=(src.length:Int))=true:=decide_eq_true (by omega)
     have hlen:((src.take (i+1)).drop i).length=1:=by simp;omega
     have e7:decide (acc.length+((src.take (i+1)).drop i).length<=aa2)=true:=agu (by omega)
     obtain ⟨z,h1,h2⟩:=ih (i+1) (acc++(src.take (i+1)).drop i) (by omega) (by omega) (by rw [List.length_append];omega)
     refine ⟨z,?_,h2⟩
     rw [<-h1]
     refine aax ?_
     simp only [S215_6step,S215_6,d,r,cond_true,Int.toNat_natCast,hq,hb,cond_false,w1,e6,e7]
    | false=>
     obtain ⟨v,n,hu,hn⟩:=a6f src hl i hlt
     have e8:decide (acc.length+([(PV.int v)].map aan).length<=aa2)=true:=agu (by simp;omega)
     rcases hn with rfl | ⟨rfl,h2⟩ | ⟨rfl,h4⟩
     ·refine ⟨.inl ([],0,2),aac ?_,Or.inl rfl⟩
      simp only [S215_6step,S215_6,d,r,cond_true,cond_false,Int.toNat_natCast,hq,hb,hu,Option.bind_some,show ((0:Int)==0)=true from rfl]
     ·obtain ⟨z,h1,h3⟩:=ih (i+2) (acc++[(PV.int v)].map aan) (by omega) (by omega) (by simp;omega)
      refine ⟨z,?_,h3⟩
      rw [<-h1]
      have w:IntKind.wrap .i64 ((i:Int)+2)=((i+2:Nat):Int):=by rw [abf (by omega) (by omega)];omega
      refine aax ?_
      simp only [S215_6step,S215_6,d,r,cond_true,cond_false,Int.toNat_natCast,hq,hb,hu,Option.bind_some,show ((2:Int)==0)=false from rfl,e8,w]
     ·obtain ⟨z,h1,h3⟩:=ih (i+4) (acc++[(PV.int v)].map aan) (by omega) (by omega) (by simp;omega)
      refine ⟨z,?_,h3⟩
      rw [<-h1]
      have w:IntKind.wrap .i64 ((i:Int)+4)=((i+4:Nat):Int):=by rw [abf (by omega) (by omega)];omega
      refine aax ?_
      simp only [S215_6step,S215_6,d,r,cond_true,cond_false,Int.toNat_natCast,hq,hb,hu,Option.bind_some,show ((4:Int)==0)=false from rfl,e8,w]
  ·have d:decide ((i:Int)<(src.length:Int))=false:=decide_eq_false (by omega)
   refine ⟨.inr (),aac ?_,Or.inr (Or.inl rfl)⟩
   simp only [S215_6step,S215_6,d,cond_false]
theorem afu {src:List UInt8}{i:Nat}{e:UInt8}{q:List UInt8} (hl:src.length<=1048576) (h:src.drop i=92::e::q) {v:Int} (hv:(e=34/\v=34)∨(e=92/\v=92)∨(e=110/\v=10)∨(e=116/\v=9)∨(e=114/\v=13)):F292 0 src (i:Int)=some (v,2):=by
 obtain ⟨h1,_,h2⟩:=ab6 0 h
 obtain ⟨h3,h4,_⟩:=ab6 0 h2
 have w1:IntKind.wrap .i64 ((i:Int)+1)=((i+1:Nat):Int):=ab2 (by omega)
 have d1:decide (((i+1:Nat):Int)≥(src.length:Int))=false:=decide_eq_false (by omega)
 have d2:aaa ((i+1:Nat):Int) src.length=true:=by rw [aab];exact decide_eq_true h3
 unfold F292
 simp only [w1,d1,d2,cond_true,cond_false,Int.toNat_natCast,h4]
 rcases hv with ⟨rfl,rfl⟩ | ⟨rfl,rfl⟩ | ⟨rfl,rfl⟩ | ⟨rfl,rfl⟩ | ⟨rfl,rfl⟩<;>rfl
theorem a0p:((List.range 16).all fun h=>digI (hexd h).toNat==(h:Int))=true:=by kernel_rfl
theorem aq0 {h:Nat} (hh:h<16):digI (hexd h).toNat=(h:Int):=by
 have:=List.all_eq_true.1 a0p h (List.mem_range.2 hh)
 simpa using this
theorem baz {src:List UInt8}{i:Nat}{b:UInt8}{q:List UInt8} (hl:src.length<=1048576) (h:src.drop i=92::120::(hex2 b.toNat++q)):F292 0 src (i:Int)=some ((b.toNat:Int),4):=by
 have h:src.drop i=92::120::hexd (b.toNat / 16)::hexd (b.toNat%16)::q:=h
 have hb:=b.toNat_lt
 obtain ⟨h1,_,h2⟩:=ab6 0 h
 obtain ⟨h3,h4,h5⟩:=ab6 0 h2
 obtain ⟨h6,h7,h8⟩:=ab6 0 h5
 obtain ⟨h9,h10,_⟩:=ab6 0 h8
 have w1:IntKind.wrap .i64 ((i:Int)+1)=((i+1:Nat):Int):=ab2 (by omega)
 have w2:IntKind.wrap .i64 ((i:Int)+2)=((i+1+1:Nat):Int):=by rw [abf (by omega) (by omega)];omega
 have w3:IntKind.wrap .i64 ((i:Int)+3)=((i+1+1+1:Nat):Int):=by rw [abf (by omega) (by omega)];omega
 have d1:decide (((i+1:Nat):Int)≥(src.length:Int))=false:=decide_eq_false (by omega)
 have d3:decide (((i+1+1+1:Nat):Int)≥(src.length:Int))=false:=decide_eq_false (by omega)
 have r1:aaa ((i+1:Nat):Int) src.length=true:=by rw [aab];exact decide_eq_true h3
 have r2:aaa ((i+1+1:Nat):Int) src.length=true:=by rw [aab];exact decide_eq_true h6
 have r3:aaa ((i+1+1+1:Nat):Int) src.length=true:=by rw [aab];exact decide_eq_true h9
 have v1:=aq0 (h:=b.toNat / 16) (by omega)
 have v2:=aq0 (h:=b.toNat%16) (by omega)
 have n1:decide (((b.toNat / 16:Nat):Int)<0)=false:=decide_eq_false (by omega)
 have n2:decide (((b.toNat%16:Nat):Int)<0)=false:=decide_eq_false (by omega)
 have wv:IntKind.wrap .u8 (IntKind.wrap .i64 ((IntKind.wrap .i64 ((16:Int)*((b.toNat / 16:Nat):Int)))+((b.toNat%16:Nat):Int)))=(b.toNat:Int):=by
  have h16:IntKind.wrap .i64 ((16:Int)*((b.toNat / 16:Nat):Int))=(16:Int)*((b.toNat / 16:Nat):Int):=abf (by omega) (by omega)
  have h17:IntKind.wrap .i64 ((16:Int)*((b.toNat / 16:Nat):Int)+((b.toNat%16:Nat):Int))=(16:Int)*((b.toNat / 16:Nat):Int)+((b.toNat%16:Nat):Int):=abf (by omega) (by omega)
  rw [h16,h17,IntKind.wrap_u8];omega
 have e120:(((120:UInt8).toNat:Nat):Int)=120:=rfl
 unfold F292
 simp only [w1,w2,w3,d1,d3,r1,r2,r3,cond_true,cond_false,Int.toNat_natCast,h4,h7,h10,e120,show ((120:Int)==34)=false from rfl,show ((120:Int)==92)=false from rfl,show ((120:Int)==110)=false from rfl,show ((120:Int)==116)=false from rfl,show ((120:Int)==114)=false from rfl,show ((120:Int) != 120)=false from rfl,(aeu _).2,v1,v2,n1,n2,imp,Bool.not_false,Bool.true_or,aah,Option.bind_some,wv]
theorem a8j {src:List UInt8} (hl:src.length<=1048576) {i:Nat}{acc:List UInt8} (ha:acc.length<=i) {b:UInt8}{c q:List UInt8} (hc:al7 b c) (h:src.drop i=c++q):S215_6step 0 (src,acc,(i:Int))=some (.inl (src,acc++[b],((i+c.length:Nat):Int))):=by
 have ne:c≠[]:=by
  rcases hc with ⟨rfl,_⟩ | ⟨_,rfl⟩ | ⟨_,rfl⟩ | ⟨_,rfl⟩ | ⟨_,rfl⟩ | ⟨_,rfl⟩ | rfl<;>simp
 have hi:i<src.length:=by
  have:=congrArg List.length h
  rw [List.length_drop,List.length_append] at this
  have:0<c.length:=List.length_pos_iff.2 ne
  omega
 have e1:decide ((i:Int)<(src.length:Int))=true:=decide_eq_true (by omega)
 have e2:aaa (i:Int) src.length=true:=by rw [aab];exact decide_eq_true hi
 have bk:∀ x:UInt8,[(PV.int (x.toNat:Int))].map aan=[x]:=fun x=>by rw [List.map_cons,List.map_nil,ahe]
 have e8:∀ v:Int,decide (acc.length+([(PV.int v)].map aan).length<=aa2)=true:=fun v=>agu (by simp;omega)
 have esc:∀ (e:UInt8) (r:List UInt8) (v:UInt8),src.drop i=92::e::r->F292 0 src (i:Int)=some ((v.toNat:Int),2)->S215_6step 0 (src,acc,(i:Int))=some (.inl (src,acc++[v],((i+2:Nat):Int))):=fun e r v hd hv=>by
  obtain ⟨_,h4,_⟩:=ab6 0 hd
  have w:IntKind.wrap .i64 ((i:Int)+2)=((i+2:Nat):Int):=by rw [abf (by omega) (by omega)];omega
  simp only [S215_6step,S215_6,e1,e2,e8,h4,hv,w,cond_true,cond_false,Option.bind_some,Int.toNat_natCast,show ((((92:UInt8).toNat:Nat):Int)==(34:Int))=false from rfl,show ((((92:UInt8).toNat:Nat):Int) != (92:Int))=false from rfl,show ((2:Int)==0)=false from rfl,bk]
 rcases hc with ⟨rfl,b1,b2⟩ | ⟨rfl,rfl⟩ | ⟨rfl,rfl⟩ | ⟨rfl,rfl⟩ | ⟨rfl,rfl⟩ | ⟨rfl,rfl⟩ | rfl
 ·obtain ⟨_,h4,h5⟩:=ab6 0 (show src.drop i=b::q from h)
  have w:IntKind.wrap .i64 ((i:Int)+1)=((i+1:Nat):Int):=ab2 (by omega)
  have g1:((b.toNat:Int)==(34:Int))=false:=by rw [bqI (c:=b) (k:=34) (n:=34) rfl,beq_eq_false_iff_ne];exact b1
  have g2:((b.toNat:Int) != (92:Int))=true:=by
   show (!((b.toNat:Int)==(92:Int)))=true
   rw [bqI (c:=b) (k:=92) (n:=92) rfl,beq_eq_false_iff_ne.2 b2];rfl
  have e6:decide (0<=(i:Int)/\(i:Int)<=((i+1:Nat):Int)/\((i+1:Nat):Int)<=(src.length:Int))=true:=decide_eq_true (by omega)
  have hone:(src.take (i+1)).drop i=[b]:=by
   have:src.drop i=b::q:=h
   rw [List.drop_take,this];simp
  have e7:decide (acc.length+[b].length<=aa2)=true:=agu (by simp;omega)
  simp only [S215_6step,S215_6,e1,e2,h4,w,g1,g2,e6,e7,hone,cond_true,cond_false,Int.toNat_natCast]
  rfl
 ·exact esc _ _ 34 h (afu hl h (Or.inl ⟨rfl,rfl⟩))
 ·exact esc _ _ 92 h (afu hl h (Or.inr (Or.inl ⟨rfl,rfl⟩)))
 ·exact esc _ _ 10 h (afu hl h (Or.inr (Or.inr (Or.inl ⟨rfl,rfl⟩))))
 ·exact esc _ _ 9 h (afu hl h (Or.inr (Or.inr (Or.inr (Or.inl ⟨rfl,rfl⟩)))))
 ·exact esc _ _ 13 h (afu hl h (Or.inr (Or.inr (Or.inr (Or.inr ⟨rfl,rfl⟩)))))
 ·have hv:=baz (b:=b) (q:=q) hl h
  obtain ⟨_,h4,_⟩:=ab6 0 (show src.drop i=92::(120::(hex2 b.toNat++q)) from h)
  have w:IntKind.wrap .i64 ((i:Int)+4)=((i+4:Nat):Int):=by rw [abf (by omega) (by omega)];omega
  simp only [S215_6step,S215_6,e1,e2,e8,h4,hv,w,cond_true,cond_false,Option.bind_some,Int.toNat_natCast,show ((((92:UInt8).toNat:Nat):Int)==(34:Int))=false from rfl,show ((((92:UInt8).toNat:Nat):Int) != (92:Int))=false from rfl,show ((4:Int)==0)=false from rfl,bk]
  rfl
theorem a9l {src:List UInt8} (hl:src.length<=1048576) {a x:List UInt8} (hc:Codes a x):∀ (i:Nat) (acc:List UInt8) (s:List UInt8),src.drop i=x++34::s->acc.length<=i->aa6 (acc++a)=src.take (i+x.length+1)->abi (S215_6step 0) (src,acc,(i:Int))=some (.inl (acc++a,((i+x.length+1:Nat):Int),0)):=by
 induction hc with
 | nil=>
  intro i acc s h ha hq
  rw [List.append_nil] at hq ⊢
  obtain ⟨hi,h4,_⟩:=ab6 0 (show src.drop i=34::s from h)
  have e1:decide ((i:Int)<(src.length:Int))=true:=decide_eq_true (by omega)
  have e2:aaa (i:Int) src.length=true:=by rw [aab];exact decide_eq_true hi
  have w1:IntKind.wrap .i64 ((i:Int)+1)=((i+1:Nat):Int):=ab2 (by omega)
  have e5:decide (0<=(0:Int)/\(0:Int)<=((i+1:Nat):Int)/\((i+1:Nat):Int)<=(src.length:Int))=true:=decide_eq_true (by omega)
  have hql:=amg acc (by omega)
  have hx:(aa6 acc==(src.take (i+1)).drop (0:Int).toNat)=true:=by
   have:aa6 acc=src.take (i+1):=hq
   rw [this];exact beq_self_eq_true _
  refine aac ?_
  simp only [S215_6step,S215_6,e1,e2,cond_true,Int.toNat_natCast,h4,show ((((34:UInt8).toNat:Nat):Int)==(34:Int))=true from rfl,hql,Option.bind_some,w1,e5,hx,Bool.not_true,cond_false]
  rfl
 | @cons b c r q hb hr ih=>
  intro i acc s h ha hq
  rw [List.append_assoc] at h
  have st:=a8j hl ha hb h
  have hn:src.drop (i+c.length)=q++34::s:=by
   rw [<-List.drop_drop,h,List.drop_left]
  have hp:0<c.length:=by
   rcases hb with ⟨rfl,_⟩ | ⟨_,rfl⟩ | ⟨_,rfl⟩ | ⟨_,rfl⟩ | ⟨_,rfl⟩ | ⟨_,rfl⟩ | rfl<;>simp
  have hlen:i+(c++q).length+1=i+c.length+q.length+1:=by rw [List.length_append];omega
  rw [aax st,ih (i+c.length) (acc++[b]) s hn (by simp;omega) (by rw [List.append_assoc,List.singleton_append,hq,hlen]),List.append_assoc,List.singleton_append,hlen]
theorem a71 (src:List UInt8) (hl:src.length<=1048576):(∃ a q,src=aa6 a++q/\F215 0 src=some (a,(((aa6 a).length:Nat):Int),0))∨(¬aon src/\F215 0 src=some ([],0,2)):=by
 by_cases h:aon src
 ·obtain ⟨a,q,rfl⟩:=h
  refine Or.inl ⟨a,q,rfl,?_⟩
  have hq:aa6 a=34::(aar a 0++[34]):=by unfold aa6;rfl
  have hlen:(aa6 a).length=(aar a 0).length+2:=by rw [hq];simp
  have hc:=aet a a.length 0 (by omega)
  rw [List.drop_zero] at hc
  have hd:(aa6 a++q).drop 1=aar a 0++34::q:=by rw [hq];simp
  have lp:=a9l hl hc 1 [] q hd (by simp) (by rw [List.nil_append,show 1+(aar a 0).length+1=(aa6 a).length by omega,List.take_left])
  rw [List.nil_append,show 1+(aar a 0).length+1=(aa6 a).length by omega] at lp
  have e0:(((aa6 a++q).length:Int)==(0:Int))=false:=by rw [beq_eq_false_iff_ne,List.length_append];omega
  have e1:aaa (0:Int) (aa6 a++q).length=true:=by rw [hq,List.cons_append,in0]
  have e2:((((aa6 a++q).getD (0:Int).toNat 0).toNat:Int) != (34:Int))=false:=by rw [hq];rfl
  unfold F215
  simp only [e0,e1,e2,imp,Bool.not_false,cond_true,cond_false,aaq]
  rw [show (1:Int)=((1:Nat):Int) from rfl,lp];rfl
 ·refine Or.inr ⟨h,?_⟩
  cases src with
  | nil=>rfl
  | cons c r=>
   have e0:(((c::r).length:Int)==(0:Int))=false:=by rw [beq_eq_false_iff_ne];simp only [List.length_cons];omega
   unfold F215
   simp only [e0,in0,imp,Bool.not_false,cond_true,cond_false]
   cases hq:((((c::r).getD (0:Int).toNat 0).toNat:Int) != (34:Int)) with
   | true=>rfl
   | false=>
    simp only [cond_false,aaq]
    obtain ⟨z,h1,h2⟩:=axt (c::r) hl (c::r).length 1 [] (by omega) (by simp) (by simp)
    rw [show (1:Int)=((1:Nat):Int) from rfl,h1,Option.bind_some]
    rcases h2 with rfl | rfl | ⟨t,q,e,rfl⟩
    ·rfl
    ·rfl
    ·exact absurd ⟨t,q,e⟩ h
theorem ay2 {a b q r:List UInt8} (h:aa6 a++q=aa6 b++r):a=b:=(a2x h).1
theorem a5z (src:List UInt8) (hl:src.length<=1048576):F215 0 src=F131 0 src:=by
 rcases an1 src hl with ⟨a,q,h1,h2⟩ | ⟨h1,h2⟩
 ·rcases a71 src hl with ⟨b,r,h3,h4⟩ | ⟨h3,h4⟩
  ·have:=ay2 (h1.symm.trans h3)
   subst this
   rw [h2,h4]
  ·exact absurd ⟨a,q,h1⟩ h3
 ·rcases a71 src hl with ⟨b,r,h3,h4⟩ | ⟨h3,h4⟩
  ·exact absurd ⟨b,r,h3⟩ h1
  ·rw [h2,h4]
end Go.Ab
namespace Go.Ab
open Go
set_option maxRecDepth 100000
def uh:List UInt8->Option (List UInt8)
 | []=>some []
 | [_]=>none
 | a::b::r=>if digI a.toNat<0∨digI b.toNat<0 then none else (uh r).map (UInt8.ofNat (16*(digI a.toNat).toNat+(digI b.toNat).toNat)::·)
theorem apo (a b:UInt8) (r:List UInt8):uh (a::b::r)=if digI a.toNat<0∨digI b.toNat<0 then none else (uh r).map (UInt8.ofNat (16*(digI a.toNat).toNat+(digI b.toNat).toNat)::·):=by rw [uh]
theorem ah3 (b:Nat):digI b<16:=by
 unfold digI
 split
 ·omega
 ·split<;>omega
def adq (s:List UInt8):List UInt8×Int:=match (if s.length%2=0 then uh s else none) with | some l=>(l,0) | none=>([],2)
theorem ba4 {h l:Nat} (hh:h<16) (hl:l<16):(UInt8.ofNat (16*h+l)).toNat=16*h+l:=by
 rw [UInt8.toNat_ofNat'];omega
theorem aqm (s:List UInt8) (hl:s.length<=1048576):∀ (m i:Nat) (acc:List UInt8),s.length-i<=2*m->i<=s.length->(s.length-i)%2=0->acc.length<=i->
 abi (S364_6step 0) (s,acc,(i:Int))=some (match uh (s.drop i) with | some l=>.inr (acc++l) | none=>.inl ([],2)):=by
 intro m
 induction m with
 | zero=>
  intro i acc hm hi he ha
  have d:decide ((i:Int)<(s.length:Int))=false:=decide_eq_false (by omega)
  rw [List.drop_eq_nil_of_le (by omega)]
  refine (aac (y:=.inr acc) ?_).trans (by simp [uh])
  simp only [S364_6step,S364_6,d,cond_false]
 | succ m ih=>
  intro i acc hm hi he ha
  by_cases hlt:i<s.length
  ·have hlt2:i+1<s.length:=by omega
   have d:decide ((i:Int)<(s.length:Int))=true:=decide_eq_true (by omega)
   have r0:aaa (i:Int) s.length=true:=by rw [aab];exact decide_eq_true hlt
   have r1:aaa ((i+1:Nat):Int) s.length=true:=by rw [aab];exact decide_eq_true hlt2
   have w1:IntKind.wrap .i64 ((i:Int)+1)=((i+1:Nat):Int):=ab2 (by omega)
   have w2:IntKind.wrap .i64 ((i:Int)+2)=((i+2:Nat):Int):=by rw [abf (by omega) (by omega)];omega
   have e8:∀ v:Int,decide (acc.length+([(PV.int v)].map aan).length<=aa2)=true:=fun v=>agu (by simp;omega)
   rw [aau hlt 0,aau hlt2 0,apo]
   have gh:=ah3 (s.getD i 0).toNat
   have gl:=ah3 (s.getD (i+1) 0).toNat
   by_cases hn:digI (s.getD i 0).toNat<0∨digI (s.getD (i+1) 0).toNat<0
   ·rw [if_pos hn]
    refine aac ?_
    simp only [S364_6step,S364_6,d,r0,r1,w1,cond_true,Int.toNat_natCast,(aeu _).2,Option.bind_some,imp,aah]
    rcases hn with hn | hn
    ·rw [decide_eq_true hn];simp
    ·by_cases h0:digI (s.getD i 0).toNat<0
     ·rw [decide_eq_true h0];simp
     ·rw [decide_eq_false h0]
      simp only [Bool.not_false,cond_true,Option.bind_some,cond_false]
      rw [decide_eq_true hn];rfl
   ·rw [if_neg hn]
    have n0:decide (digI (s.getD i 0).toNat<0)=false:=decide_eq_false (by omega)
    have n1:decide (digI (s.getD (i+1) 0).toNat<0)=false:=decide_eq_false (by omega)
    have hv:[(PV.int (IntKind.wrap .u8 (IntKind.wrap .i64 ((IntKind.wrap .i64 ((16:Int)*digI (s.getD i 0).toNat))+digI (s.getD (i+1) 0).toNat))))].map aan=[UInt8.ofNat (16*(digI (s.getD i 0).toNat).toNat+(digI (s.getD (i+1) 0).toNat).toNat)]:=by
     have h16:IntKind.wrap .i64 ((16:Int)*digI (s.getD i 0).toNat)=(16:Int)*digI (s.getD i 0).toNat:=abf (by omega) (by omega)
     have h17:IntKind.wrap .i64 ((16:Int)*digI (s.getD i 0).toNat+digI (s.getD (i+1) 0).toNat)=(16:Int)*digI (s.getD i 0).toNat+digI (s.getD (i+1) 0).toNat:=abf (by omega) (by omega)
     have h18:IntKind.wrap .u8 ((16:Int)*digI (s.getD i 0).toNat+digI (s.getD (i+1) 0).toNat)=((16*(digI (s.getD i 0).toNat).toNat+(digI (s.getD (i+1) 0).toNat).toNat:Nat):Int):=by rw [IntKind.wrap_u8];omega
     rw [h16,h17,h18];rfl
    rw [aax (x1:=(s,acc++[UInt8.ofNat (16*(digI (s.getD i 0).toNat).toNat+(digI (s.getD (i+1) 0).toNat).toNat)],((i+2:Nat):Int)))]
    ·rw [ih (i+2) _ (by omega) (by omega) (by omega) (by simp;omega)]
     cases uh (s.drop (i+1+1)) with
     | none=>rfl
     | some l=>simp
    ·simp only [S364_6step,S364_6,d,r0,r1,w1,w2,cond_true,cond_false,Int.toNat_natCast,(aeu _).2,Option.bind_some,imp,n0,n1,Bool.not_false,e8,hv]
  ·have d:decide ((i:Int)<(s.length:Int))=false:=decide_eq_false (by omega)
   rw [List.drop_eq_nil_of_le (by omega)]
   refine (aac (y:=.inr acc) ?_).trans (by simp [uh])
   simp only [S364_6step,S364_6,d,cond_false]
theorem mod2 (n:Nat):((((n:Nat):Int).tmod (2:Int)) != (0:Int))=!decide (n%2=0):=by
 rw [show ((n:Nat):Int).tmod (2:Int)=((n%2:Nat):Int) from rfl]
 have:=Nat.mod_two_eq_zero_or_one n
 rcases this with h | h<;>rw [h]<;>rfl
theorem aiw (s:List UInt8) (hl:s.length<=1048576):F364 0 s=some (adq s):=by
 unfold F364 adq
 rw [mod2]
 by_cases he:s.length%2=0
 ·rw [decide_eq_true he,if_pos he,Bool.not_true,cond_false,aaq,show (0:Int)=((0:Nat):Int) from rfl,aqm s hl s.length 0 [] (by omega) (by omega) (by omega) (by simp),List.drop_zero]
  cases uh s<;>simp [sumE]
 ·rw [decide_eq_false he,if_neg he];rfl
theorem ayf (s:List UInt8) (hl:s.length<=1048576):∀ (m i:Nat) (acc:List UInt8),s.length-i<=2*m->i<=s.length->(s.length-i)%2=0->acc.length<=i->
 abi (S356_6step 0) (s,acc.map (fun c=>PV.int (c.toNat:Int)),(i:Int))=some (match uh (s.drop i) with | some l=>.inr ((acc++l).map (fun c=>PV.int (c.toNat:Int))) | none=>.inl ([],2)):=by
 intro m
 induction m with
 | zero=>
  intro i acc hm hi he ha
  have d:decide ((i:Int)<(s.length:Int))=false:=decide_eq_false (by omega)
  rw [List.drop_eq_nil_of_le (by omega)]
  refine (aac (y:=.inr (acc.map (fun c=>PV.int (c.toNat:Int)))) ?_).trans (by simp [uh])
  simp only [S356_6step,S356_6,d,cond_false]
 | succ m ih=>
  intro i acc hm hi he ha
  by_cases hlt:i<s.length
  ·have hlt2:i+1<s.length:=by omega
   have d:decide ((i:Int)<(s.length:Int))=true:=decide_eq_true (by omega)
   have r0:aaa (i:Int) s.length=true:=by rw [aab];exact decide_eq_true hlt
   have r1:aaa ((i+1:Nat):Int) s.length=true:=by rw [aab];exact decide_eq_true hlt2
   have w1:IntKind.wrap .i64 ((i:Int)+1)=((i+1:Nat):Int):=ab2 (by omega)
   have w2:IntKind.wrap .i64 ((i:Int)+2)=((i+2:Nat):Int):=by rw [abf (by omega) (by omega)];omega
   have e8:∀ v:PV,decide ((acc.map (fun c=>PV.int (c.toNat:Int))).length+[v].length<=aal)=true:=fun v=>decide_eq_true (by simp only [List.length_map,List.length_cons,List.length_nil];unfold aal;omega)
   rw [aau hlt 0,aau hlt2 0,apo]
   have gh:=ah3 (s.getD i 0).toNat
   have gl:=ah3 (s.getD (i+1) 0).toNat
   by_cases hn:digI (s.getD i 0).toNat<0∨digI (s.getD (i+1) 0).toNat<0
   ·rw [if_pos hn]
    refine aac ?_
    have hx:(bif decide (digI (s.getD i 0).toNat<0) then true else decide (digI (s.getD (i+1) 0).toNat<0))=true:=by
     rcases hn with hn | hn
     ·rw [decide_eq_true hn];rfl
     ·rw [decide_eq_true hn];simp
    simp only [S356_6step,S356_6,d,r0,r1,w1,cond_true,Int.toNat_natCast,(aeu _).1,Option.bind_some,hx]
   ·rw [if_neg hn]
    have n0:decide (digI (s.getD i 0).toNat<0)=false:=decide_eq_false (by omega)
    have n1:decide (digI (s.getD (i+1) 0).toNat<0)=false:=decide_eq_false (by omega)
    obtain ⟨h,hh⟩:∃ h:Nat,digI (s.getD i 0).toNat=(h:Int):=⟨(digI (s.getD i 0).toNat).toNat,by omega⟩
    obtain ⟨l,hll⟩:∃ l:Nat,digI (s.getD (i+1) 0).toNat=(l:Int):=⟨(digI (s.getD (i+1) 0).toNat).toNat,by omega⟩
    have hv:IntKind.wrap .u8 (af0 .or .i64 (IntKind.wrap .i64 ((h:Int)*2^(min (4:Int).toNat (IntKind.bits .i64)))) (l:Int))=((UInt8.ofNat (16*h+l)).toNat:Int):=by
     have:=bai (b:=16*h+l) (by omega)
     rw [show (16*h+l) / 16=h by omega,show (16*h+l)%16=l by omega] at this
     rw [this,ba4 (by omega) (by omega)]
    rw [aax (x1:=(s,(acc++[UInt8.ofNat (16*h+l)]).map (fun c=>PV.int (c.toNat:Int)),((i+2:Nat):Int)))]
    ·rw [ih (i+2) _ (by omega) (by omega) (by omega) (by simp;omega),hh,hll,Int.toNat_natCast,Int.toNat_natCast]
     cases uh (s.drop (i+1+1)) with
     | none=>rfl
     | some l=>simp
    ·simp only [S356_6step,S356_6,d,r0,r1,w1,w2,cond_true,cond_false,Int.toNat_natCast,(aeu _).1,Option.bind_some,n0,n1,e8,hh,hll,hv,List.map_append,List.map_cons,List.map_nil]
     rw [show decide ((h:Int)<0)=false from decide_eq_false (by omega),show decide ((l:Int)<0)=false from decide_eq_false (by omega)]
     rfl
  ·have d:decide ((i:Int)<(s.length:Int))=false:=decide_eq_false (by omega)
   rw [List.drop_eq_nil_of_le (by omega)]
   refine (aac (y:=.inr (acc.map (fun c=>PV.int (c.toNat:Int)))) ?_).trans (by simp [uh])
   simp only [S356_6step,S356_6,d,cond_false]
theorem ayo (l:List UInt8):(l.map (fun c=>PV.int (c.toNat:Int))).map aan=l:=by
 rw [List.map_map]
 exact (List.map_congr_left (g:=id) (fun x _=>ahe x)).trans (List.map_id _)
theorem a7k (s:List UInt8) (hl:s.length<=1048576):F356 0 s=some (adq s):=by
 unfold F356 adq
 rw [mod2]
 by_cases he:s.length%2=0
 ·have hw:IntKind.wrap .i64 (((s.length:Nat):Int).tdiv (2:Int))=((s.length / 2:Nat):Int):=by
   rw [show ((s.length:Nat):Int).tdiv (2:Int)=((s.length / 2:Nat):Int) from rfl,abf (by omega) (by omega)]
  have hm:decide (0<=((s.length / 2:Nat):Int)/\((s.length / 2:Nat):Int)<=aal)=true:=decide_eq_true (by unfold aal;omega)
  have lp:=ayf s hl s.length 0 [] (by omega) (by omega) (by omega) (by simp)
  simp only [List.drop_zero,List.nil_append,List.map_nil] at lp
  rw [decide_eq_true he,if_pos he,Bool.not_true,cond_false]
  simp only [hw,hm,cond_true,aaq]
  rw [show (0:Int)=((0:Nat):Int) from rfl,lp]
  cases uh s with
  | none=>rfl
  | some l=>simp only [List.nil_append,Option.bind_some,aa3,ayo]
 ·rw [decide_eq_false he,if_neg he];rfl
def valB (v:Nat) (l:List UInt8):Nat:=l.foldl (fun v b=>256*v+b.toNat) v
theorem az2 {a:UInt8} (h:¬digI a.toNat<0):a=hexd (digI a.toNat).toNat:=by
 have hall:((List.range 256).all fun b=>decide (digI b<0)||(UInt8.ofNat b==hexd (digI b).toNat))=true:=by kernel_rfl
 have:=List.all_eq_true.1 hall a.toNat (List.mem_range.2 a.toNat_lt)
 rw [decide_eq_false h,Bool.false_or,UInt8.ofNat_toNat] at this
 exact eq_of_beq this
theorem anh:∀ (t l:List UInt8),uh t=some l->t=l.flatMap (fun b=>hex2 b.toNat)/\t.length=2*l.length
 | [],l,h=>by cases h;exact ⟨rfl,rfl⟩
 | [a],l,h=>by cases h
 | a::b::r,l,h=>by
  rw [apo] at h
  by_cases hn:digI a.toNat<0∨digI b.toNat<0
  ·rw [if_pos hn] at h;cases h
  ·rw [if_neg hn] at h
   cases hu:uh r with
   | none=>rw [hu] at h;cases h
   | some m=>
    rw [hu] at h
    simp only [Option.map_some,Option.some.injEq] at h
    subst h
    obtain ⟨h1,h2⟩:=anh r m hu
    have ga:=ah3 a.toNat
    have gb:=ah3 b.toNat
    have na:¬digI a.toNat<0:=fun x=>hn (Or.inl x)
    have nb:¬digI b.toNat<0:=fun x=>hn (Or.inr x)
    refine ⟨?_,by simp only [List.length_cons,h2];omega⟩
    rw [List.flatMap_cons,<-h1,ba4 (by omega) (by omega)]
    have e1:(16*(digI a.toNat).toNat+(digI b.toNat).toNat) / 16=(digI a.toNat).toNat:=by omega
    have e2:(16*(digI a.toNat).toNat+(digI b.toNat).toNat)%16=(digI b.toNat).toNat:=by omega
    unfold hex2
    rw [e1,e2,<-az2 na,<-az2 nb];rfl
theorem a0a (b:Nat) (h:b<256):hexN 2 b=hex2 b:=by
 simp only [hexN,List.nil_append,hex2]
 rw [show b / 16%16=b / 16 by omega];rfl
theorem awg:∀ (l:List UInt8) (v n:Nat),hexN (n+2*l.length) (valB v l)=hexN n v++l.flatMap (fun b=>hex2 b.toNat):=by
 intro l
 induction l with
 | nil=>intro v n;simp [valB]
 | cons b r ih=>
  intro v n
  have hb:=b.toNat_lt
  have:=ih (256*v+b.toNat) (n+2)
  rw [show n+2*(b::r).length=n+2+2*r.length by simp;omega,show valB v (b::r)=valB (256*v+b.toNat) r from rfl,this,a4p,show (256*v+b.toNat) / 256=v by omega,show (256*v+b.toNat)%256=b.toNat by omega,a0a _ (by omega),List.flatMap_cons,List.append_assoc]
theorem a05:∀ (l:List UInt8) (v n:Nat),v<256^n->valB v l<256^(n+l.length):=by
 intro l
 induction l with
 | nil=>intro v n h;exact h
 | cons b r ih=>
  intro v n h
  have hb:=b.toNat_lt
  have:=ih (256*v+b.toNat) (n+1) (by rw [Nat.pow_succ];omega)
  rw [show n+(b::r).length=n+1+r.length by simp;omega]
  exact this
theorem a2c:∀ (t:List UInt8),(∀ c,c∈t->¬digI c.toNat<0)->t.length%2=0->∃ l,uh t=some l
 | [],_,_=>⟨[],rfl⟩
 | [a],_,h=>by cases h
 | a::b::r,hd,h=>by
  obtain ⟨l,hl⟩:=a2c r (fun c hc=>hd c (by simp [hc])) (by simp only [List.length_cons] at h;omega)
  have hn:¬(digI a.toNat<0∨digI b.toNat<0):=by
   have:=hd a (by simp);have:=hd b (by simp);omega
  exact ⟨_,by rw [apo,if_neg hn,hl];rfl⟩
theorem a4w:∀ (n u:Nat) (c:UInt8),c∈hexN n u->¬digI c.toNat<0:=by
 intro n
 induction n with
 | zero=>intro u c hc;cases hc
 | succ n ih=>
  intro u c hc
  rw [hexN,List.mem_append,List.mem_singleton] at hc
  rcases hc with hc | rfl
  ·exact ih _ c hc
  ·rw [aq0 (Nat.mod_lt _ (by decide))];omega
theorem axw:((List.range 16).all fun d=>agp (hexd d)==some d)=true:=by kernel_rfl
theorem ax6 {d:Nat} (h:d<16):agp (hexd d)=some d:=by
 have:=List.all_eq_true.1 axw d (List.mem_range.2 h)
 simpa using this
theorem ayx:∀ (l m:List UInt8) (acc:Nat),ab5 acc (l++m)=match ab5 acc l with | .ok a=>ab5 a m | .range=>.range | Lib.NumEnd.syntax=>Lib.NumEnd.syntax:=by
 intro l
 induction l with
 | nil=>intro m acc;rfl
 | cons c r ih=>
  intro m acc
  simp only [List.cons_append,ab5]
  cases agp c with
  | none=>rfl
  | some d=>
   by_cases h:1152921504606846976<=acc
   ·simp [h]
   ·simp only [h,if_false];exact ih m _
theorem au1:∀ (n u:Nat),n<=16->ab5 0 (hexN n u)=.ok (u%16^n):=by
 intro n
 induction n with
 | zero=>intro u _;simp [hexN,ab5,Nat.mod_one]
 | succ n ih=>
  intro u hn
  rw [hexN,ayx,ih (u / 16) (by omega)]
  have hlt:u / 16%16^n<16^n:=Nat.mod_lt _ (Nat.pow_pos (by decide))
  have hle:16^n<=16^15:=Nat.pow_le_pow_right (by decide) (by omega)
  have h15:(16:Nat)^15=1152921504606846976:=by decide
  have hng:¬1152921504606846976<=u / 16%16^n:=by omega
  simp only [ab5,ax6 (Nat.mod_lt u (show 0<16 by decide)),if_neg hng]
  rw [Nat.pow_succ,Nat.mul_comm (16^n) 16,Nat.mod_mul]
  congr 1;omega
theorem a2h:∀ (l:List UInt8) (acc u:Nat),acc<18446744073709551616->ab5 acc l=.ok u->u<18446744073709551616:=by
 intro l
 induction l with
 | nil=>intro acc u h e;cases e;exact h
 | cons c r ih=>
  intro acc u h e
  simp only [ab5] at e
  cases hd:agp c with
  | none=>rw [hd] at e;cases e
  | some d=>
   rw [hd] at e
   simp only at e
   by_cases hg:1152921504606846976<=acc
   ·rw [if_pos hg] at e;cases e
   ·rw [if_neg hg] at e
    have hd16:d<16:=by
     unfold agp at hd
     split at hd
     ·cases hd;omega
     ·split at hd
      ·cases hd;omega
      ·cases hd
    exact ih _ u (by omega) e
theorem aus (u:Nat) (hu:u<18446744073709551616):aci (hexN 16 u)=.ok u:=by
 have h16:(16:Nat)^16=18446744073709551616:=by decide
 unfold aci
 rw [if_neg (by intro h;have:=alz 16 u;rw [h] at this;cases this),au1 16 u (by omega),h16,Nat.mod_eq_of_lt hu]
theorem a6x (s:List UInt8):∃ y,F141 0 s ([48,120]:List UInt8)=some y/\y.length<=s.length/\∀ r,s=48::120::r->y=r:=by
 unfold F141 F245 F297
 match s with
 | []=>exact ⟨[],rfl,by simp,fun r h=>by cases h⟩
 | [a]=>exact ⟨[a],rfl,by simp,fun r h=>by cases h⟩
 | a::b::r=>
  have e1:decide (((a::b::r).length:Int)≥(([48,120]:List UInt8).length:Int))=true:=decide_eq_true (by simp only [List.length_cons,List.length_nil];omega)
  have e2:decide ((0:Int)<=(0:Int)/\(0:Int)<=(([48,120]:List UInt8).length:Int)/\(([48,120]:List UInt8).length:Int)<=((a::b::r).length:Int))=true:=decide_eq_true (by simp only [List.length_cons,List.length_nil];omega)
  have e3:decide ((0:Int)<=(([48,120]:List UInt8).length:Int)/\(([48,120]:List UInt8).length:Int)<=((a::b::r).length:Int)/\((a::b::r).length:Int)<=((a::b::r).length:Int))=true:=decide_eq_true (by simp only [List.length_cons,List.length_nil];omega)
  have e4:(((a::b::r).take (([48,120]:List UInt8).length:Int).toNat).drop (0:Int).toNat==([48,120]:List UInt8))=(a==48&&b==120):=by
   show ([a,b]==([48,120]:List UInt8))=_
   simp
  have e5:(((a::b::r).take ((a::b::r).length:Int).toNat).drop (([48,120]:List UInt8).length:Int).toNat)=r:=by
   show ((a::b::r).take (a::b::r).length).drop 2=r
   rw [List.take_length];rfl
  simp only [e1,e2,e3,e4,e5,imp,cond_true,Option.bind_some]
  cases h:(a==48&&b==120) with
  | true=>exact ⟨r,rfl,by simp;omega,fun q hq=>by simp only [List.cons.injEq] at hq;exact hq.2.2⟩
  | false=>
   refine ⟨a::b::r,rfl,Nat.le_refl _,fun q hq=>?_⟩
   simp only [List.cons.injEq] at hq
   rw [hq.1,hq.2.1] at h;cases h
theorem a4t (s:List UInt8) (hs:s.length<=1048576):acf 0 s 16 64=some (ab8 (aci s)):=by
 unfold acf
 have:Nat.ble s.length 281474976710656=true:=Nat.ble_eq_true_of_le (by omega)
 rw [this];rfl
theorem am6 {u:Nat} (h:¬adi u<=1):aff u=48::120::hexN 16 u:=by
 unfold aff
 have h0:(adi u==0)=false:=beqI (by omega)
 have h1:(adi u==1)=false:=beqI (by omega)
 simp [h0,h1]
theorem aos {u:Nat} (h:adi u<=1):aff u=[110,97,110]∨aff u=[105,110,102]∨aff u=[45,105,110,102]:=by
 have hr:adi u=0∨adi u=1:=by
  unfold adi at h ⊢
  split
  ·exact Or.inl rfl
  ·split
   ·exact Or.inr rfl
   ·rename_i a b
    rw [if_neg a,if_neg b] at h
    split at h
    ·exact absurd h (by decide)
    ·split at h<;>exact absurd h (by decide)
 unfold aff
 rcases hr with hr | hr
 ·rw [hr];exact Or.inl rfl
 ·rw [hr]
  simp only [show ((1:Int)==0)=false from rfl,show ((1:Int)==1)=true from rfl,cond_false,cond_true]
  cases decide (9223372036854775808<=u) with
  | true=>exact Or.inr (Or.inr rfl)
  | false=>exact Or.inr (Or.inl rfl)
end Go.Ab
namespace Go.Ab
open Go
set_option maxRecDepth 100000
def Both (a b:Option (PV×Int)):Prop:=∃ (k n:Int) (s:List UInt8) (e:Int),a=some (adn k n s,e)/\b=some (adn k n s,e)
theorem Both.of {a b:Option (PV×Int)} (k n:Int) (s:List UInt8) (e:Int) (h1:a=some (adn k n s,e)) (h2:b=some (adn k n s,e)):Both a b:=⟨k,n,s,e,h1,h2⟩
theorem a5i (l:List UInt8) (hl:l.length<=8):∀ (m i v:Nat),l.length-i<=m->i<=l.length->v<256^i->
 abi (S316_16step 0) ((),l,(),(i:Int),adf,mkV 6 (v:Int))=some ((),(),adf,mkV 6 ((valB v (l.drop i):Nat):Int)):=by
 intro m
 induction m with
 | zero=>
  intro i v hm hi hv
  have d:decide ((i:Int)<(l.length:Int))=false:=decide_eq_false (by omega)
  rw [List.drop_eq_nil_of_le (by omega)]
  refine aac ?_
  simp only [S316_16step,S316_16,d,cond_false]
  rfl
 | succ m ih=>
  intro i v hm hi hv
  by_cases hlt:i<l.length
  ·have d:decide ((i:Int)<(l.length:Int))=true:=decide_eq_true (by omega)
   have r0:aaa (i:Int) l.length=true:=by rw [aab];exact decide_eq_true hlt
   have w1:IntKind.wrap .i64 ((i:Int)+1)=((i+1:Nat):Int):=ab2 (by omega)
   have hb:=(l.getD i 0).toNat_lt
   have hp:256^i<=256^7:=Nat.pow_le_pow_right (by decide) (by omega)
   have h7:(256:Nat)^7=72057594037927936:=by decide
   have hx:IntKind.wrap .u64 ((IntKind.wrap .u64 ((256:Int)*(v:Int)))+(IntKind.wrap .u64 ((l.getD i 0).toNat:Int)))=((256*v+(l.getD i 0).toNat:Nat):Int):=by
    rw [IntKind.wrap_u64,IntKind.wrap_u64,IntKind.wrap_u64];omega
   rw [aau hlt 0]
   rw [aax (x1:=((),l,(),((i+1:Nat):Int),adf,mkV 6 ((256*v+(l.getD i 0).toNat:Nat):Int)))]
   ·rw [ih (i+1) _ (by omega) (by omega) (by rw [Nat.pow_succ];omega)]
    rfl
   ·simp only [S316_16step,S316_16,d,r0,w1,cond_true,Int.toNat_natCast]
    show some (Sum.inl ((),l,(),((i+1:Nat):Int),adf,mkV 6 (IntKind.wrap .u64 ((IntKind.wrap .u64 ((256:Int)*(v:Int)))+(IntKind.wrap .u64 ((l.getD i 0).toNat:Int))))))=_
    rw [hx]
  ·have d:decide ((i:Int)<(l.length:Int))=false:=decide_eq_false (by omega)
   rw [List.drop_eq_nil_of_le (by omega)]
   refine aac ?_
   simp only [S316_16step,S316_16,d,cond_false]
   rfl
theorem ayh {s:List UInt8}{u:Nat} (h:aci s=.ok u):u<18446744073709551616:=by
 unfold aci at h
 split at h
 ·cases h
 ·exact a2h s 0 u (by decide) h
theorem eqLs {a b:List UInt8} (h:a=b):(a==b)=true:=by rw [h];exact beq_self_eq_true b
theorem neLs {a b:List UInt8} (h:a≠b):(a==b)=false:=beq_eq_false_iff_ne.2 h
set_option maxHeartbeats 800000 in
theorem at0 (s:List UInt8) (hl:s.length<=1048576):Both (F306 0 s) (F316 0 s):=by
 by_cases c1:s=[110,97,110]
 ·subst c1;exact Both.of 6 9221120237041090560 [] 0 rfl rfl
 by_cases c2:s=[105,110,102]
 ·subst c2;exact Both.of 6 9218868437227405312 [] 0 rfl rfl
 by_cases c3:s=[45,105,110,102]
 ·subst c3;exact Both.of 6 18442240474082181120 [] 0 rfl rfl
 obtain ⟨y,hy,hyl,hyr⟩:=a6x s
 have hp16:=a4t y (by omega)
 have hprog:F306 0 s=(bif !(ab8 (aci y)).2 then some [] else F149 0 (ab8 (aci y)).1).bind fun y9=>bif (bif !(ab8 (aci y)).2 then true else !(y9==s)) then some (adf,(2:Int)) else some (mkV 6 (ab8 (aci y)).1,0):=by
  unfold F306
  rw [neLs c1,neLs c2,neLs c3,hy,Option.bind_some,hp16,Option.bind_some]
  cases (ab8 (aci y)).2<;>rfl
 have href:∀ l,s.length=18->s.take 2=[48,120]->uh (s.drop 2)=some l->F316 0 s=if adi (valB 0 l)<=1 then some (adf,2) else some (mkV 6 ((valB 0 l:Nat):Int),0):=by
  intro l h18 ht hu
  have hl8:l.length=8:=by have:=(anh _ _ hu).2;rw [List.length_drop,h18] at this;omega
  have he:(s.drop 2).length%2=0:=by rw [List.length_drop,h18]
  have hx:F364 0 (s.drop 2)=some (l,0):=by
   rw [aiw _ (by rw [List.length_drop];omega)];unfold adq;rw [if_pos he,hu]
  have e5:((s.length:Int) != (18:Int))=false:=by rw [h18];rfl
  have e6:decide (0<=(0:Int)/\(0:Int)<=(2:Int)/\(2:Int)<=(s.length:Int))=true:=decide_eq_true (by omega)
  have e7:decide (0<=(2:Int)/\(2:Int)<=(s.length:Int)/\(s.length:Int)<=(s.length:Int))=true:=decide_eq_true (by omega)
  have e8:(s.take (2:Int).toNat).drop (0:Int).toNat=[48,120]:=ht
  have e9:(s.take (s.length:Int).toNat).drop (2:Int).toNat=s.drop 2:=by
   rw [Int.toNat_natCast,List.take_length];rfl
  have lp:=a5i l (by omega) l.length 0 0 (by omega) (by omega) (by decide)
  rw [List.drop_zero] at lp
  have hf:=auy (valB 0 l)
  unfold F316
  rw [neLs c1,neLs c2,neLs c3]
  simp only [e5,e6,e7,e8,e9,hx,cond_false,cond_true,Bool.not_false,imp,eqLs rfl,Bool.not_true,Option.bind_some,aaq]
  have lp2:abi (S316_16step 0) ((),l,(),(0:Int),PV.agg [(PV.int (0:Int)),(PV.int (0:Int)),(PV.str ([]:List UInt8)),(PV.slice []),(PV.slice []),(PV.slice []),(PV.slice [])],PV.agg [(PV.int (6:Int)),(PV.int (0:Int)),(PV.str ([]:List UInt8)),(PV.slice []),(PV.slice []),(PV.slice []),(PV.slice [])])=some ((),(),adf,mkV 6 ((valB 0 l:Nat):Int)):=lp
  rw [lp2]
  simp only [show ((0:Int) != 0)=false from rfl,cond_false,Option.bind_some]
  rw [show ((mkV 6 ((valB 0 l:Nat):Int)).fld 1).asInt=((valB 0 l:Nat):Int) from rfl,hf,Option.bind_some]
  by_cases hc:adi (valB 0 l)<=1
  ·rw [decide_eq_true hc,if_pos hc];rfl
  ·rw [decide_eq_false hc,if_neg hc];rfl
 have hbad:(¬∃ l,s.length=18/\s.take 2=[48,120]/\uh (s.drop 2)=some l)->F316 0 s=some (adf,2):=by
  intro hn
  unfold F316
  rw [neLs c1,neLs c2,neLs c3]
  by_cases h18:s.length=18
  ·have e5:((s.length:Int) != (18:Int))=false:=by rw [h18];rfl
   have e6:decide (0<=(0:Int)/\(0:Int)<=(2:Int)/\(2:Int)<=(s.length:Int))=true:=decide_eq_true (by omega)
   have e7:decide (0<=(2:Int)/\(2:Int)<=(s.length:Int)/\(s.length:Int)<=(s.length:Int))=true:=decide_eq_true (by omega)
   have e8:(s.take (2:Int).toNat).drop (0:Int).toNat=s.take 2:=rfl
   have e9:(s.take (s.length:Int).toNat).drop (2:Int).toNat=s.drop 2:=by
    rw [Int.toNat_natCast,List.take_length];rfl
   simp only [e5,e6,e7,e8,e9,cond_false,cond_true,Bool.not_false,imp]
   by_cases ht:s.take 2=[48,120]
   ·rw [eqLs ht]
    have he:(s.drop 2).length%2=0:=by rw [List.length_drop,h18]
    have hu:uh (s.drop 2)=none:=by
     cases h:uh (s.drop 2) with
     | none=>rfl
     | some l=>exact absurd ⟨l,h18,ht,h⟩ hn
    rw [aiw _ (by rw [List.length_drop];omega)]
    unfold adq
    rw [if_pos he,hu];rfl
   ·rw [neLs ht];rfl
  ·have e5:((s.length:Int) != (18:Int))=true:=bneI (by omega)
   simp only [e5,cond_true,cond_false,Bool.not_true,Bool.not_false,aah,imp];rfl
 have shape:∀ u:Nat,s=48::120::hexN 16 u->u<18446744073709551616->s.length=18/\s.take 2=[48,120]/\∃ l,uh (s.drop 2)=some l/\valB 0 l=u:=by
  intro u hs hu
  have hlen:=alz 16 u
  have hd:s.drop 2=hexN 16 u:=by rw [hs];rfl
  obtain ⟨l,hl2⟩:=a2c (hexN 16 u) (a4w 16 u) (by rw [hlen])
  obtain ⟨h1,h2⟩:=anh _ _ hl2
  have hl8:l.length=8:=by omega
  have hv:=awg l 0 0
  rw [hl8,<-h1,show 0+2*8=16 from rfl,show hexN 0 0=[] from rfl,List.nil_append] at hv
  have hlt:=a05 l 0 0 (by decide)
  have h64:(256:Nat)^(0+8)=18446744073709551616:=by decide
  have h16:(16:Nat)^16=18446744073709551616:=by decide
  rw [hl8,h64] at hlt
  refine ⟨by rw [hs];simp [hlen],by rw [hs];rfl,l,by rw [hd];exact hl2,?_⟩
  exact a4m 16 _ _ (by rw [h16];exact hlt) (by rw [h16];exact hu) hv
 by_cases H:∃ u:Nat,u<18446744073709551616/\s=48::120::hexN 16 u
 ·obtain ⟨u,hu,hs⟩:=H
  obtain ⟨h18,ht,l,hl2,hv⟩:=shape u hs hu
  have hr:=href l h18 ht hl2
  rw [hv] at hr
  rw [hyr _ hs,aus u hu] at hprog
  simp only [ab8,Bool.not_true,cond_false,atw u hu,Option.bind_some] at hprog
  by_cases hc:adi u<=1
  ·rw [if_pos hc] at hr
   have hne:aff u≠s:=by
    rcases aos hc with h | h | h<;>rw [h,hs]<;>intro h'<;>simp at h'
   rw [neLs hne] at hprog
   exact Both.of 0 0 [] 2 hprog hr
  ·rw [if_neg hc] at hr
   rw [eqLs ((am6 hc).trans hs.symm)] at hprog
   exact Both.of 6 u [] 0 hprog hr
 ·have hr:F316 0 s=some (adf,2):=by
   refine hbad ?_
   rintro ⟨l,h18,ht,hu⟩
   refine H ⟨valB 0 l,?_,?_⟩
   ·have hl8:l.length=8:=by have:=(anh _ _ hu).2;rw [List.length_drop,h18] at this;omega
    have hlt:=a05 l 0 0 (by decide)
    have h64:(256:Nat)^(0+8)=18446744073709551616:=by decide
    rw [hl8,h64] at hlt
    exact hlt
   ·have hl8:l.length=8:=by have:=(anh _ _ hu).2;rw [List.length_drop,h18] at this;omega
    have hv:=awg l 0 0
    rw [hl8,<-(anh _ _ hu).1,show 0+2*8=16 from rfl,show hexN 0 0=[] from rfl,List.nil_append] at hv
    have:=List.take_append_drop 2 s
    rw [ht,<-hv,List.cons_append,List.cons_append,List.nil_append] at this
    exact this.symm
  refine Both.of 0 0 [] 2 ?_ hr
  rw [hprog]
  cases hp:aci y with
  | ok u=>
   have hu:=ayh hp
   have hne:aff u≠s:=by
    intro hd
    by_cases hc:adi u<=1
    ·rcases aos hc with h | h | h
     ·exact c1 (hd.symm.trans h)
     ·exact c2 (hd.symm.trans h)
     ·exact c3 (hd.symm.trans h)
    ·exact H ⟨u,hu,hd.symm.trans (am6 hc)⟩
   simp only [ab8,Bool.not_true,cond_false,atw u hu,Option.bind_some,neLs hne,Bool.not_false,cond_true]
   rfl
  | range=>rfl
  | «syntax»=>rfl
theorem ame (k b:Int) (hk:2<=k/\k<=5):F250 0 k b=some (abt k b):=by
 rcases (show k=2∨k=3∨k=4∨k=5 by omega) with rfl | rfl | rfl | rfl
 ·unfold F250 abt
  by_cases h1:-2147483648<=IntKind.wrap .i64 b
  ·by_cases h2:IntKind.wrap .i64 b<=2147483647
   ·simp [h1,h2]
   ·simp [h1,h2]
  ·simp [h1]
 ·rfl
 ·show some (decide (b<=4294967295))=some (decide (b<4294967296))
  congr 1
  exact decide_eq_decide.2 (by omega)
 ·rfl
theorem fitsK (k b:Int) (hk:2<=k/\k<=5):ay0 k (mkV k b)=abt k b:=by
 rcases (show k=2∨k=3∨k=4∨k=5 by omega) with rfl | rfl | rfl | rfl<;>rfl
def numW (k:Int) (neg:Bool) (u:Nat):PV×Int:=
 if neg=true/\u=0 then (aix,2)
 else if k=2∨k=3 then
  (if neg=true then (if 9223372036854775808<u then (aix,6) else (bif abt k (IntKind.wrap .u64 (-(u:Int))) then (mkV k (IntKind.wrap .u64 (-(u:Int))),0) else (aix,6)))
  else if 9223372036854775808<=u then (aix,6) else bif abt k u then (mkV k u,0) else (aix,6))
 else if neg=true then (aix,6) else bif abt k u then (mkV k u,0) else (aix,6)
theorem a1h (k:Int) (neg:Bool) (u:Nat):∃ (a n e:Int),numW k neg u=(adn a n [],e):=by
 have z:∀ e:Int,∃ (a n e':Int),(aix,e)=(adn a n [],e'):=fun e=>⟨0,0,e,rfl⟩
 have m:∀ b:Int,∃ (a n e':Int),(mkV k b,(0:Int))=(adn a n [],e'):=fun b=>⟨k,b,0,rfl⟩
 have c:∀ b:Int,∃ (a n e':Int),(bif abt k b then (mkV k b,(0:Int)) else (aix,6))=(adn a n [],e'):=fun b=>by
  cases abt k b
  ·exact z 6
  ·exact m b
 unfold numW
 split
 ·exact z 2
 ·split
  ·split
   ·split
    ·exact z 6
    ·exact c _
   ·split
    ·exact z 6
    ·exact c _
  ·split
   ·exact z 6
   ·exact c _
theorem a1n (k:Int) (hk:2<=k/\k<=5) (neg:Bool) (u:Nat) (hu:u<18446744073709551616):F318 0 k (signed neg (Lib.decDigits u))=some (numW k neg u):=by
 unfold F318 numW
 rw [atb neg u hu,Option.bind_some]
 by_cases h0:neg=true/\u=0
 ·rw [if_pos h0,if_pos h0];rfl
 ·rw [if_neg h0,if_neg h0]
  have hf:∀ b:Int,0<=b->b<18446744073709551616->F153 0 k (PV.agg [(PV.int k),(PV.int b),(PV.str ([]:List UInt8)),(PV.slice []),(PV.slice []),(PV.slice []),(PV.slice [])])=some (abt k b):=fun b h0 h1=>by rw [<-fitsK k b hk];exact avu k (mkV k b) (a0r k h0 h1)
  have hz:(0-(u:Int))=-(u:Int):=by omega
  have hw:IntKind.wrap .u64 (-(u:Int))=(-(u:Int))%18446744073709551616:=by rw [IntKind.wrap_u64]
  have hf1:=hf (u:Int) (by omega) (by omega)
  have hf2:=hf (IntKind.wrap .u64 (-(u:Int))) (by rw [hw];omega) (by rw [hw];omega)
  by_cases hs:k=2∨k=3
  ·have hsg:F366 0 k=some true:=by rcases hs with rfl | rfl<;>rfl
   rw [if_pos hs]
   cases neg with
   | false=>
    by_cases hg:9223372036854775808<=u
    ·have d:decide ((u:Int)≥(9223372036854775808:Int))=true:=decide_eq_true (by omega)
     simp [hsg,d,hg,aix]
    ·have d:decide ((u:Int)≥(9223372036854775808:Int))=false:=decide_eq_false (by omega)
     simp [hsg,d,hg,hf1,mkV]
     cases abt k u<;>rfl
   | true=>
    by_cases hg:9223372036854775808<u
    ·have d:decide ((u:Int)>(9223372036854775808:Int))=true:=decide_eq_true (by omega)
     simp [hsg,d,hg,aix]
    ·have d:decide ((u:Int)>(9223372036854775808:Int))=false:=decide_eq_false (by omega)
     simp [hsg,d,hg,hz,hf2,mkV]
     cases abt k (IntKind.wrap .u64 (-(u:Int)))<;>rfl
  ·have hsg:F366 0 k=some false:=by rcases (show k=4∨k=5 by omega) with rfl | rfl<;>rfl
   rw [if_neg hs]
   cases neg with
   | true=>simp [hsg,aix]
   | false=>
    simp [hsg,hf1,mkV]
    cases abt k u<;>rfl
theorem a9q (k:Int) (hk:2<=k/\k<=5) (neg:Bool) (u:Nat) (hu:u<18446744073709551616):F309 0 k (signed neg (Lib.decDigits u))=some (numW k neg u):=by
 have hl:=azf neg u hu
 unfold F309 numW
 rw [ax9 neg u hu,ar0 _ (by omega),ajg _ (by omega)]
 by_cases h0:neg=true/\u=0
 ·obtain ⟨rfl,rfl⟩:=h0
  rfl
 ·have hx:(neg&&decide (u=0))=false:=by
   cases neg with
   | false=>rfl
   | true=>simp at h0;simp [h0]
  rw [if_neg h0,hx]
  have hwu:IntKind.wrap .u64 (u:Int)=(u:Int):=by rw [IntKind.wrap_u64];omega
  by_cases hs:k=2∨k=3
  ·have hsg:(bif (k==(2:Int)) then true else (k==(3:Int)))=true:=by rcases hs with rfl | rfl<;>rfl
   rw [if_pos hs,hsg]
   cases neg with
   | false=>
    have e:signed false (Lib.decDigits u)=Lib.decDigits u:=rfl
    rw [e,as6 hu]
    by_cases hg:9223372036854775808<=u
    ·simp [hg,ao3,aix]
    ·simp [hg,ao3,ame k _ hk,hwu,mkV]
     cases abt k u<;>rfl
   | true=>
    have e:signed true (Lib.decDigits u)=45::Lib.decDigits u:=rfl
    rw [e,arx hu]
    by_cases hg:9223372036854775808<u
    ·simp [hg,ao3,aix]
    ·simp [hg,ao3,ame k _ hk,mkV]
     cases abt k (IntKind.wrap .u64 (-(u:Int)))<;>rfl
  ·have hsg:(bif (k==(2:Int)) then true else (k==(3:Int)))=false:=by rcases (show k=4∨k=5 by omega) with rfl | rfl<;>rfl
   rw [if_neg hs,hsg]
   cases neg with
   | true=>
    have e:signed true (Lib.decDigits u)=45::Lib.decDigits u:=rfl
    rw [e,apx]
    simp [ab8,aix]
   | false=>
    have e:signed false (Lib.decDigits u)=Lib.decDigits u:=rfl
    rw [e,af4 hu]
    simp [ab8,ame k _ hk,mkV]
    cases abt k u<;>rfl
theorem a0u (neg:Bool) {u:Nat} (hu:u<18446744073709551616):(bif neg then ([45]:List UInt8) else [])++decB u=signed neg (Lib.decDigits u):=by
 rw [anj (by omega)]
 cases neg<;>rfl
theorem ahw (s:List UInt8) (hl:s.length<=1048576):∃ (a:List UInt8) (b:Bool),a.length<=1048576/\F355 0 s=some (a,b)/\∃ n e:Int,F215 0 s=some (a,n,e)/\(bif e != 0 then true else n != (s.length:Int))=!b:=by
 unfold F355
 rw [a5z s hl]
 rcases an1 s hl with ⟨a,q,hs,h⟩ | ⟨_,h⟩
 ·have:=alu a
  have h2:(aa6 a).length<=s.length:=by rw [hs];simp
  refine ⟨a,_,by omega,by rw [h,Option.bind_some],_,_,h,?_⟩
  simp only [show ((0:Int) != 0)=false from rfl,show ((0:Int)==0)=true from rfl,cond_false,cond_true]
  rfl
 ·exact ⟨[],_,by simp,by rw [h,Option.bind_some],_,_,h,rfl⟩
theorem ax2 (s:List UInt8) (hl:s.length<=1048576):Both (F308 0 7 s) (F317 0 7 s):=by
 obtain ⟨a,b,ha,hq,n,e,hr,hb⟩:=ahw s hl
 have h7:((7:Int)==8)=false:=rfl
 have h8:((7:Int)==7)=true:=rfl
 have hv:=axe a
 have hw:=an2 a (by omega)
 have hp:F308 0 7 s=bif !b then some (adf,2) else bif !valid a then some (adf,7) else bif decide ((a.length:Int)>4096) then some (adf,3) else some (adn 7 0 a,0):=by
  unfold F308
  simp only [h7,h8,cond_false,cond_true,hq,Option.bind_some,hv]
  rfl
 have hx:F317 0 7 s=bif !b then some (adf,2) else bif !valid a then some (adf,7) else bif decide ((a.length:Int)>4096) then some (adf,3) else some (adn 7 0 a,0):=by
  unfold F317
  simp only [h7,cond_false,hr,Option.bind_some,hb,hw]
  rfl
 rw [hp,hx]
 cases b with
 | false=>exact Both.of 0 0 [] 2 rfl rfl
 | true=>
  cases valid a with
  | false=>exact Both.of 0 0 [] 7 rfl rfl
  | true=>
   cases hd:decide ((a.length:Int)>4096) with
   | true=>exact Both.of 0 0 [] 3 rfl rfl
   | false=>exact Both.of 7 0 a 0 rfl rfl
theorem a89 (s:List UInt8):F354 0 s ([120]:List UInt8)=some (match s with | 120::r=>(r,true) | _=>(s,false)):=by
 unfold F354 F374 F297
 cases s with
 | nil=>rfl
 | cons a r=>
  have e1:decide (((a::r).length:Int)≥(([120]:List UInt8).length:Int))=true:=decide_eq_true (by simp only [List.length_cons,List.length_nil];omega)
  have e2:decide ((0:Int)<=(0:Int)/\(0:Int)<=(([120]:List UInt8).length:Int)/\(([120]:List UInt8).length:Int)<=((a::r).length:Int))=true:=decide_eq_true (by simp only [List.length_cons,List.length_nil];omega)
  have e3:decide ((0:Int)<=(([120]:List UInt8).length:Int)/\(([120]:List UInt8).length:Int)<=((a::r).length:Int)/\((a::r).length:Int)<=((a::r).length:Int))=true:=decide_eq_true (by simp only [List.length_cons,List.length_nil];omega)
  have e4:(((a::r).take (([120]:List UInt8).length:Int).toNat).drop (0:Int).toNat==([120]:List UInt8))=(a==120):=by
   show ([a]==([120]:List UInt8))=_
   simp
  have e5:(((a::r).take ((a::r).length:Int).toNat).drop (([120]:List UInt8).length:Int).toNat)=r:=by
   show ((a::r).take (a::r).length).drop 1=r
   rw [List.take_length];rfl
  simp only [e1,e2,e3,e4,e5,imp,cond_true,Option.bind_some]
  by_cases h:a=120
  ·subst h;rfl
  ·have hn:(a==120)=false:=by simpa using h
   rw [hn]
   simp only [Bool.not_false,cond_true]
   split
   ·rename_i heq;simp only [List.cons.injEq] at heq;exact absurd heq.1 h
   ·rfl
theorem bah (s l:List UInt8) (h:uh s=some l):l.length<=s.length:=by
 have:=(anh s l h).2;omega
theorem as8 (s:List UInt8):adq s=([],2)∨∃ l,adq s=(l,0)/\l.length<=s.length:=by
 unfold adq
 by_cases he:s.length%2=0
 ·rw [if_pos he]
  cases h:uh s with
  | none=>exact Or.inl rfl
  | some l=>exact Or.inr ⟨l,rfl,bah s l h⟩
 ·rw [if_neg he];exact Or.inl rfl
theorem ay4 (s:List UInt8) (hl:s.length<=1048576):Both (F308 0 8 s) ((F242 0 8 s)):=by
 have h8:((8:Int)==8)=true:=rfl
 have h7:((8:Int)==7)=false:=rfl
 have h1:((8:Int)==1)=false:=rfl
 have h6:((8:Int)==6)=false:=rfl
 have his:F256 0 8=some true:=rfl
 cases s with
 | nil=>
  refine Both.of 0 0 [] 2 ?_ rfl
  obtain ⟨a,b,ha,hq,_⟩:=ahw [] (by simp)
  unfold F308
  rw [h8,cond_true,a89]
  simp only [Option.bind_some,hq,Bool.not_false,cond_true]
  rfl
 | cons c r=>
  have r0:aaa (0:Int) (c::r).length=true:=by rw [show (0:Int)=((0:Nat):Int) from rfl,aab];simp
  by_cases hc:c=120
  ·subst hc
   have hr8:r.length<=1048576:=by simp only [List.length_cons] at hl;omega
   obtain ⟨a,b,ha,hq,n,e,hr,hb⟩:=ahw r hr8
   have hu:=a7k a ha
   have hv:=aiw a ha
   have hp:F308 0 8 (120::r)=bif !b then some (adf,2) else bif (adq a).2 != 0 then some (adf,(adq a).2) else bif decide (((adq a).1.length:Int)>4096) then some (adf,3) else some (adn 8 0 (adq a).1,0):=by
    unfold F308
    rw [h8,cond_true,a89]
    simp only [Option.bind_some,hq,h8,h7,cond_true,cond_false,Bool.not_true,hu]
    rfl
   have hd:decide (0<=(1:Int)/\(1:Int)<=(((120:UInt8)::r).length:Int)/\(((120:UInt8)::r).length:Int)<=(((120:UInt8)::r).length:Int))=true:=decide_eq_true (by simp only [List.length_cons];omega)
   have ht:(((120:UInt8)::r).take (((120:UInt8)::r).length:Int).toNat).drop (1:Int).toNat=r:=by
    rw [Int.toNat_natCast,List.take_length];rfl
   have hx:F242 0 8 (120::r)=bif !b then some (adf,2) else bif (adq a).2 != 0 then some (adf,2) else bif decide (((adq a).1.length:Int)>4096) then some (adf,3) else some (adn 8 0 (adq a).1,0):=by
    unfold F242
    rw [his,Option.bind_some]
    simp only [h1,h6,h7,h8,Bool.not_true,cond_false,cond_true,imp,r0,neLs (show (120:UInt8)::r≠[] by simp),Bool.not_false]
    rw [hd,ht]
    unfold F317
    rw [hr,Option.bind_some]
    simp only [hb,h8,cond_true,hv,Option.bind_some]
    cases b with
    | false=>rfl
    | true=>
     cases (adq a).2 != 0 with
     | true=>rfl
     | false=>cases decide (((adq a).1.length:Int)>4096)<;>rfl
   rw [hp,hx]
   cases b with
   | false=>exact Both.of 0 0 [] 2 rfl rfl
   | true=>
    rcases as8 a with h | ⟨l,h,_⟩
    ·rw [h];exact Both.of 0 0 [] 2 rfl rfl
    ·rw [h]
     cases hd2:decide ((l.length:Int)>4096) with
     | true=>exact Both.of 0 0 [] 3 (by simp only [hd2];rfl) (by simp only [hd2];rfl)
     | false=>exact Both.of 8 0 l 0 (by simp only [hd2];rfl) (by simp only [hd2];rfl)
  ·obtain ⟨a,b,ha,hq,_⟩:=ahw (c::r) hl
   refine Both.of 0 0 [] 2 ?_ ?_
   ·unfold F308
    rw [h8,cond_true,a89]
    have:(match c::r with | 120::r=>(r,true) | _=>(c::r,false))=(c::r,false):=by
     split
     ·rename_i heq;simp only [List.cons.injEq] at heq;exact absurd heq.1 hc
     ·rfl
    rw [this]
    simp only [Option.bind_some,hq,Bool.not_false,cond_true]
    rfl
   ·have hne:(((((c::r).getD (0:Int).toNat 0).toNat:Int)) != (120:Int))=true:=bneI (by
     intro h
     refine hc (UInt8.toNat_inj.1 ?_)
     have h':((c.toNat:Nat):Int)=120:=h
     have:c.toNat=120:=by omega
     rw [this];rfl)
    unfold F242
    rw [his,Option.bind_some]
    simp only [h1,h6,h7,h8,Bool.not_true,cond_false,cond_true,imp,r0,neLs (show c::r≠[] by simp),Bool.not_false,hne]
    rfl
theorem a3m (k:Int) (s:List UInt8) (hs:axp k s):Both (F239 0 k s) (F242 0 k s):=by
 rcases hs with ⟨hk,hl⟩ | ⟨rfl,x,hx,rfl⟩ | ⟨hk,neg,u,hu,rfl⟩
 ·rcases hk with rfl | rfl | rfl
  ·by_cases h1:s=[116,114,117,101]
   ·subst h1;exact Both.of 1 1 [] 0 rfl rfl
   ·by_cases h2:s=[102,97,108,115,101]
    ·subst h2;exact Both.of 1 0 [] 0 rfl rfl
    ·refine Both.of 0 0 [] 2 ?_ ?_
     ·unfold F239
      rw [neLs h1,neLs h2];rfl
     ·unfold F242
      rw [neLs h1,neLs h2];rfl
  ·obtain ⟨k,n,t,e,h1,h2⟩:=at0 s (by omega)
   refine Both.of k n t e ?_ ?_
   ·unfold F239
    rw [h1];rfl
   ·unfold F242
    rw [h2];rfl
  ·obtain ⟨k,n,t,e,h1,h2⟩:=ay4 s (by omega)
   refine Both.of k n t e ?_ h2
   unfold F239
   rw [h1];rfl
 ·have:=a35 x
  obtain ⟨k,n,t,e,h1,h2⟩:=ax2 (aa6 x) (by omega)
  refine Both.of k n t e ?_ ?_
  ·unfold F239
   rw [h1];rfl
  ·unfold F242
   rw [h2];rfl
 ·rw [a0u neg hu]
  obtain ⟨a,n,e,h⟩:=a1h k neg u
  have h1:=a9q k hk neg u hu
  have h2:=a1n k hk neg u hu
  rw [h] at h1 h2
  refine Both.of a n [] e ?_ ?_
  ·unfold F239
   rw [h1]
   rcases (show k=2∨k=3∨k=4∨k=5 by omega) with rfl | rfl | rfl | rfl<;>rfl
  ·unfold F242
   rw [h2]
   rcases (show k=2∨k=3∨k=4∨k=5 by omega) with rfl | rfl | rfl | rfl<;>rfl
theorem a9b:adu:=by
 intro k s hs
 obtain ⟨a,n,t,e,h1,_⟩:=a3m k s hs
 unfold parV
 rw [h1];rfl
theorem a0x (k:Int) (s:List UInt8) (hs:axp k s):∃ (a n:Int) (t:List UInt8) (e:Int),parV k s=(adn a n t,e):=by
 obtain ⟨a,n,t,e,h1,_⟩:=a3m k s hs
 refine ⟨a,n,t,e,?_⟩
 unfold parV
 rw [h1];rfl
end Go.Ab
namespace Go.Ab
open Go
set_option maxRecDepth 100000
def Flat (v:PV):Prop:=∃ (a n:Int) (t:List UInt8),v=adn a n t
def SmT (ts:List Tk):Prop:=∀ x,x∈ts->x.s.length<=16384
theorem SmT.tail {ts:List Tk} (h:SmT ts):SmT ts.tail:=fun x hx=>h x (List.mem_of_mem_tail hx)
theorem SmT.text {ts:List Tk} (h:SmT ts):(abw ts).length<=16384:=by
 cases ts with
 | nil=>exact Nat.zero_le _
 | cons x r=>exact h x (by simp)
theorem a2y {t:List PV} (ht:TNum t) (i:Nat):SmT (ts t i):=by
 intro x hx
 unfold ts at hx
 obtain ⟨y,hy,rfl⟩:=List.mem_map.1 hx
 exact ht.sml y (List.mem_of_mem_drop hy)
theorem a2q:Flat adf:=⟨0,0,[],rfl⟩
theorem al4 {k:Int}{s:List UInt8} (hs:axp k s) {b r q:List Tk}{v:PV} (h:valS (parV k s) b r=.ok v q):Flat v:=by
 obtain ⟨a,n,t,e,h1⟩:=a0x k s hs
 unfold valS at h
 rw [h1] at h
 cases hb:(e==0)<;>simp only [hb,cond_true,cond_false] at h<;>cases h
 exact ⟨a,n,t,rfl⟩
theorem alo {k:Int} (hk:2<=k/\k<=5) (neg:Bool) {l q:List Tk}{v:PV} (h:intS parV k neg l=.ok v q):Flat v:=by
 unfold intS at h
 cases hb:(aap l==2) with
 | false=>rw [hb] at h;cases h
 | true=>
  rw [hb] at h
  obtain ⟨u,hu,h1,h2⟩:=a8k (n:=aih l)
  exact al4 (Or.inr (Or.inr ⟨hk,neg,u,hu,by rw [h2]⟩)) h
theorem awv {l q:List Tk}{s:List UInt8} (hs:SmT l) (h:aa9 l=.ok s q):s.length<=16384:=by
 unfold aa9 afz at h
 cases hb:(aap l==3)<;>simp only [hb,cond_true,cond_false] at h<;>cases h
 exact hs.text
theorem a7e {l:List Tk} (hs:SmT l) {k:Int} (hk:0<=k/\k<=8) {v:PV}{q:List Tk} (h:litS parV k l=.ok v q):Flat v:=by
 unfold litS at h
 cases h0:(k==0) with
 | true=>
  rw [h0] at h
  cases hp:anv l<;>simp only [hp,cond_true,Rs.bind] at h<;>cases h
  exact ⟨9,0,_,rfl⟩
 | false=>
  cases h1:(k==1) with
  | true=>
   have h1':k=1:=eq_of_beq h1
   subst h1'
   rw [h0,h1] at h
   simp only [cond_false,cond_true] at h
   cases hb:(isS 1 [116,114,117,101] l||isS 1 [102,97,108,115,101] l)<;>simp only [hb,cond_true,cond_false] at h
   ·cases h
   ·exact al4 (Or.inl ⟨Or.inl rfl,hs.text⟩) h
  | false=>
   cases h6:(k==6||k==8) with
   | true=>
    rw [h0,h1,h6] at h
    simp only [cond_false,cond_true] at h
    have hk68:k=6∨k=8:=by simpa using h6
    cases ha:aa9 l with
    | er=>simp only [ha,Rs.bind] at h;cases h
    | ok s q'=>
     simp only [ha,Rs.bind] at h
     have hl:=awv hs ha
     exact al4 (Or.inl ⟨by omega,hl⟩) h
   | false=>
    have hk68:¬(k=6∨k=8):=by intro hx;rcases hx with rfl | rfl<;>simp at h6
    cases h7:(k==7) with
    | true=>
     have h7':k=7:=eq_of_beq h7
     subst h7'
     rw [h0,h1,h6,h7] at h
     simp only [cond_false,cond_true] at h
     cases ha:aa9 l with
     | er=>simp only [ha,Rs.bind] at h;cases h
     | ok s q'=>
      simp only [ha,Rs.bind] at h
      have hl:=awv hs ha
      exact al4 (Or.inr (Or.inl ⟨rfl,s,hl,rfl⟩)) h
    | false=>
     rw [h0,h1,h6,h7] at h
     simp only [cond_false] at h
     have n0:k≠0:=fun e=>by subst e;cases h0
     have n1:k≠1:=fun e=>by subst e;cases h1
     have n7:k≠7:=fun e=>by subst e;cases h7
     have hk2:2<=k/\k<=5:=by omega
     cases hb:isS 4 [45] l<;>simp only [hb,cond_true,cond_false] at h
     ·exact alo hk2 _ h
     ·exact alo hk2 _ h
end Go.Ab
namespace Go.Ab
open Go
set_option maxRecDepth 100000
noncomputable section
section
variable {t:List PV}{q:QF}{c:Prop}
theorem RF.step {α β R R':Type}{mk:α->Q4->R}{mk':β->Q4->R'}{f:List Tk->Rs α}{F:Q4->Option R}{f2:α->List Tk->Rs β}{g:R->Option R'}{G:α->Q4->Option R'} (h:RF t q mk c f F)
 (hg:∀ v s,g (mk v s)=G v s) (hc:∀ v,RF t q mk' (c/\∃ i j,i<=t.length/\j<=t.length/\f (ts t i)=.ok v (ts t j)) (f2 v) (G v)):RF t q mk' c (fun r=>(f r).bind f2) (fun s=>(F s).bind g):=
 RF.bind h fun v=>RF.congr (hc v) (fun _=>rfl) (fun s=>hg v s)
theorem a9y {l r:List Tk}{ty:PV} (h:typS l=.ok ty r):0<=(ty.fld 0).asInt/\(ty.fld 0).asInt<=8:=by
 unfold typS at h
 cases hx:aey l<;>simp only [hx,Rs.bind] at h<;>cases h
 exact ark _
end
theorem Rs.bind_inv {α β:Type}{x:Rs α}{f:α->List Tk->Rs β}{v:β}{r:List Tk} (h:x.bind f=.ok v r):∃ a q,x=.ok a q/\f a q=.ok v r:=by
 cases x with
 | ok a q=>exact ⟨a,q,rfl,h⟩
 | er q e=>cases h
theorem afa {k:Int}{s:List UInt8}{l r:List Tk}{v:Unit} (h:eatS k s l=.ok v r):r=l.tail:=by
 unfold eatS at h
 cases hb:isS k s l<;>simp only [hb,cond_true,cond_false] at h<;>cases h
 rfl
theorem anb {k:Int}{p:List UInt8->Bool}{l r:List Tk}{v:List UInt8} (h:afz k p l=.ok v r):r=l.tail:=by
 unfold afz at h
 cases hb:(aap l==k)<;>simp only [hb,cond_true,cond_false] at h
 ·cases h
 ·cases hp:p (abw l)<;>simp only [hp,cond_true,cond_false] at h<;>cases h
  rfl
theorem aw5 {most:Int}{l r:List Tk}{v:Int} (h:numS most l=.ok v r):r=l.tail:=by
 unfold numS at h
 cases hb:(aap l==2)<;>simp only [hb,cond_true,cond_false] at h
 ·cases h
 ·cases hp:decide (0<=aih l/\aih l<=most)<;>simp only [hp,cond_true,cond_false] at h<;>cases h
  rfl
theorem alw {l r:List Tk}{v:PV} (h:typS l=.ok v r):r=l.tail:=by
 obtain ⟨a,q,h1,h2⟩:=Rs.bind_inv h
 cases h2
 exact anb h1
def as4 (v:PV):Prop:=∃ (s:List UInt8) (w:PV),v=PV.agg [PV.str s,w]/\Flat w
theorem as0 {k:Int} (hk:k=1∨k=7∨k=3∨k=4) {l r:List Tk}{v:PV} (h:ac3 parV k l=.ok v r):Flat v:=by
 have fin:∀ k:Int,2<=k/\k<=5->(bif isS 4 [45] l then intS parV k true l.tail else intS parV k false l)=.ok v r->Flat v:=fun k hk h=>by
  cases hb:isS 4 [45] l<;>simp only [hb,cond_true,cond_false] at h
  ·exact alo hk _ h
  ·exact alo hk _ h
 unfold ac3 at h
 rcases hk with rfl | rfl | rfl | rfl
 ·simp only [show ((1:Int)==1)=true from rfl,cond_true] at h
  cases h1:isS 1 [116,114,117,101] l<;>simp only [h1,cond_true,cond_false] at h
  ·cases h2:isS 1 [102,97,108,115,101] l<;>simp only [h2,cond_true,cond_false] at h<;>cases h
   exact ⟨_,_,_,rfl⟩
  ·cases h;exact ⟨_,_,_,rfl⟩
 ·simp only [show ((7:Int)==1)=false from rfl,show ((7:Int)==7)=true from rfl,cond_true,cond_false] at h
  cases h1:(aap l==3)<;>simp only [h1,cond_true,cond_false] at h
  ·cases h
  ·cases h2:decide ((abw l).length>4096)<;>simp only [h2,cond_true,cond_false] at h
   ·cases h3:valid (abw l)<;>simp only [h3,cond_true,cond_false] at h<;>cases h
    exact ⟨_,_,_,rfl⟩
   ·cases h
 ·exact fin 3 (by decide) h
 ·exact fin 4 (by decide) h
theorem az3 {l r:List Tk}{v:PV} (h:ak1 parV aae l=.ok v r):as4 v:=by
 unfold ak1 at h
 cases h1:(aap l==1)<;>simp only [h1,cond_true,cond_false] at h
 ·cases h
 ·cases h2:(aae (abw l)==0)<;>simp only [h2,cond_true,cond_false] at h
  ·obtain ⟨_,q,_,h4⟩:=Rs.bind_inv h
   obtain ⟨w,q2,h5,h6⟩:=Rs.bind_inv h4
   cases h6
   exact ⟨_,w,rfl,as0 (by
    have hne:aae (abw l)≠0:=fun e=>by rw [e] at h2;cases h2
    exact atp hne) h5⟩
  ·cases h
theorem an7:∀ (m:Nat) (l:List Tk) (acc:List PV),l.length<=m->(∀ x,x∈acc->as4 x)->∀ v r,ab3 parV aae l acc=.ok v r->∀ x,x∈v->as4 x:=by
 intro m
 induction m with
 | zero=>
  intro l acc hm ha v r h
  have:l=[]:=List.eq_nil_of_length_eq_zero (by omega)
  subst this
  rw [aby] at h
  cases h
 | succ m ih=>
  intro l acc hm ha v r h
  rw [aby] at h
  obtain ⟨n,q,h1,h2⟩:=Rs.bind_inv h
  have hn:=az3 h1
  have hl:=akl parV aae l n q h1
  have hacc:∀ x,x∈acc++[n]->as4 x:=fun x hx=>by
   rcases List.mem_append.1 hx with hx | hx
   ·exact ha x hx
   ·rw [List.mem_singleton.1 hx];exact hn
  cases h3:isS 4 [93] q<;>simp only [h3,cond_true,cond_false] at h2
  ·cases h4:isS 4 [44] q<;>simp only [h4,cond_true,cond_false] at h2
   ·cases h2
   ·exact ih q.tail _ (by have:=ab1 q;omega) hacc v r h2
  ·cases h2;exact hacc
theorem apg {l r:List Tk}{v:List PV} (h:acw parV aae l=.ok v r):∀ x,x∈v->as4 x:=by
 unfold acw at h
 cases h1:isS 4 [91] l<;>simp only [h1,cond_true,cond_false] at h
 ·cases h;intro x hx;cases hx
 ·exact an7 _ _ [] (Nat.le_refl _) (by intro x hx;cases hx) v r h
def a7j (v:PV):Prop:=∃ (num:Int) (nm:List UInt8) (card key:Int) (ty:PV) (un:List UInt8) (hd:Bool) (df:PV) (nts:List PV),v=akx num nm card key ty un hd df nts/\Flat df/\∀ x,x∈nts->as4 x
theorem apn {card key:Int}{ty:PV}{un:List UInt8}{wd:Bool}{l r:List Tk}{v:PV} (hs:SmT l) (hk:wd=true->0<=(ty.fld 0).asInt/\(ty.fld 0).asInt<=8) (h:aim parV aae card key ty un wd l=.ok v r):a7j v:=by
 obtain ⟨nm,r1,e1,h⟩:=Rs.bind_inv h
 obtain ⟨_,r2,e2,h⟩:=Rs.bind_inv h
 obtain ⟨n,r3,e3,h⟩:=Rs.bind_inv h
 obtain ⟨d,r4,e4,h⟩:=Rs.bind_inv h
 obtain ⟨nts,r5,e5,h⟩:=Rs.bind_inv h
 obtain ⟨_,r6,e6,h⟩:=Rs.bind_inv h
 cases h
 refine ⟨n,nm,card,key,ty,un,d.1,d.2,nts,rfl,?_,apg e5⟩
 have s3:SmT r3:=by
  rw [aw5 e3,afa e2,anb e1];exact hs.tail.tail.tail
 unfold aoj at e4
 cases hb:(wd&&isS 1 [100,101,102,97,117,108,116] r3)<;>simp only [hb,cond_true,cond_false] at e4
 ·cases e4;exact a2q
 ·obtain ⟨w,q,e7,e8⟩:=Rs.bind_inv e4
  cases e8
  have hw:wd=true:=by simp only [Bool.and_eq_true] at hb;exact hb.1
  exact a7e s3.tail (hk hw) e7
theorem awl {l r:List Tk}{v:PV} (hs:SmT l) (h:ad0 parV aae l=.ok v r):a7j v:=by
 unfold ad0 at h
 cases h1:isS 1 [109,97,112] l<;>simp only [h1,cond_true,cond_false] at h
 ·cases h2:(aap l==1&&!(ai7 (abw l)==0))<;>simp only [h2,cond_true,cond_false] at h
  ·cases h
  ·obtain ⟨ty,q,e1,h⟩:=Rs.bind_inv h
   refine apn (by rw [alw e1];exact hs.tail.tail) (fun _=>a9y e1) h
 ·obtain ⟨_,q,e1,h⟩:=Rs.bind_inv h
  cases h2:(aap q==1&&!(aex (abw q)==0))<;>simp only [h2,cond_true,cond_false] at h
  ·cases h
  ·obtain ⟨_,q2,e2,h⟩:=Rs.bind_inv h
   obtain ⟨ty,q3,e3,h⟩:=Rs.bind_inv h
   obtain ⟨_,q4,e4,h⟩:=Rs.bind_inv h
   refine apn (by rw [afa e4,alw e3,afa e2,afa e1];exact hs.tail.tail.tail.tail.tail.tail) (fun h=>by cases h) h
theorem apm {v:PV} (h:Flat v):F57 0 v v=some true:=by
 obtain ⟨a,n,t,rfl⟩:=h
 unfold F57
 refine apb 1 fun d hd=>?_
 obtain ⟨d,rfl⟩:∃ m,d=m+1:=⟨d-1,by omega⟩
 unfold G57 B57
 simp only [adn,PV.fld,PV.asInt,PV.asStr,PV.asList,bne_self_eq_false,beq_self_eq_true,cond_true,cond_false,List.getD_cons_zero,List.getD_cons_succ,Bool.not_true,aaq]
 rw [aac (step:=B57_5step 0 (G57 0 d)) (y:=.inr ((),(),adn a n t,adn a n t)) rfl]
 simp only [Option.bind_some,aa3]
 rw [aac (step:=B57_10step 0 (G57 0 d)) (y:=.inr ((),(),adn a n t,adn a n t)) rfl]
 simp only [Option.bind_some,aa3]
 rw [aac (step:=B57_15step 0 (G57 0 d)) (y:=.inr ((),(),adn a n t,adn a n t)) rfl]
 simp only [Option.bind_some,aa3]
 rw [aac (step:=B57_20step 0 (G57 0 d)) (y:=.inr (adn a n t,adn a n t)) rfl]
 rfl
theorem allT:∀ k i:Nat,allF (fun _=>true) i k=true
 | 0,_=>rfl
 | k+1,i=>by rw [allF,allT k (i+1)];rfl
theorem auu (l:List PV) (hl:l.length<=1048576) (hf:∀ x,x∈l->as4 x):F58 0 l l=some true:=by
 unfold F58
 have hlp:=ai9 (step:=S58_5step 0) (fun i=>(l,l,(i:Int))) l.length (fun _=>true) (.inl false) (.inr ())
  (fun i hi=>by
   obtain ⟨s,w,hw,hfl⟩:=hf _ (aj5 hi .bad)
   have hv:=apm hfl
   simp only [S58_5step,S58_5,ac0,hi,decide_true,cond_true,aab,Int.toNat_natCast,ab2 (show i<=9223372036854775000 by omega),hw,beq_self_eq_true,Bool.not_true,Bool.not_false,imp,cond_false]
   rw [show (PV.agg [PV.str s,w]).fld 1=w from rfl,hv];rfl)
  (by simp only [S58_5step,S58_5,ac0,Nat.lt_irrefl,decide_false,cond_false]) l.length 0 (by omega)
 simp only [bne_self_eq_false,cond_false,aaq]
 rw [show (0:Int)=((0:Nat):Int) from rfl,hlp]
 rw [allT]
 rfl
theorem atd {v:PV} (h:a7j v) (hl:(v.fld 8).asList.length<=1048576):F27 0 v v=some true:=by
 obtain ⟨num,nm,card,key,ty,un,hd,df,nts,rfl,hf,hn⟩:=h
 have h1:=apm hf
 have h2:=auu nts hl hn
 unfold F27
 simp only [beq_self_eq_true,cond_true]
 rw [show (akx num nm card key ty un hd df nts).fld 7=df from rfl,show ((akx num nm card key ty un hd df nts).fld 8).asList=nts from rfl,h1]
 simp only [Option.bind_some,cond_true,h2]
theorem aq2:∀ (m:Nat) (l:List Tk) (acc:List PV),l.length<=m->∀ v r,ab3 parV aae l acc=.ok v r->v.length<=acc.length+l.length:=by
 intro m
 induction m with
 | zero=>
  intro l acc hm v r h
  have:l=[]:=List.eq_nil_of_length_eq_zero (by omega)
  subst this
  rw [aby] at h
  cases h
 | succ m ih=>
  intro l acc hm v r h
  rw [aby] at h
  obtain ⟨n,q,h1,h2⟩:=Rs.bind_inv h
  have hl:=akl parV aae l n q h1
  cases h3:isS 4 [93] q<;>simp only [h3,cond_true,cond_false] at h2
  ·cases h4:isS 4 [44] q<;>simp only [h4,cond_true,cond_false] at h2
   ·cases h2
   ·have:=ih q.tail _ (by have:=ab1 q;omega) v r h2
    have:=ab1 q
    simp only [List.length_append,List.length_cons,List.length_nil] at *;omega
  ·cases h2;simp only [List.length_append,List.length_cons,List.length_nil];omega
theorem ao5 {l r:List Tk}{v:List PV} (h:acw parV aae l=.ok v r):v.length<=l.length:=by
 unfold acw at h
 cases h1:isS 4 [91] l<;>simp only [h1,cond_true,cond_false] at h
 ·cases h;simp
 ·have:=aq2 _ _ [] (Nat.le_refl _) v r h
  have:=ab1 l
  simp only [List.length_nil] at *;omega
theorem am4 {card key:Int}{ty:PV}{un:List UInt8}{wd:Bool}{l r:List Tk}{v:PV} (h:aim parV aae card key ty un wd l=.ok v r):(v.fld 8).asList.length<=l.length:=by
 obtain ⟨nm,r1,e1,h⟩:=Rs.bind_inv h
 obtain ⟨_,r2,e2,h⟩:=Rs.bind_inv h
 obtain ⟨n,r3,e3,h⟩:=Rs.bind_inv h
 obtain ⟨d,r4,e4,h⟩:=Rs.bind_inv h
 obtain ⟨nts,r5,e5,h⟩:=Rs.bind_inv h
 obtain ⟨_,r6,e6,h⟩:=Rs.bind_inv h
 cases h
 have h1:=ao5 e5
 have h2:r4.length<=r3.length:=by
  unfold aoj at e4
  cases hb:(wd&&isS 1 [100,101,102,97,117,108,116] r3)<;>simp only [hb,cond_true,cond_false] at e4
  ·cases e4;exact Nat.le_refl _
  ·obtain ⟨w,q,e7,e8⟩:=Rs.bind_inv e4
   cases e8
   have:=a3w parV _ _ _ _ e7
   have:=ab1 r3
   omega
 rw [aw5 e3,afa e2,anb e1] at h2
 have:=ab1 l
 have:=ab1 l.tail
 have:=ab1 l.tail.tail
 show nts.length<=_
 omega
theorem asc {l r:List Tk}{v:PV} (h:ad0 parV aae l=.ok v r):(v.fld 8).asList.length<=l.length:=by
 have tl:∀ q:List Tk,q.tail.length<=q.length:=ab1
 unfold ad0 at h
 cases h1:isS 1 [109,97,112] l<;>simp only [h1,cond_true,cond_false] at h
 ·cases h2:(aap l==1&&!(ai7 (abw l)==0))<;>simp only [h2,cond_true,cond_false] at h
  ·cases h
  ·obtain ⟨ty,q,e1,h⟩:=Rs.bind_inv h
   have:=am4 h
   rw [alw e1] at this
   have:=tl l;have:=tl l.tail
   omega
 ·obtain ⟨_,q,e1,h⟩:=Rs.bind_inv h
  cases h2:(aap q==1&&!(aex (abw q)==0))<;>simp only [h2,cond_true,cond_false] at h
  ·cases h
  ·obtain ⟨_,q2,e2,h⟩:=Rs.bind_inv h
   obtain ⟨ty,q3,e3,h⟩:=Rs.bind_inv h
   obtain ⟨_,q4,e4,h⟩:=Rs.bind_inv h
   have:=am4 h
   rw [afa e4,alw e3,afa e2,afa e1] at this
   have:=tl l;have:=tl l.tail;have:=tl l.tail.tail;have:=tl l.tail.tail.tail;have:=tl l.tail.tail.tail.tail;have:=tl l.tail.tail.tail.tail.tail
   omega
end
end Go.Ab
namespace Go.Ab
open Go
set_option maxRecDepth 100000
end Go.Ab
