/- The numbers, texts, annotations and counts of a file: the same in the program and the specification. -/
import Derived.Test.YtodichgnoiaanaaGreatDoorPEveryT
set_option linter.unusedVariables false
set_option linter.unusedSimpArgs false
set_option linter.unnecessarySimpa false
namespace Go.Ab
open Go
set_option maxRecDepth 100000
theorem a4o (v:PV) (h:vLists v<=1048576):IntKind.wrap .i64 ((IntKind.wrap .i64 ((IntKind.wrap .i64 ((((v.fld 3).asList).length:Int)+(((v.fld 4).asList).length:Int)))+(((v.fld 5).asList).length:Int)))+(((v.fld 6).asList).length:Int))=((vLists v:Nat):Int):=by unfold vLists at h ⊢;have o:IntKind.wrap .i64 (((v.fld 3).asList.length:Int)+((v.fld 4).asList.length:Int))=(((v.fld 3).asList.length+(v.fld 4).asList.length:Nat):Int):=wadd (by omega);have z:IntKind.wrap .i64 ((((v.fld 3).asList.length+(v.fld 4).asList.length:Nat):Int)+((v.fld 5).asList.length:Int))=(((v.fld 3).asList.length+(v.fld 4).asList.length+(v.fld 5).asList.length:Nat):Int):=wadd (by omega);have H:IntKind.wrap .i64 ((((v.fld 3).asList.length+(v.fld 4).asList.length+(v.fld 5).asList.length:Nat):Int)+((v.fld 6).asList.length:Int))=(((v.fld 3).asList.length+(v.fld 4).asList.length+(v.fld 5).asList.length+(v.fld 6).asList.length:Nat):Int):=wadd (by omega);rw [o,z,H]
theorem a4n (a b c d:List PV):(bif (bif (bif ((a.length:Int)==(([]:List PV).length:Int)) then ((b.length:Int)==(([]:List PV).length:Int)) else false) then ((c.length:Int)==(([]:List PV).length:Int)) else false) then ((d.length:Int)==(([]:List PV).length:Int)) else false)=decide (a.length+b.length+c.length+d.length=0):=by cases a<;>cases b<;>cases c<;>cases d<;>simp<;>omega
def isV (k b:Int) (s:Bo) (v:PV):Bool:=(aa5 v==k)&&(ab4 v==b)&&(acs v==s)&&decide (vLists v=0)
theorem a9v (v:PV) (k b:Int) (s:Bo):F209 0 v (PV.agg [(PV.int k),(PV.int b),(PV.str s),(PV.slice []),(PV.slice []),(PV.slice []),(PV.slice [])])=some (isV k b s v):=by unfold F209 isV vLists aa5 ab4 acs;rw [<-a4n];show some (bif (bif (bif (bif (bif (bif ((v.fld 0).asInt==k) then ((v.fld 1).asInt==b) else false) then ((v.fld 2).asStr==s) else false) then _ else false) then _ else false) then _ else false) then _ else false)=_;generalize ((v.fld 0).asInt==k)=q1;generalize ((v.fld 1).asInt==b)=q2;generalize ((v.fld 2).asStr==s)=q3;cases q1<;>cases q2<;>cases q3<;>rfl
noncomputable def at6 (v:PV):Bool:=(aa5 v==9)&&alr (acs v)&&(ab4 v==0)&&decide (vLists v=0)
theorem a9d (v:PV) (H:ac7 v):F201 0 v=some (at6 v):=by have e:(((vLists v:Nat):Int)==(0:Int))=decide (vLists v=0):=nbeq _ 0;have h:(v.fld 0).asInt=aa5 v:=rfl;have o:(v.fld 1).asInt=ab4 v:=rfl;have z:(v.fld 2).asStr=acs v:=rfl;unfold F201 at6;simp only [a4o v H.1,e,h,o,z,a0f];grind
theorem a8r (v:PV) (z:ac7 v):F196 0 v=some (at6 v):=by have h:(v.fld 0).asInt=aa5 v:=rfl;have o:(v.fld 2).asStr=acs v:=rfl;unfold F196 at6;simp only [h,o,a5y (acs v) (by have:=z.2.1;omega),a9v];unfold isV;grind
theorem a7m {v:PV} (o:ac7 v):∃ u:Nat,ab4 v=(u:Int)/\u<18446744073709551616:=by obtain ⟨_,_,h,z⟩:=o;exact ⟨(ab4 v).toNat,(Int.toNat_of_nonneg h).symm,by omega⟩
def un (l:List PV) (i:Nat):Bo:=((l.getD i .bad).fld 5).asStr
end Go.Ab
namespace Go.Ab
open Go
set_option maxRecDepth 100000
theorem avm (s:Bo) (h:s.length<=1048576):F59 0 s=some (alr s):=by
 unfold F59 alr;rw [agl s (by omega)];cases aeh s with
 | true=>simp only [Aa,Af,aiv,Bool.true_and]
 | false=>grind
theorem a8h {s:Bo} (h:ams s=true):s.length<=120:=by grind [ams]
theorem avl:∀ (m i:Nat) (s:Bo),s.length<=m->s.length+i<=120->(s=[]\/∀ p,p∈aa8 46 s->p≠[])->
 aa3 (S58_5step 0) (s,(i:Int))=some (bif s==[]||(aa8 46 s).all λx=>!apy x then .inr () else .inl false):=by
 intro m
 induction m with
 | zero=>grind [List.eq_nil_of_length_eq_zero,aai,S58_5step,S58_5,decide]
 | succ m ih=>
  intro i s hm hs hp
  cases s with
  | nil=>grind
  | cons c r=>
   have I:((c::r)==([]:Bo))=false:=rfl
   have hi:decide ((i:Int)<120)=true:=Ag (by grind)
   obtain ⟨H,z,h1,M⟩:=axa (c::r) (by omega)
   have J:∀ p,p∈aa8 46 (c::r)->p≠[]:=by grind
   have o:S58_5step 0 (c::r,(i:Int))=some (bif apy z then .inr (.inl false) else .inl (H,((i+1:Nat):Int))):=by simp only [S58_5step,S58_5,I,hi,Av,Af,h1,Aa,aiv,a1g (show i<=9223372036854775000 by omega)];grind
   rcases M with ⟨M,h3⟩ | ⟨rfl,rfl,h3⟩
   ·have aa:H.length<(c::r).length:=by rw [M];simp
    have ad:aa8 46 (c::r)=aa8 46 H++[z]:=by grind [a06,au9]
    have Z:H≠[]:=by intro e;exact J [] (by grind [aa8]) rfl
    have ab:(H==([]:Bo))=false:=by simpa using Z
    have O:∀ p,p∈aa8 46 H->p≠[]:=λp h=>J p (by grind);have hi:=ih (i+1) H (by omega) (by omega) (Or.inr O);grind [apy,aai,aao]
   ·rw [au9 _ _ h3,I];cases hw:apy (c::r) with
    | true=>grind [aai]
    | false=>rw [hw] at o;rw [aao o,aai (y:=.inr ()) (by grind [S58_5step,S58_5,decide])];simp [hw]
theorem a1e (s:Bo) (M:s.length<=1048576):F58 0 s=some (defP s):=by
 unfold F58 defP;rw [aiu s M,Aa];cases H:ams s with
 | false=>rfl
 | true=>
  have o:(aa8 46 s).all aeh=true:=by unfold ams at H;grind
  have I:s≠[]:=by grind [aa8,aeh]
  have z:(s==([]:Bo))=false:=by simpa using I
  have h:=avl s.length 0 s (by omega) (a8h H) (Or.inr λp J=>a9i (Bj.1 o p J));simp only [Ay,Ah,aec];rw [show (0:Int)=((0:Nat):Int) from rfl,h,z];cases (aa8 46 s).all λx=>!apy x<;>rfl
end Go.Ab
namespace Go.Ab
open Go
set_option maxRecDepth 100000
noncomputable def ahi (t:PV):Bo:=
 bif aop (t.fld 0).asInt&&((t.fld 1).asStr==[]) then kw (t.fld 0).asInt else
 bif (((t.fld 0).asInt==0)||((t.fld 0).asInt==9)||((t.fld 0).asInt==10))&&avj (t.fld 1).asStr then (t.fld 1).asStr else []
theorem a6r (t:PV) (h:(t.fld 1).asStr.length<=1048576):F162 0 t=some (ahi t):=by grind [F162,ahi,a9j,bcf,a3u,aop,asInt,avj]
theorem aql (t:PV) (h:(t.fld 1).asStr.length<=1048576):F146 0 t=some (ahi t):=by grind [F146,ahi,a9q,bd2,bar,aop,asInt,avj]
theorem avk (t:PV) (h:(t.fld 1).asStr.length<=1048576):(ahi t).length<=1048576:=by grind [a4g,asInt,ahi]
noncomputable def litT (v:PV):Bo:=
 bif at6 v then acs v else bif !ad8 (aa5 v) v then [] else bif (aa5 v==6)||(aa5 v==8) then aor (ah9 v) else ah9 v
theorem axt {v:PV} (H:ac7 v) (h:ad8 (aa5 v) v=true) (o:((aa5 v==6)||(aa5 v==8))=true):(ah9 v).length<=100000:=by
 unfold ah9;rw [h];simp only [Af];cases z:aa5 v==6 with
 | true=>simp only [Af];grind [ajg,arl,ab4,ai5,decide]
 | false=>rw [z,Bool.false_or] at o;grind [aig,agk,acs,hex2,am1]
theorem bd5 (v:PV) (h:ac7 v):F188 0 v=some (litT v):=by
 have o:(v.fld 0).asInt=aa5 v:=rfl;have z:(v.fld 2).asStr=acs v:=rfl;unfold F188 litT;simp only [o,z,a9d _ h,am0 _ _ h,bao _ h,Aa];cases at6 v with
 | true=>rfl
 | false=>
  cases I:ad8 (aa5 v) v with
  | false=>rfl
  | true=>
   rw [aye];cases H:((aa5 v==6)||(aa5 v==8)) with
   | false=>rfl
   | true=>have:=axt h I H;simp only [Af,Ah,Ay,asa _ (show (ah9 v).length<=1048576 by omega),Aa]
theorem a5m (v:PV) (h:ac7 v):F182 0 v=some (litT v):=by
 have o:(v.fld 0).asInt=aa5 v:=rfl;have z:(v.fld 2).asStr=acs v:=rfl;unfold F182 litT;simp only [o,z,a8r _ h,ad0 _ _ h,axb _ h,Aa];cases at6 v with
 | true=>rfl
 | false=>
  cases I:ad8 (aa5 v) v with
  | false=>rfl
  | true=>
   rw [aye];cases H:((aa5 v==6)||(aa5 v==8)) with
   | false=>rfl
   | true=>have:=axt h I H;simp only [Af,Ah,Ay,ajp _ (show (ah9 v).length<=1048576 by omega),Aa]
theorem a9a (v:PV) (h:ac7 v):(litT v).length<=5000000:=by
 have o:=a6n v h.2.1;have z:=h.2.1;unfold litT;cases at6 v with
 | true=>grind
 | false=>
  simp only [Ah];cases H:ad8 (aa5 v) v with
  | false=>simp
  | true=>simp only [Ay,Ah];grind [aa5,axt,agk,ah9]
end Go.Ab
