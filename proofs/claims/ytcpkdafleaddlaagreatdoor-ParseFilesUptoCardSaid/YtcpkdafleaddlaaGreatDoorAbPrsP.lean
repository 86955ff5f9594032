/- strconv.ParseUint and strconv.ParseInt at base 10 (ParseUint: 16, too) and 64 bits: a number, or an error that is not nil. -/
import Derived.Test.YtcpkdafleaddlaaGreatDoorAbHexP
import Derived.Lib.AtoiErrMem
set_option linter.unusedVariables false
set_option linter.unusedSimpArgs false
set_option linter.unnecessarySimpa false
namespace Go.Ab
open Go Go.Proofs Go.Shelf Go.RowKit Go.Sort Go.Lib
theorem a3w {ow:Own}{w:World} (h:Tabs Tryz.prog ow w):(∃ t p,w.cell? ⟨2,0,none⟩=some (.iface t p))/\∃ t p,w.cell? ⟨3,0,none⟩=some (.iface t p):=by
 have o:Tryz.prog.globalNamed "strconv.ErrSyntax"=some 2:=by kernel_rfl
 have z:Tryz.prog.globalNamed "strconv.ErrRange"=some 3:=by kernel_rfl
 constructor
 ·obtain ⟨_,cs,T,m,d,t,p,rfl⟩:=h ("strconv.ErrSyntax",λcs=>∃ t p,cs=#[.iface t p]) (by simp [akm]) _ o;exact ⟨t,p,by simp [World.cell?,d]⟩
 ·obtain ⟨_,cs,T,m,d,t,p,rfl⟩:=h ("strconv.ErrRange",λcs=>∃ t p,cs=#[.iface t p]) (by simp [akm]) _ z;exact ⟨t,p,by simp [World.cell?,d]⟩
theorem aqa {P:Program}{D:Dom}{w:World}{k:IntKind}{n:Int}{t:TypeId}{u:Value}:atg P D w (ad2 [.int k n,.eif false]) (.tuple #[.int k n,.iface t u]):=λo z st'=>by
 refine .tup (by simp [ad2]) (λi s v d m=>?_);match i,d,m with
 | 0,d,m=>simp at d m;subst d m;exact .int
 | 1,d,m=>simp at d m;subst d m;exact .eif (λh=>by cases h) (λ_=>⟨_,_,rfl⟩)
 | i+2,d,m=>simp at d
theorem bcy {P:Program}{D:Dom}{w:World}{k:IntKind}{n:Int}:atg P D w (ad2 [.int k n,.eif true]) (.tuple #[.int k n,.nilIface]):=λo z st'=>by
 refine .tup (by simp [ad2]) (λi s v d m=>?_);match i,d,m with
 | 0,d,m=>simp at d m;subst d m;exact .int
 | 1,d,m=>simp at d m;subst d m;exact .eif (λ_=>rfl) (λh=>by cases h)
 | i+2,d,m=>simp at d
theorem be0 {P:Program}{D:Dom}{ow:Own}{μ:Nat->Nat}{st:List BX}{w:World}{s t r:SV}{m:Array Value} (d:Pre P D ow μ st w [s,t,r] m):∃ u v x,m=#[u,v,x]/\SRep P D w ow μ st s u/\SRep P D w ow μ st t v/\SRep P D w ow μ st r x:=by
 have:=d.size;match m,this,d with
 | ⟨[a,b,c]⟩,_,d=>exact ⟨a,b,c,rfl,d.arg 0 _ a rfl rfl,d.arg 1 _ b rfl rfl,d.arg 2 _ c rfl rfl⟩
def abu:Lib.NumEnd Nat->Int×Bool
 | .ok u=>((u:Int),true)
 | .range=>(18446744073709551615,false)
 | _=>(0,false)
theorem a0g {d:Type}{b:Bool}{x:Option d}{y:d} (h:(bif b then x else none)=some y):b=true/\x=some y:=by
 cases b with
 | true=>exact ⟨rfl,h⟩
 | false=>cases h
def acl (m:Nat) (s:Bq) (base d:Int):Option (Int×Bool):=
 bif decide (d=64)&&Nat.ble s.length 281474976710656 then (bif decide (base=10) then some (abu (Lib.parseUintB 64 s)) else bif decide (base=16) then some (abu (acg s)) else none) else none
def agp (d:Nat):CallE:={ f:=236,A:=⟨3,[],[.str,.int .i64,.int .i64]⟩,R:=⟨2,[],[.int .u64,.eif]⟩,F:=λx=>acl d x.1 x.2.1 x.2.2,dflt:=(0,false) }
theorem ahl (m:Nat):(agp m).Ok Tryz.prog:=by
 intro x y h;obtain ⟨s,base,M⟩:=x;have h:acl m s base M=some y:=h;unfold acl at h;obtain ⟨Z,o⟩:=a0g h;simp only [Ai,Nat.ble_eq,Ay] at Z;obtain ⟨rfl,hl⟩:=Z;refine adp (aa5 Tryz.func236 (by kernel_rfl) (by kernel_rfl)) (λD ow μ w aa V=>?_);obtain ⟨v,b,c,rfl,h1,h2,h3⟩:=be0 V;cases h1;cases h2;cases h3;obtain ⟨⟨t1,p1,X⟩,t2,p2,Y⟩:=a3w V.tabs;have W:(⟨s.toArray⟩:ByteArray).size<=281474976710656:=by simpa [ByteArray.size] using hl
 have H:(⟨s.toArray⟩:ByteArray).data.toList=s:=by simp
 by_cases O:base=10
 ·subst O;rw [Ah rfl,Ad] at o;cases o;cases z:Lib.parseUintB 64 s
  ·rename_i u;refine (Tryz.strconv_ParseUint_10_at64_ok ⟨s.toArray⟩ (by omega) u (by rw [H];exact z) w).mono ?_;rintro e w' ⟨rfl,d⟩;refine ⟨_,rfl,bcy,?_⟩;rcases d with rfl | rfl
   ·exact Below.refl _ _
   ·exact Lib.bytesWorld_below _ _ _
  ·refine (Any.strconv_ParseUint_10_at64_syntax Tryz.laysPu14 ⟨s.toArray⟩ W (by rw [H];exact z) _ w X (Or.inr ⟨_,_,rfl⟩)).mono ?_;rintro e w' ⟨N,rfl,_,_,d⟩;exact ⟨_,rfl,aqa,d⟩
  ·refine (Tryz.strconv_ParseUint_10_at64_range ⟨s.toArray⟩ W (by rw [H];exact z) _ w Y (Or.inr ⟨_,_,rfl⟩)).mono ?_;rintro e w' ⟨N,rfl,_,_,d⟩;exact ⟨_,rfl,aqa,d⟩
 ·rw [Al O,Ae] at o;by_cases U:base=16
  ·subst U;rw [Ah rfl,Ad] at o;cases o;cases z:acg s
   ·rename_i u;refine (a5w Tryz.laysPu14 ⟨s.toArray⟩ (by omega) u (by rw [H];exact z) w).mono ?_;rintro e w' ⟨rfl,d⟩;refine ⟨_,rfl,bcy,?_⟩;rcases d with rfl | rfl
    ·exact Below.refl _ _
    ·exact Lib.bytesWorld_below _ _ _
   ·refine (a1c Tryz.laysPu14 ⟨s.toArray⟩ W (by rw [H];exact z) _ w X (Or.inr ⟨_,_,rfl⟩)).mono ?_;rintro e w' ⟨N,rfl,d⟩;exact ⟨_,rfl,aqa,d⟩
   ·refine (auw Tryz.laysPu14 ⟨s.toArray⟩ W (by rw [H];exact z) _ w Y (Or.inr ⟨_,_,rfl⟩)).mono ?_;rintro e w' ⟨N,rfl,d⟩;exact ⟨_,rfl,aqa,d⟩
  ·rw [Al U] at o;cases o
def al4 (s:Bq):Lib.NumEnd Int->Int×Bool
 | .ok u=>(u,true)
 | .range=>(Lib.intSat 64 s,false)
 | _=>(0,false)
def afw (m:Nat) (s:Bq) (base d:Int):Option (Int×Bool):=
 bif decide (base=10)&&decide (d=64)&&Nat.ble s.length 281474976710656 then some (al4 s (Lib.parseIntB 64 s)) else none
def apy (d:Nat):CallE:={ f:=358,A:=⟨3,[],[.str,.int .i64,.int .i64]⟩,R:=⟨2,[],[.int .i64,.eif]⟩,F:=λx=>afw d x.1 x.2.1 x.2.2,dflt:=(0,false) }
theorem avx (d:Nat):(apy d).Ok Tryz.prog:=by
 intro x y h;obtain ⟨s,base,m⟩:=x;have h:afw d s base m=some y:=h;unfold afw at h;obtain ⟨O,rfl⟩:=abm h;simp only [Ai,Nat.ble_eq,Ay] at O;obtain ⟨⟨rfl,rfl⟩,hl⟩:=O;refine adp (aa5 Tryz.func358 (by kernel_rfl) (by kernel_rfl)) (λD ow μ w V z=>?_);obtain ⟨v,b,c,rfl,Y,Z,h3⟩:=be0 z;cases Y;cases Z;cases h3;obtain ⟨⟨t1,p1,W⟩,t2,p2,X⟩:=a3w z.tabs;have U:(⟨s.toArray⟩:ByteArray).size<=281474976710656:=by simpa [ByteArray.size] using hl
 have H:(⟨s.toArray⟩:ByteArray).data.toList=s:=by simp
 cases M:Lib.parseIntB 64 s
 ·rename_i u;refine (Tryz.strconv_ParseInt_10_at64_ok ⟨s.toArray⟩ (by omega) u (by rw [H];exact M) w).mono ?_;rintro e w' ⟨rfl,o⟩;refine ⟨_,rfl,bcy,?_⟩;rcases o with rfl | ⟨t,rfl⟩
  ·exact Below.refl _ _
  ·exact Lib.bytesWorld_below _ _ _
 ·refine (Any.strconv_ParseInt_10_at64_syntax Tryz.laysC174 ⟨s.toArray⟩ U (by rw [H];exact M) _ w W (Or.inr ⟨_,_,rfl⟩)).mono ?_;rintro e w' ⟨N,rfl,_,_,o⟩;exact ⟨_,rfl,aqa,o⟩
 ·refine (Tryz.strconv_ParseInt_10_at64_range ⟨s.toArray⟩ U (by rw [H];exact M) _ w X (Or.inr ⟨_,_,rfl⟩)).mono ?_;rintro e w' ⟨N,rfl,_,_,o⟩;have:=(aqa (P:=Tryz.prog) (D:=D) (w:=w') (k:=.i64) (n:=Lib.intSat 64 s) (t:=279) (u:=.pointer (some ⟨N,0,none⟩)));refine ⟨_,rfl,?_,o⟩;rw [H];exact this
end Go.Ab
