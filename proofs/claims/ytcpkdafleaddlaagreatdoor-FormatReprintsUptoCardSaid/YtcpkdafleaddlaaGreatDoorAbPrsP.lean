/- strconv.ParseUint and strconv.ParseInt at base 10 (ParseUint: 16, too) and 64 bits: a number, or an error that is not nil. -/
import Derived.Test.YtcpkdafleaddlaaGreatDoorAbHexP
import Derived.Lib.AtoiErrMem
set_option linter.unusedVariables false
set_option linter.unusedSimpArgs false
set_option linter.unnecessarySimpa false
namespace Go.Ab
open Go Go.Proofs Go.Shelf Go.RowKit Go.Sort Go.Lib
theorem ba0 {ow:Own}{w:World} (h:Tabs Tryz.prog ow w):(∃ t p,w.cell? ⟨2,0,none⟩=some (.iface t p))/\∃ t p,w.cell? ⟨3,0,none⟩=some (.iface t p):=by
 have o:Tryz.prog.globalNamed "strconv.ErrSyntax"=some 2:=by kernel_rfl
 have z:Tryz.prog.globalNamed "strconv.ErrRange"=some 3:=by kernel_rfl
 constructor
 ·obtain ⟨_,cs,T,m,d,t,p,rfl⟩:=h ("strconv.ErrSyntax",λcs=>∃ t p,cs=#[.iface t p]) (by simp [ame]) _ o;exact ⟨t,p,by simp [World.cell?,d]⟩
 ·obtain ⟨_,cs,T,m,d,t,p,rfl⟩:=h ("strconv.ErrRange",λcs=>∃ t p,cs=#[.iface t p]) (by simp [ame]) _ z;exact ⟨t,p,by simp [World.cell?,d]⟩
theorem atl {P:Program}{D:Dom}{w:World}{k:IntKind}{n:Int}{t:TypeId}{u:Value}:awx P D w (aet [.int k n,.eif false]) (.tuple #[.int k n,.iface t u]):=λo z st'=>by
 refine .tup (by simp [aet]) (λi s v d m=>?_);match i,d,m with
 | 0,d,m=>simp at d m;subst d m;exact .int
 | 1,d,m=>simp at d m;subst d m;exact .eif (λh=>by cases h) (λ_=>⟨_,_,rfl⟩)
 | i+2,d,m=>simp at d
theorem bl5 {P:Program}{D:Dom}{w:World}{k:IntKind}{n:Int}:awx P D w (aet [.int k n,.eif true]) (.tuple #[.int k n,.nilIface]):=λo z st'=>by
 refine .tup (by simp [aet]) (λi s v d m=>?_);match i,d,m with
 | 0,d,m=>simp at d m;subst d m;exact .int
 | 1,d,m=>simp at d m;subst d m;exact .eif (λ_=>rfl) (λh=>by cases h)
 | i+2,d,m=>simp at d
theorem bpl {P:Program}{D:Dom}{ow:Own}{μ:Nat->Nat}{st:List BX}{w:World}{s t r:SV}{m:Array Value} (d:Pre P D ow μ st w [s,t,r] m):∃ u v x,m=#[u,v,x]/\SRep P D w ow μ st s u/\SRep P D w ow μ st t v/\SRep P D w ow μ st r x:=by
 have:=d.size;match m,this,d with
 | ⟨[a,b,c]⟩,_,d=>exact ⟨a,b,c,rfl,d.arg 0 _ a rfl rfl,d.arg 1 _ b rfl rfl,d.arg 2 _ c rfl rfl⟩
def ac4:Lib.NumEnd Nat->Int×Bool
 | .ok u=>((u:Int),true)
 | .range=>(18446744073709551615,false)
 | _=>(0,false)
theorem a6n {d:Type}{b:Bool}{x:Option d}{y:d} (h:(bif b then x else none)=some y):b=true/\x=some y:=by
 cases b with
 | true=>exact ⟨rfl,h⟩
 | false=>cases h
def ace (m:Nat) (s:Bo) (base d:Int):Option (Int×Bool):=
 bif decide (d=64)&&Nat.ble s.length 281474976710656 then (bif decide (base=10) then some (ac4 (Lib.parseUintB 64 s)) else bif decide (base=16) then some (ac4 (aez s)) else none) else none
def ahq (d:Nat):CallE:={ f:=236,A:=⟨3,[],[.str,.int .i64,.int .i64]⟩,R:=⟨2,[],[.int .u64,.eif]⟩,F:=λx=>ace d x.1 x.2.1 x.2.2,dflt:=(0,false) }
theorem ail (m:Nat):(ahq m).Ok Tryz.prog:=by
 intro x y h;obtain ⟨s,base,M⟩:=x;have h:ace m s base M=some y:=h;unfold ace at h;obtain ⟨Z,o⟩:=a6n h;simp only [Ag,Nat.ble_eq,Aw] at Z;obtain ⟨rfl,hl⟩:=Z;refine ac0 (aaz Tryz.func236 (by kernel_rfl) (by kernel_rfl)) (λD ow μ w aa V=>?_);obtain ⟨v,b,c,rfl,h1,h2,h3⟩:=bpl V;cases h1;cases h2;cases h3;obtain ⟨⟨t1,p1,X⟩,t2,p2,Y⟩:=ba0 V.tabs;have W:(⟨s.toArray⟩:ByteArray).size<=281474976710656:=by simpa [ByteArray.size] using hl
 have H:(⟨s.toArray⟩:ByteArray).data.toList=s:=by simp
 by_cases O:base=10
 ·subst O;rw [Aj rfl,Ad] at o;cases o;cases z:Lib.parseUintB 64 s
  ·rename_i u;refine (Tryz.strconv_ParseUint_10_at64_ok ⟨s.toArray⟩ (by omega) u (by rw [H];exact z) w).mono ?_;rintro e w' ⟨rfl,d⟩;refine ⟨_,rfl,bl5,?_⟩;rcases d with rfl | rfl
   ·exact Below.refl _ _
   ·exact Lib.bytesWorld_below _ _ _
  ·refine (Any.strconv_ParseUint_10_at64_syntax Tryz.laysPu14 ⟨s.toArray⟩ W (by rw [H];exact z) _ w X (Or.inr ⟨_,_,rfl⟩)).mono ?_;rintro e w' ⟨N,rfl,_,_,d⟩;exact ⟨_,rfl,atl,d⟩
  ·refine (Tryz.strconv_ParseUint_10_at64_range ⟨s.toArray⟩ W (by rw [H];exact z) _ w Y (Or.inr ⟨_,_,rfl⟩)).mono ?_;rintro e w' ⟨N,rfl,_,_,d⟩;exact ⟨_,rfl,atl,d⟩
 ·rw [Al O,Ae] at o;by_cases U:base=16
  ·subst U;rw [Aj rfl,Ad] at o;cases o;cases z:aez s
   ·rename_i u;refine (bc4 Tryz.laysPu14 ⟨s.toArray⟩ (by omega) u (by rw [H];exact z) w).mono ?_;rintro e w' ⟨rfl,d⟩;refine ⟨_,rfl,bl5,?_⟩;rcases d with rfl | rfl
    ·exact Below.refl _ _
    ·exact Lib.bytesWorld_below _ _ _
   ·refine (a8k Tryz.laysPu14 ⟨s.toArray⟩ W (by rw [H];exact z) _ w X (Or.inr ⟨_,_,rfl⟩)).mono ?_;rintro e w' ⟨N,rfl,d⟩;exact ⟨_,rfl,atl,d⟩
   ·refine (ays Tryz.laysPu14 ⟨s.toArray⟩ W (by rw [H];exact z) _ w Y (Or.inr ⟨_,_,rfl⟩)).mono ?_;rintro e w' ⟨N,rfl,d⟩;exact ⟨_,rfl,atl,d⟩
  ·rw [Al U] at o;cases o
def aot (s:Bo):Lib.NumEnd Int->Int×Bool
 | .ok u=>(u,true)
 | .range=>(Lib.intSat 64 s,false)
 | _=>(0,false)
def agt (m:Nat) (s:Bo) (base d:Int):Option (Int×Bool):=
 bif decide (base=10)&&decide (d=64)&&Nat.ble s.length 281474976710656 then some (aot s (Lib.parseIntB 64 s)) else none
def as9 (d:Nat):CallE:={ f:=358,A:=⟨3,[],[.str,.int .i64,.int .i64]⟩,R:=⟨2,[],[.int .i64,.eif]⟩,F:=λx=>agt d x.1 x.2.1 x.2.2,dflt:=(0,false) }
theorem az0 (d:Nat):(as9 d).Ok Tryz.prog:=by
 intro x y h;obtain ⟨s,base,m⟩:=x;have h:agt d s base m=some y:=h;unfold agt at h;obtain ⟨O,rfl⟩:=abh h;simp only [Ag,Nat.ble_eq,Aw] at O;obtain ⟨⟨rfl,rfl⟩,hl⟩:=O;refine ac0 (aaz Tryz.func358 (by kernel_rfl) (by kernel_rfl)) (λD ow μ w V z=>?_);obtain ⟨v,b,c,rfl,Y,Z,h3⟩:=bpl z;cases Y;cases Z;cases h3;obtain ⟨⟨t1,p1,W⟩,t2,p2,X⟩:=ba0 z.tabs;have U:(⟨s.toArray⟩:ByteArray).size<=281474976710656:=by simpa [ByteArray.size] using hl
 have H:(⟨s.toArray⟩:ByteArray).data.toList=s:=by simp
 cases M:Lib.parseIntB 64 s
 ·rename_i u;refine (Tryz.strconv_ParseInt_10_at64_ok ⟨s.toArray⟩ (by omega) u (by rw [H];exact M) w).mono ?_;rintro e w' ⟨rfl,o⟩;refine ⟨_,rfl,bl5,?_⟩;rcases o with rfl | ⟨t,rfl⟩
  ·exact Below.refl _ _
  ·exact Lib.bytesWorld_below _ _ _
 ·refine (Any.strconv_ParseInt_10_at64_syntax Tryz.laysC174 ⟨s.toArray⟩ U (by rw [H];exact M) _ w W (Or.inr ⟨_,_,rfl⟩)).mono ?_;rintro e w' ⟨N,rfl,_,_,o⟩;exact ⟨_,rfl,atl,o⟩
 ·refine (Tryz.strconv_ParseInt_10_at64_range ⟨s.toArray⟩ U (by rw [H];exact M) _ w X (Or.inr ⟨_,_,rfl⟩)).mono ?_;rintro e w' ⟨N,rfl,_,_,o⟩;have:=(atl (P:=Tryz.prog) (D:=D) (w:=w') (k:=.i64) (n:=Lib.intSat 64 s) (t:=279) (u:=.pointer (some ⟨N,0,none⟩)));refine ⟨_,rfl,?_,o⟩;rw [H];exact this
end Go.Ab
