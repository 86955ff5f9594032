/- strconv.ParseUint and strconv.ParseInt at base 10 (ParseUint: 16, too) and 64 bits: a number, or an error that is not nil. -/
import Derived.Test.YtcpkdafleaddlaaGreatDoorAbSrchP
import Derived.Lib.AtoiErrMem
import Derived.Test.YtcpkdafleaddlaaGreatDoorAbHexP
set_option linter.unusedVariables false
set_option linter.unusedSimpArgs false
set_option linter.unnecessarySimpa false
namespace Go.Ab
open Go Go.Proofs Go.Shelf Go.RowKit Go.Sort Go.Lib
theorem a12 {ow:Own}{w:World} (h:Tabs Tryz.prog ow w):(∃ t p,w.cell? ⟨2,0,none⟩=some (.iface t p))/\∃ t p,w.cell? ⟨3,0,none⟩=some (.iface t p):=by
 have g1:Tryz.prog.globalNamed "strconv.ErrSyntax"=some 2:=by kernel_rfl
 have g2:Tryz.prog.globalNamed "strconv.ErrRange"=some 3:=by kernel_rfl
 constructor
 ·obtain ⟨_,cs,T,fr,h1,t,p,rfl⟩:=h ("strconv.ErrSyntax",fun cs=>∃ t p,cs=#[.iface t p]) (by simp [ajs]) _ g1
  exact ⟨t,p,by simp [World.cell?,h1]⟩
 ·obtain ⟨_,cs,T,fr,h1,t,p,rfl⟩:=h ("strconv.ErrRange",fun cs=>∃ t p,cs=#[.iface t p]) (by simp [ajs]) _ g2
  exact ⟨t,p,by simp [World.cell?,h1]⟩
theorem apa {P:Program}{D:Dom}{w:World}{k:IntKind}{n:Int}{t:TypeId}{u:Value}:atn P D w (ado [.int k n,.eif false]) (.tuple #[.int k n,.iface t u]):=fun ow' μ' st'=>by
 refine .tup (by simp [ado]) (fun i s v hs hv=>?_)
 match i,hs,hv with
 | 0,hs,hv=>simp at hs hv;subst hs hv;exact .int
 | 1,hs,hv=>simp at hs hv;subst hs hv;exact .eif (fun h=>by cases h) (fun _=>⟨_,_,rfl⟩)
 | i+2,hs,hv=>simp at hs
theorem a9s {P:Program}{D:Dom}{w:World}{k:IntKind}{n:Int}:atn P D w (ado [.int k n,.eif true]) (.tuple #[.int k n,.nilIface]):=fun ow' μ' st'=>by
 refine .tup (by simp [ado]) (fun i s v hs hv=>?_)
 match i,hs,hv with
 | 0,hs,hv=>simp at hs hv;subst hs hv;exact .int
 | 1,hs,hv=>simp at hs hv;subst hs hv;exact .eif (fun _=>rfl) (fun h=>by cases h)
 | i+2,hs,hv=>simp at hs
theorem ba7 {P:Program}{D:Dom}{ow:Own}{μ:Nat->Nat}{st:List BX}{w:World}{s t r:SV}{vals:Array Value} (pre:Pre P D ow μ st w [s,t,r] vals):∃ u v x,vals=#[u,v,x]/\SRep P D w ow μ st s u/\SRep P D w ow μ st t v/\SRep P D w ow μ st r x:=by
 have:=pre.size
 match vals,this,pre with
 | ⟨[a,b,c]⟩,_,pre=>exact ⟨a,b,c,rfl,pre.arg 0 _ a rfl rfl,pre.arg 1 _ b rfl rfl,pre.arg 2 _ c rfl rfl⟩
def ab8:Lib.NumEnd Nat->Int×Bool
 | .ok u=>((u:Int),true)
 | .range=>(18446744073709551615,false)
 | _=>(0,false)
theorem ax8 {α:Type}{b:Bool}{x:Option α}{y:α} (h:(bif b then x else none)=some y):b=true/\x=some y:=by
 cases b with
 | true=>exact ⟨rfl,h⟩
 | false=>cases h
def acf (fuel:Nat) (s:List UInt8) (base bits:Int):Option (Int×Bool):=
 bif decide (bits=64)&&Nat.ble s.length 281474976710656 then (bif decide (base=10) then some (ab8 (Lib.parseUintB 64 s)) else bif decide (base=16) then some (ab8 (aci s)) else none) else none
def age (fuel:Nat):CallE:={ f:=236,A:=⟨3,[],[.str,.int .i64,.int .i64]⟩,R:=⟨2,[],[.int .u64,.eif]⟩,F:=fun x=>acf fuel x.1 x.2.1 x.2.2,dflt:=(0,false) }
theorem ahf (fuel:Nat):(age fuel).Ok Tryz.prog:=by
 intro x y h
 obtain ⟨s,base,bits⟩:=x
 have h:acf fuel s base bits=some y:=h
 unfold acf at h
 obtain ⟨hb,h5⟩:=ax8 h
 simp only [Bool.and_eq_true,Nat.ble_eq,decide_eq_true_eq] at hb
 obtain ⟨rfl,hl⟩:=hb
 refine adc (aay Tryz.func236 (by kernel_rfl) (by kernel_rfl)) (fun D ow μ w vals pre=>?_)
 obtain ⟨v,b,c,rfl,h1,h2,h3⟩:=ba7 pre
 cases h1;cases h2;cases h3
 obtain ⟨⟨t1,p1,c1⟩,t2,p2,c2⟩:=a12 pre.tabs
 have hs:(⟨s.toArray⟩:ByteArray).size<=281474976710656:=by simpa [ByteArray.size] using hl
 have hd:(⟨s.toArray⟩:ByteArray).data.toList=s:=by simp
 by_cases h10:base=10
 ·subst h10
  rw [decide_eq_true rfl,cond_true] at h5
  cases h5
  cases hr:Lib.parseUintB 64 s
  ·rename_i u
   refine (Tryz.strconv_ParseUint_10_at64_ok ⟨s.toArray⟩ (by omega) u (by rw [hd];exact hr) w).mono ?_
   rintro e w' ⟨rfl,hw⟩
   refine ⟨_,rfl,a9s,?_⟩
   rcases hw with rfl | rfl
   ·exact Below.refl _ _
   ·exact Lib.bytesWorld_below _ _ _
  ·refine (Any.strconv_ParseUint_10_at64_syntax Tryz.laysPu14 ⟨s.toArray⟩ hs (by rw [hd];exact hr) _ w c1 (Or.inr ⟨_,_,rfl⟩)).mono ?_
   rintro e w' ⟨N,rfl,_,_,hw⟩
   exact ⟨_,rfl,apa,hw⟩
  ·refine (Tryz.strconv_ParseUint_10_at64_range ⟨s.toArray⟩ hs (by rw [hd];exact hr) _ w c2 (Or.inr ⟨_,_,rfl⟩)).mono ?_
   rintro e w' ⟨N,rfl,_,_,hw⟩
   exact ⟨_,rfl,apa,hw⟩
 ·rw [decide_eq_false h10,cond_false] at h5
  by_cases h16:base=16
  ·subst h16
   rw [decide_eq_true rfl,cond_true] at h5
   cases h5
   cases hr:aci s
   ·rename_i u
    refine (a3v Tryz.laysPu14 ⟨s.toArray⟩ (by omega) u (by rw [hd];exact hr) w).mono ?_
    rintro e w' ⟨rfl,hw⟩
    refine ⟨_,rfl,a9s,?_⟩
    rcases hw with rfl | rfl
    ·exact Below.refl _ _
    ·exact Lib.bytesWorld_below _ _ _
   ·refine (ay8 Tryz.laysPu14 ⟨s.toArray⟩ hs (by rw [hd];exact hr) _ w c1 (Or.inr ⟨_,_,rfl⟩)).mono ?_
    rintro e w' ⟨N,rfl,hw⟩
    exact ⟨_,rfl,apa,hw⟩
   ·refine (ar3 Tryz.laysPu14 ⟨s.toArray⟩ hs (by rw [hd];exact hr) _ w c2 (Or.inr ⟨_,_,rfl⟩)).mono ?_
    rintro e w' ⟨N,rfl,hw⟩
    exact ⟨_,rfl,apa,hw⟩
  ·rw [decide_eq_false h16] at h5
   cases h5
def ao3 (s:List UInt8):Lib.NumEnd Int->Int×Bool
 | .ok u=>(u,true)
 | .range=>(Lib.intSat 64 s,false)
 | _=>(0,false)
def af1 (fuel:Nat) (s:List UInt8) (base bits:Int):Option (Int×Bool):=
 bif decide (base=10)&&decide (bits=64)&&Nat.ble s.length 281474976710656 then some (ao3 s (Lib.parseIntB 64 s)) else none
def ao7 (fuel:Nat):CallE:={ f:=358,A:=⟨3,[],[.str,.int .i64,.int .i64]⟩,R:=⟨2,[],[.int .i64,.eif]⟩,F:=fun x=>af1 fuel x.1 x.2.1 x.2.2,dflt:=(0,false) }
theorem avm (fuel:Nat):(ao7 fuel).Ok Tryz.prog:=by
 intro x y h
 obtain ⟨s,base,bits⟩:=x
 have h:af1 fuel s base bits=some y:=h
 unfold af1 at h
 obtain ⟨hb,rfl⟩:=abc h
 simp only [Bool.and_eq_true,Nat.ble_eq,decide_eq_true_eq] at hb
 obtain ⟨⟨rfl,rfl⟩,hl⟩:=hb
 refine adc (aay Tryz.func358 (by kernel_rfl) (by kernel_rfl)) (fun D ow μ w vals pre=>?_)
 obtain ⟨v,b,c,rfl,h1,h2,h3⟩:=ba7 pre
 cases h1;cases h2;cases h3
 obtain ⟨⟨t1,p1,c1⟩,t2,p2,c2⟩:=a12 pre.tabs
 have hs:(⟨s.toArray⟩:ByteArray).size<=281474976710656:=by simpa [ByteArray.size] using hl
 have hd:(⟨s.toArray⟩:ByteArray).data.toList=s:=by simp
 cases hr:Lib.parseIntB 64 s
 ·rename_i u
  refine (Tryz.strconv_ParseInt_10_at64_ok ⟨s.toArray⟩ (by omega) u (by rw [hd];exact hr) w).mono ?_
  rintro e w' ⟨rfl,hw⟩
  refine ⟨_,rfl,a9s,?_⟩
  rcases hw with rfl | ⟨t,rfl⟩
  ·exact Below.refl _ _
  ·exact Lib.bytesWorld_below _ _ _
 ·refine (Any.strconv_ParseInt_10_at64_syntax Tryz.laysC174 ⟨s.toArray⟩ hs (by rw [hd];exact hr) _ w c1 (Or.inr ⟨_,_,rfl⟩)).mono ?_
  rintro e w' ⟨N,rfl,_,_,hw⟩
  exact ⟨_,rfl,apa,hw⟩
 ·refine (Tryz.strconv_ParseInt_10_at64_range ⟨s.toArray⟩ hs (by rw [hd];exact hr) _ w c2 (Or.inr ⟨_,_,rfl⟩)).mono ?_
  rintro e w' ⟨N,rfl,_,_,hw⟩
  have:=(apa (P:=Tryz.prog) (D:=D) (w:=w') (k:=.i64) (n:=Lib.intSat 64 s) (t:=279) (u:=.pointer (some ⟨N,0,none⟩)))
  refine ⟨_,rfl,?_,hw⟩
  rw [hd]
  exact this
end Go.Ab
