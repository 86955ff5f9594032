/- What a row's reading gives is small enough (schemas). -/
import Derived.Test.YtjogoleiodbfdaaGreatAbEndZ
import Derived.Test.YtjogoleiodbfdaaGreatPTurnT
import Derived.Test.YtjogoleiodbfdaaGreatPUsesT
set_option linter.unusedVariables false
set_option linter.unusedSimpArgs false
set_option linter.unnecessarySimpa false
namespace Go.Ab
open Go Go.Proofs Go.Proofs.YtjogoleiodbfdaaGreat
theorem abb {P:Program}{n:Nat}{T:TypeId}{v:PV}{fs:Array Field} (h:aa3 P n T v) (hu:P.underlying T=some (.struct fs)) (i:Nat) (f:Field) (hf:fs[i]?=some f):∃ m,aa3 P m f.type (v.fld i):=by
 obtain ⟨vs,m,rfl,hl,hx⟩:=ae3 h hu
 have hi:i<vs.length:=by rw [hl];exact (Array.getElem?_eq_some_iff.1 hf).1
 refine ⟨m,hx i _ f ?_ hf⟩
 show vs[i]?=some (vs.getD i .bad)
 rw [aag hi]
 exact List.getElem?_eq_getElem hi
theorem ac7 {P:Program}{n:Nat}{T E:TypeId}{v:PV} (h:aa3 P n T v) (hu:P.underlying T=some (.slice E)):∀ x,x∈v.asList->∃ m,aa3 P m E x:=by
 obtain ⟨xs,m,rfl,hx⟩:=at0 h hu
 exact fun x hm=>⟨m,hx x hm⟩
theorem bfld {v:PV}{n:Nat} (hb:aad v<=n) (i:Nat):aad (v.fld i)<=n:=Nat.le_trans (aec v i) hb
theorem bel {v:PV}{n:Nat} (hb:aad v<=n):∀ x,x∈v.asList->aad x<=n:=fun x hx=>by
 have h1:=aga v
 have h2:=aci hx
 omega
theorem bstr {v:PV}{n:Nat} (hb:aad v<=n):v.asStr.length<=n:=by have:=asd v;omega
theorem ag6 {v:PV}{n:Nat} (hb:aad v<=n):v.asList.length<=n:=by have:=acd v;omega
theorem ali {n:Nat}{v:PV} (h:aa3 Tryz.prog n 33 v) (hb:aad v<=1048576):ajo v:=by
 obtain ⟨vs,m,rfl,hl,hf⟩:=ae3 h Tryz.underlying33
 match vs,hl with
 | [a0,a1,a2,a3,a4,a5,a6],_=>
  obtain ⟨b,rfl,hw⟩:=aso (hf 1 a1 _ rfl rfl) Tryz.underlying27
  have h3:=acd a3
  have h4:=acd a4
  have h5:=acd a5
  have h6:=acd a6
  have h2:=asd a2
  have hw:=bounds_u64 hw
  simp only [aad,aas] at hb
  refine ⟨?_,?_,?_,?_⟩
  ·show a3.asList.length+a4.asList.length+a5.asList.length+a6.asList.length<=1048576
   omega
  ·show a2.asStr.length<=1048576
   omega
  ·exact hw.1
  ·show b<18446744073709551616
   omega
theorem auf {n:Nat}{v:PV} (h:aa3 Tryz.prog n 76 v) (hb:aad v<=1048576):afg v:=by
 obtain ⟨m,g⟩:=abb h Tryz.underlying76 1 _ rfl
 exact ⟨ali g (bfld hb 1),bstr (bfld hb 0)⟩
theorem agn {n:Nat}{v:PV} (h:aa3 Tryz.prog n 48 v) (hb:aad v<=1048576):∀ x,x∈v.asList->afg x:=fun x hx=>by
 obtain ⟨m,g⟩:=ac7 h Tryz.underlying48 x hx
 exact auf g (bel hb x hx)
theorem a0n {n:Nat}{x:PV} (h:aa3 Tryz.prog n 52 x) (hb:aad x<=1048576):OkFld x:=by
 obtain ⟨m7,g7⟩:=abb h Tryz.underlying52 7 _ rfl
 obtain ⟨m8,g8⟩:=abb h Tryz.underlying52 8 _ rfl
 exact ⟨bstr (bfld hb 1),bstr (bfld (bfld hb 4) 1),bstr (bfld hb 5),ali g7 (bfld hb 7),ag6 (bfld hb 8),agn g8 (bfld hb 8)⟩
theorem a00 {n:Nat}{x:PV} (h:aa3 Tryz.prog n 50 x) (hb:aad x<=1048576):OkMsg x:=by
 obtain ⟨m1,g1⟩:=abb h Tryz.underlying50 1 _ rfl
 obtain ⟨m4,g4⟩:=abb h Tryz.underlying50 4 _ rfl
 refine ⟨bstr (bfld hb 0),ag6 (bfld hb 1),fun y hy=>?_,ag6 (bfld hb 2),ag6 (bfld hb 3),fun y hy=>bstr (bel (bfld hb 3) y hy),ag6 (bfld hb 4),agn g4 (bfld hb 4)⟩
 obtain ⟨m,g⟩:=ac7 g1 Tryz.underlying45 y hy
 exact a0n g (bel (bfld hb 1) y hy)
theorem azm {n:Nat}{x:PV} (h:aa3 Tryz.prog n 60 x) (hb:aad x<=1048576):OkItem x:=by
 obtain ⟨m2,g2⟩:=abb h Tryz.underlying60 2 _ rfl
 exact ⟨bstr (bfld hb 0),ag6 (bfld hb 2),agn g2 (bfld hb 2)⟩
theorem azg {n:Nat}{x:PV} (h:aa3 Tryz.prog n 58 x) (hb:aad x<=1048576):OkEnum x:=by
 obtain ⟨m2,g2⟩:=abb h Tryz.underlying58 2 _ rfl
 obtain ⟨m4,g4⟩:=abb h Tryz.underlying58 4 _ rfl
 refine ⟨bstr (bfld hb 0),ag6 (bfld hb 2),fun y hy=>?_,ag6 (bfld hb 3),ag6 (bfld hb 4),agn g4 (bfld hb 4)⟩
 obtain ⟨m,g⟩:=ac7 g2 Tryz.underlying56 y hy
 exact azm g (bel (bfld hb 2) y hy)
theorem azq {n:Nat}{x:PV} (h:aa3 Tryz.prog n 161 x) (hb:aad x<=1048576):OkMeth x:=by
 obtain ⟨m4,g4⟩:=abb h Tryz.underlying161 4 _ rfl
 exact ⟨bstr (bfld hb 0),bstr (bfld hb 1),bstr (bfld hb 2),ag6 (bfld hb 4),agn g4 (bfld hb 4)⟩
theorem a07 {n:Nat}{x:PV} (h:aa3 Tryz.prog n 123 x) (hb:aad x<=1048576):OkSvc x:=by
 obtain ⟨m1,g1⟩:=abb h Tryz.underlying123 1 _ rfl
 obtain ⟨m2,g2⟩:=abb h Tryz.underlying123 2 _ rfl
 refine ⟨bstr (bfld hb 0),ag6 (bfld hb 1),fun y hy=>?_,ag6 (bfld hb 2),agn g2 (bfld hb 2)⟩
 obtain ⟨m,g⟩:=ac7 g1 Tryz.underlying121 y hy
 exact azq g (bel (bfld hb 1) y hy)
theorem aw5 {n:Nat}{s:PV} (h:aa3 Tryz.prog n 26 s) (hb:aad s<=1048576):SOk s:=by
 obtain ⟨m0,g0⟩:=abb h Tryz.underlying26 0 _ rfl
 obtain ⟨m1,g1⟩:=abb h Tryz.underlying26 1 _ rfl
 obtain ⟨m2,g2⟩:=abb h Tryz.underlying26 2 _ rfl
 refine ⟨⟨ag6 (bfld hb 0),ag6 (bfld hb 1),ag6 (bfld hb 2)⟩,fun y hy=>?_,fun y hy=>?_,fun y hy=>?_⟩
 ·obtain ⟨m,g⟩:=ac7 g0 Tryz.underlying22 y hy
  exact a00 g (bel (bfld hb 0) y hy)
 ·obtain ⟨m,g⟩:=ac7 g1 Tryz.underlying23 y hy
  exact azg g (bel (bfld hb 1) y hy)
 ·obtain ⟨m,g⟩:=ac7 g2 Tryz.underlying24 y hy
  exact a07 g (bel (bfld hb 2) y hy)
end Go.Ab
namespace Go.Ab
open Go Go.Proofs Go.Proofs.YtjogoleiodbfdaaGreat
theorem af6:∀ (k:Nat) {n:Nat}{v:PV},aad v<=k->aa3 Tryz.prog n 33 v->VOk v
 | 0,_,v,hb,_=>absurd hb (by have:=aba v;omega)
 | k+1,n,v,hb,h=>by
  obtain ⟨m3,g3⟩:=abb h Tryz.underlying33 3 _ rfl
  obtain ⟨m4,g4⟩:=abb h Tryz.underlying33 4 _ rfl
  obtain ⟨m5,g5⟩:=abb h Tryz.underlying33 5 _ rfl
  have hbits:0<=(v.fld 1).asInt/\(v.fld 1).asInt<18446744073709551616/\ams v<=aad v:=by
   obtain ⟨vs,m,rfl,hl,hf⟩:=ae3 h Tryz.underlying33
   match vs,hl with
   | [a0,a1,a2,a3,a4,a5,a6],_=>
    obtain ⟨b,rfl,hw⟩:=aso (hf 1 a1 _ rfl rfl) Tryz.underlying27
    have hw:=bounds_u64 hw
    have h3:=acd a3
    have h4:=acd a4
    have h5:=acd a5
    have h6:=acd a6
    refine ⟨hw.1,?_,?_⟩
    ·show b<18446744073709551616
     omega
    ·show a3.asList.length+a4.asList.length+a5.asList.length+a6.asList.length<=_
     simp only [aad,aas]
     omega
  refine .mk hbits.1 hbits.2.1 hbits.2.2 (fun x hx=>?_) (fun x hx=>?_) (fun x hx=>?_) (fun x hx=>?_) (fun x hx=>?_)
  ·obtain ⟨m,g⟩:=ac7 g3 Tryz.underlying28 x hx
   exact af6 k (by have:=amr hx;omega) g
  ·obtain ⟨m,g⟩:=ac7 g4 Tryz.underlying29 x hx
   obtain ⟨m',g'⟩:=abb g Tryz.underlying64 0 _ rfl
   exact af6 k (by have:aad (x.fld 0)<aad v:=acy hx;omega) g'
  ·obtain ⟨m,g⟩:=ac7 g4 Tryz.underlying29 x hx
   obtain ⟨m',g'⟩:=abb g Tryz.underlying64 1 _ rfl
   exact af6 k (by have:aad (x.fld 1)<aad v:=acy hx;omega) g'
  ·obtain ⟨m,g⟩:=ac7 g5 Tryz.underlying30 x hx
   obtain ⟨m',g'⟩:=abb g Tryz.underlying66 1 _ rfl
   exact af6 k (by have:aad (x.fld 1)<aad v:=acy hx;omega) g'
  ·obtain ⟨m,g⟩:=ac7 g5 Tryz.underlying30 x hx
   obtain ⟨vs,m2,rfl,hl,hf⟩:=ae3 g Tryz.underlying66
   match vs,hl with
   | [a0,a1],_=>
    have:=aba a0
    show aad a1+2<=_
    simp only [aad,aas]
    omega
end Go.Ab
