/- What a row's reading gives is small enough (schemas). -/
import Derived.Test.YtjogoleiodbfdaaGreatAbEndZ
import Derived.Test.YtjogoleiodbfdaaGreatPTurnT
import Derived.Test.YtjogoleiodbfdaaGreatPUsesT
set_option linter.unusedVariables false
set_option linter.unusedSimpArgs false
set_option linter.unnecessarySimpa false
namespace Go.Ab
open Go Go.Proofs Go.Proofs.YtjogoleiodbfdaaGreat
theorem abb {P:Program}{n:Nat}{T:TypeId}{v:PV}{fs:Array Field} (h:aa3 P n T v) (hu:P.underlying T=some (.struct fs)) (i:Nat) (f:Field) (hf:fs[i]?=some f):∃ m,aa3 P m f.type (v.fld i):=by
 obtain ⟨vs,m,rfl,hl,hx⟩:=afc h hu
 have hi:i<vs.length:=by rw [hl];exact (Array.getElem?_eq_some_iff.1 hf).1
 refine ⟨m,hx i _ f ?_ hf⟩
 show vs[i]?=some (vs.getD i .bad)
 rw [aaf hi]
 exact List.getElem?_eq_getElem hi
theorem adc {P:Program}{n:Nat}{T E:TypeId}{v:PV} (h:aa3 P n T v) (hu:P.underlying T=some (.slice E)):∀ x,x∈v.asList->∃ m,aa3 P m E x:=by
 obtain ⟨xs,m,rfl,hx⟩:=aut h hu
 exact fun x hm=>⟨m,hx x hm⟩
theorem bfld {v:PV}{n:Nat} (hb:aac v<=n) (i:Nat):aac (v.fld i)<=n:=Nat.le_trans (aek v i) hb
theorem bel {v:PV}{n:Nat} (hb:aac v<=n):∀ x,x∈v.asList->aac x<=n:=fun x hx=>by
 have h1:=agj v
 have h2:=ack hx
 omega
theorem bstr {v:PV}{n:Nat} (hb:aac v<=n):v.asStr.length<=n:=by have:=as6 v;omega
theorem ahd {v:PV}{n:Nat} (hb:aac v<=n):v.asList.length<=n:=by have:=acf v;omega
theorem als {n:Nat}{v:PV} (h:aa3 Tryz.prog n 33 v) (hb:aac v<=1048576):ajt v:=by
 obtain ⟨vs,m,rfl,hl,hf⟩:=afc h Tryz.underlying33
 match vs,hl with
 | [a0,a1,a2,a3,a4,a5,a6],_=>
  obtain ⟨b,rfl,hw⟩:=atj (hf 1 a1 _ rfl rfl) Tryz.underlying27
  have h3:=acf a3
  have h4:=acf a4
  have h5:=acf a5
  have h6:=acf a6
  have h2:=as6 a2
  have hw:=bounds_u64 hw
  simp only [aac,aar] at hb
  refine ⟨?_,?_,?_,?_⟩
  ·show a3.asList.length+a4.asList.length+a5.asList.length+a6.asList.length<=1048576
   omega
  ·show a2.asStr.length<=1048576
   omega
  ·exact hw.1
  ·show b<18446744073709551616
   omega
theorem au9 {n:Nat}{v:PV} (h:aa3 Tryz.prog n 76 v) (hb:aac v<=1048576):afn v:=by
 obtain ⟨m,g⟩:=abb h Tryz.underlying76 1 _ rfl
 exact ⟨als g (bfld hb 1),bstr (bfld hb 0)⟩
theorem agu {n:Nat}{v:PV} (h:aa3 Tryz.prog n 48 v) (hb:aac v<=1048576):∀ x,x∈v.asList->afn x:=fun x hx=>by
 obtain ⟨m,g⟩:=adc h Tryz.underlying48 x hx
 exact au9 g (bel hb x hx)
theorem a1m {n:Nat}{x:PV} (h:aa3 Tryz.prog n 52 x) (hb:aac x<=1048576):OkFld x:=by
 obtain ⟨m7,g7⟩:=abb h Tryz.underlying52 7 _ rfl
 obtain ⟨m8,g8⟩:=abb h Tryz.underlying52 8 _ rfl
 exact ⟨bstr (bfld hb 1),bstr (bfld (bfld hb 4) 1),bstr (bfld hb 5),als g7 (bfld hb 7),ahd (bfld hb 8),agu g8 (bfld hb 8)⟩
theorem a1y {n:Nat}{x:PV} (h:aa3 Tryz.prog n 50 x) (hb:aac x<=1048576):OkMsg x:=by
 obtain ⟨m1,g1⟩:=abb h Tryz.underlying50 1 _ rfl
 obtain ⟨m4,g4⟩:=abb h Tryz.underlying50 4 _ rfl
 refine ⟨bstr (bfld hb 0),ahd (bfld hb 1),fun y hy=>?_,ahd (bfld hb 2),ahd (bfld hb 3),fun y hy=>bstr (bel (bfld hb 3) y hy),ahd (bfld hb 4),agu g4 (bfld hb 4)⟩
 obtain ⟨m,g⟩:=adc g1 Tryz.underlying45 y hy
 exact a1m g (bel (bfld hb 1) y hy)
theorem a0h {n:Nat}{x:PV} (h:aa3 Tryz.prog n 60 x) (hb:aac x<=1048576):OkItem x:=by
 obtain ⟨m2,g2⟩:=abb h Tryz.underlying60 2 _ rfl
 exact ⟨bstr (bfld hb 0),ahd (bfld hb 2),agu g2 (bfld hb 2)⟩
theorem a0b {n:Nat}{x:PV} (h:aa3 Tryz.prog n 58 x) (hb:aac x<=1048576):OkEnum x:=by
 obtain ⟨m2,g2⟩:=abb h Tryz.underlying58 2 _ rfl
 obtain ⟨m4,g4⟩:=abb h Tryz.underlying58 4 _ rfl
 refine ⟨bstr (bfld hb 0),ahd (bfld hb 2),fun y hy=>?_,ahd (bfld hb 3),ahd (bfld hb 4),agu g4 (bfld hb 4)⟩
 obtain ⟨m,g⟩:=adc g2 Tryz.underlying56 y hy
 exact a0h g (bel (bfld hb 2) y hy)
theorem a0m {n:Nat}{x:PV} (h:aa3 Tryz.prog n 161 x) (hb:aac x<=1048576):OkMeth x:=by
 obtain ⟨m4,g4⟩:=abb h Tryz.underlying161 4 _ rfl
 exact ⟨bstr (bfld hb 0),bstr (bfld hb 1),bstr (bfld hb 2),ahd (bfld hb 4),agu g4 (bfld hb 4)⟩
theorem a2d {n:Nat}{x:PV} (h:aa3 Tryz.prog n 123 x) (hb:aac x<=1048576):OkSvc x:=by
 obtain ⟨m1,g1⟩:=abb h Tryz.underlying123 1 _ rfl
 obtain ⟨m2,g2⟩:=abb h Tryz.underlying123 2 _ rfl
 refine ⟨bstr (bfld hb 0),ahd (bfld hb 1),fun y hy=>?_,ahd (bfld hb 2),agu g2 (bfld hb 2)⟩
 obtain ⟨m,g⟩:=adc g1 Tryz.underlying121 y hy
 exact a0m g (bel (bfld hb 1) y hy)
theorem axv {n:Nat}{s:PV} (h:aa3 Tryz.prog n 26 s) (hb:aac s<=1048576):SOk s:=by
 obtain ⟨m0,g0⟩:=abb h Tryz.underlying26 0 _ rfl
 obtain ⟨m1,g1⟩:=abb h Tryz.underlying26 1 _ rfl
 obtain ⟨m2,g2⟩:=abb h Tryz.underlying26 2 _ rfl
 refine ⟨⟨ahd (bfld hb 0),ahd (bfld hb 1),ahd (bfld hb 2)⟩,fun y hy=>?_,fun y hy=>?_,fun y hy=>?_⟩
 ·obtain ⟨m,g⟩:=adc g0 Tryz.underlying22 y hy
  exact a1y g (bel (bfld hb 0) y hy)
 ·obtain ⟨m,g⟩:=adc g1 Tryz.underlying23 y hy
  exact a0b g (bel (bfld hb 1) y hy)
 ·obtain ⟨m,g⟩:=adc g2 Tryz.underlying24 y hy
  exact a2d g (bel (bfld hb 2) y hy)
end Go.Ab
namespace Go.Ab
open Go Go.Proofs Go.Proofs.YtjogoleiodbfdaaGreat
theorem agd:∀ (k:Nat) {n:Nat}{v:PV},aac v<=k->aa3 Tryz.prog n 33 v->VOk v
 | 0,_,v,hb,_=>absurd hb (by have:=aa7 v;omega)
 | k+1,n,v,hb,h=>by
  obtain ⟨m3,g3⟩:=abb h Tryz.underlying33 3 _ rfl
  obtain ⟨m4,g4⟩:=abb h Tryz.underlying33 4 _ rfl
  obtain ⟨m5,g5⟩:=abb h Tryz.underlying33 5 _ rfl
  have hbits:0<=(v.fld 1).asInt/\(v.fld 1).asInt<18446744073709551616/\am6 v<=aac v:=by
   obtain ⟨vs,m,rfl,hl,hf⟩:=afc h Tryz.underlying33
   match vs,hl with
   | [a0,a1,a2,a3,a4,a5,a6],_=>
    obtain ⟨b,rfl,hw⟩:=atj (hf 1 a1 _ rfl rfl) Tryz.underlying27
    have hw:=bounds_u64 hw
    have h3:=acf a3
    have h4:=acf a4
    have h5:=acf a5
    have h6:=acf a6
    refine ⟨hw.1,?_,?_⟩
    ·show b<18446744073709551616
     omega
    ·show a3.asList.length+a4.asList.length+a5.asList.length+a6.asList.length<=_
     simp only [aac,aar]
     omega
  refine .mk hbits.1 hbits.2.1 hbits.2.2 (fun x hx=>?_) (fun x hx=>?_) (fun x hx=>?_) (fun x hx=>?_) (fun x hx=>?_)
  ·obtain ⟨m,g⟩:=adc g3 Tryz.underlying28 x hx
   exact agd k (by have:=am5 hx;omega) g
  ·obtain ⟨m,g⟩:=adc g4 Tryz.underlying29 x hx
   obtain ⟨m',g'⟩:=abb g Tryz.underlying64 0 _ rfl
   exact agd k (by have:aac (x.fld 0)<aac v:=ac1 hx;omega) g'
  ·obtain ⟨m,g⟩:=adc g4 Tryz.underlying29 x hx
   obtain ⟨m',g'⟩:=abb g Tryz.underlying64 1 _ rfl
   exact agd k (by have:aac (x.fld 1)<aac v:=ac1 hx;omega) g'
  ·obtain ⟨m,g⟩:=adc g5 Tryz.underlying30 x hx
   obtain ⟨m',g'⟩:=abb g Tryz.underlying66 1 _ rfl
   exact agd k (by have:aac (x.fld 1)<aac v:=ac1 hx;omega) g'
  ·obtain ⟨m,g⟩:=adc g5 Tryz.underlying30 x hx
   obtain ⟨vs,m2,rfl,hl,hf⟩:=afc g Tryz.underlying66
   match vs,hl with
   | [a0,a1],_=>
    have:=aa7 a0
    show aac a1+2<=_
    simp only [aac,aar]
    omega
end Go.Ab
