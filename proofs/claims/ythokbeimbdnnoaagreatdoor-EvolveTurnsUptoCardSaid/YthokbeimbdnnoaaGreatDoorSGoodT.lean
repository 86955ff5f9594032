/- What a row's reading gives is small enough (schemas). -/
import Derived.Test.YthokbeimbdnnoaaGreatDoorAbEndE
import Derived.Test.YthokbeimbdnnoaaGreatDoorPTurnT
set_option linter.unusedVariables false
set_option linter.unusedSimpArgs false
set_option linter.unnecessarySimpa false
namespace Go.Ab
open Go Go.Proofs Go.Proofs.YthokbeimbdnnoaaGreatDoor
theorem ab7 {P:Program}{n:Nat}{T:TypeId}{v:PV}{fs:Array Field} (h:abb P n T v) (hu:P.underlying T=some (.struct fs)) (i:Nat) (f:Field) (hf:fs[i]?=some f):∃ m,abb P m f.type (v.fld i):=by
 obtain ⟨vs,m,rfl,hl,hx⟩:=akt h hu
 have hi:i<vs.length:=by rw [hl];exact (Array.getElem?_eq_some_iff.1 hf).1
 refine ⟨m,hx i _ f ?_ hf⟩
 show vs[i]?=some (vs.getD i .bad)
 rw [aai hi]
 exact List.getElem?_eq_getElem hi
theorem ahk {P:Program}{n:Nat}{T E:TypeId}{v:PV} (h:abb P n T v) (hu:P.underlying T=some (.slice E)):∀ x,x∈v.asList->∃ m,abb P m E x:=by
 obtain ⟨xs,m,rfl,hx⟩:=at9 h hu
 exact fun x hm=>⟨m,hx x hm⟩
theorem bfld {v:PV}{n:Nat} (hb:aau v<=n) (i:Nat):aau (v.fld i)<=n:=Nat.le_trans (ac1 v i) hb
theorem bel {v:PV}{n:Nat} (hb:aau v<=n):∀ x,x∈v.asList->aau x<=n:=fun x hx=>by
 have h1:=aen v
 have h2:=adw hx
 omega
theorem bstr {v:PV}{n:Nat} (hb:aau v<=n):v.asStr.length<=n:=by have:=asi v;omega
theorem ahe {v:PV}{n:Nat} (hb:aau v<=n):v.asList.length<=n:=by have:=adx v;omega
theorem aln {n:Nat}{v:PV} (h:abb Tryz.prog n 56 v) (hb:aau v<=1048576):adi v:=by
 obtain ⟨vs,m,rfl,hl,hf⟩:=akt h Tryz.underlying56
 match vs,hl with
 | [a0,a1,a2,a3,a4,a5,a6],_=>
  obtain ⟨b,rfl,hw⟩:=azl (hf 1 a1 _ rfl rfl) Tryz.underlying50
  have h3:=adx a3
  have h4:=adx a4
  have h5:=adx a5
  have h6:=adx a6
  have h2:=asi a2
  have hw:=bounds_u64 hw
  simp only [aau,aav] at hb
  refine ⟨?_,?_,?_,?_⟩
  ·show a3.asList.length+a4.asList.length+a5.asList.length+a6.asList.length<=1048576
   omega
  ·show a2.asStr.length<=1048576
   omega
  ·exact hw.1
  ·show b<18446744073709551616
   omega
theorem aup {n:Nat}{v:PV} (h:abb Tryz.prog n 114 v) (hb:aau v<=1048576):aft v:=by
 obtain ⟨m,g⟩:=ab7 h Tryz.underlying114 1 _ rfl
 exact ⟨aln g (bfld hb 1),bstr (bfld hb 0)⟩
theorem agz {n:Nat}{v:PV} (h:abb Tryz.prog n 57 v) (hb:aau v<=1048576):∀ x,x∈v.asList->aft x:=fun x hx=>by
 obtain ⟨m,g⟩:=ahk h Tryz.underlying57 x hx
 exact aup g (bel hb x hx)
theorem a3z {n:Nat}{x:PV} (h:abb Tryz.prog n 59 x) (hb:aau x<=1048576):OkFld x:=by
 obtain ⟨m7,g7⟩:=ab7 h Tryz.underlying59 7 _ rfl
 obtain ⟨m8,g8⟩:=ab7 h Tryz.underlying59 8 _ rfl
 exact ⟨bstr (bfld hb 1),bstr (bfld (bfld hb 4) 1),bstr (bfld hb 5),aln g7 (bfld hb 7),ahe (bfld hb 8),agz g8 (bfld hb 8)⟩
theorem a4o {n:Nat}{x:PV} (h:abb Tryz.prog n 63 x) (hb:aau x<=1048576):OkMsg x:=by
 obtain ⟨m1,g1⟩:=ab7 h Tryz.underlying63 1 _ rfl
 obtain ⟨m4,g4⟩:=ab7 h Tryz.underlying63 4 _ rfl
 refine ⟨bstr (bfld hb 0),ahe (bfld hb 1),fun y hy=>?_,ahe (bfld hb 2),ahe (bfld hb 3),fun y hy=>bstr (bel (bfld hb 3) y hy),ahe (bfld hb 4),agz g4 (bfld hb 4)⟩
 obtain ⟨m,g⟩:=ahk g1 Tryz.underlying60 y hy
 exact a3z g (bel (bfld hb 1) y hy)
theorem a2f {n:Nat}{x:PV} (h:abb Tryz.prog n 103 x) (hb:aau x<=1048576):OkItem x:=by
 obtain ⟨m2,g2⟩:=ab7 h Tryz.underlying103 2 _ rfl
 exact ⟨bstr (bfld hb 0),ahe (bfld hb 2),agz g2 (bfld hb 2)⟩
theorem a1y {n:Nat}{x:PV} (h:abb Tryz.prog n 73 x) (hb:aau x<=1048576):OkEnum x:=by
 obtain ⟨m2,g2⟩:=ab7 h Tryz.underlying73 2 _ rfl
 obtain ⟨m4,g4⟩:=ab7 h Tryz.underlying73 4 _ rfl
 refine ⟨bstr (bfld hb 0),ahe (bfld hb 2),fun y hy=>?_,ahe (bfld hb 3),ahe (bfld hb 4),agz g4 (bfld hb 4)⟩
 obtain ⟨m,g⟩:=ahk g2 Tryz.underlying71 y hy
 exact a2f g (bel (bfld hb 2) y hy)
theorem a2m {n:Nat}{x:PV} (h:abb Tryz.prog n 105 x) (hb:aau x<=1048576):OkMeth x:=by
 obtain ⟨m4,g4⟩:=ab7 h Tryz.underlying105 4 _ rfl
 exact ⟨bstr (bfld hb 0),bstr (bfld hb 1),bstr (bfld hb 2),ahe (bfld hb 4),agz g4 (bfld hb 4)⟩
theorem a4r {n:Nat}{x:PV} (h:abb Tryz.prog n 78 x) (hb:aau x<=1048576):OkSvc x:=by
 obtain ⟨m1,g1⟩:=ab7 h Tryz.underlying78 1 _ rfl
 obtain ⟨m2,g2⟩:=ab7 h Tryz.underlying78 2 _ rfl
 refine ⟨bstr (bfld hb 0),ahe (bfld hb 1),fun y hy=>?_,ahe (bfld hb 2),agz g2 (bfld hb 2)⟩
 obtain ⟨m,g⟩:=ahk g1 Tryz.underlying76 y hy
 exact a2m g (bel (bfld hb 1) y hy)
theorem apv {n:Nat}{s:PV} (h:abb Tryz.prog n 26 s) (hb:aau s<=1048576):SOk s:=by
 obtain ⟨m0,g0⟩:=ab7 h Tryz.underlying26 0 _ rfl
 obtain ⟨m1,g1⟩:=ab7 h Tryz.underlying26 1 _ rfl
 obtain ⟨m2,g2⟩:=ab7 h Tryz.underlying26 2 _ rfl
 refine ⟨⟨ahe (bfld hb 0),ahe (bfld hb 1),ahe (bfld hb 2)⟩,fun y hy=>?_,fun y hy=>?_,fun y hy=>?_⟩
 ·obtain ⟨m,g⟩:=ahk g0 Tryz.underlying22 y hy
  exact a4o g (bel (bfld hb 0) y hy)
 ·obtain ⟨m,g⟩:=ahk g1 Tryz.underlying23 y hy
  exact a1y g (bel (bfld hb 1) y hy)
 ·obtain ⟨m,g⟩:=ahk g2 Tryz.underlying24 y hy
  exact a4r g (bel (bfld hb 2) y hy)
end Go.Ab
