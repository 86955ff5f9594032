/- What a row's reading gives is small enough (schemas). -/
import Derived.Test.YthokbeimbdnnoaaGreatDoorAbEndE
import Derived.Test.YthokbeimbdnnoaaGreatDoorPTurnT
set_option linter.unusedVariables false
set_option linter.unusedSimpArgs false
set_option linter.unnecessarySimpa false
namespace Go.Ab
open Go Go.Proofs Go.Proofs.YthokbeimbdnnoaaGreatDoor
theorem ab7 {P:Program}{n:Nat}{T:TypeId}{v:PV}{fs:Array Field} (h:abb P n T v) (hu:P.underlying T=some (.struct fs)) (i:Nat) (f:Field) (hf:fs[i]?=some f):∃ m,abb P m f.type (v.fld i):=by
 obtain ⟨vs,m,rfl,hl,hx⟩:=ak3 h hu
 have hi:i<vs.length:=by rw [hl];exact (Array.getElem?_eq_some_iff.1 hf).1
 refine ⟨m,hx i _ f ?_ hf⟩
 show vs[i]?=some (vs.getD i .bad)
 rw [aah hi]
 exact List.getElem?_eq_getElem hi
theorem ahr {P:Program}{n:Nat}{T E:TypeId}{v:PV} (h:abb P n T v) (hu:P.underlying T=some (.slice E)):∀ x,x∈v.asList->∃ m,abb P m E x:=by
 obtain ⟨xs,m,rfl,hx⟩:=auv h hu
 exact fun x hm=>⟨m,hx x hm⟩
theorem bfld {v:PV}{n:Nat} (hb:aau v<=n) (i:Nat):aau (v.fld i)<=n:=Nat.le_trans (ac5 v i) hb
theorem bel {v:PV}{n:Nat} (hb:aau v<=n):∀ x,x∈v.asList->aau x<=n:=fun x hx=>by
 have h1:=aev v
 have h2:=ad3 hx
 omega
theorem bstr {v:PV}{n:Nat} (hb:aau v<=n):v.asStr.length<=n:=by have:=as3 v;omega
theorem ahl {v:PV}{n:Nat} (hb:aau v<=n):v.asList.length<=n:=by have:=ad4 v;omega
theorem al4 {n:Nat}{v:PV} (h:abb Tryz.prog n 56 v) (hb:aau v<=1048576):ado v:=by
 obtain ⟨vs,m,rfl,hl,hf⟩:=ak3 h Tryz.underlying56
 match vs,hl with
 | [a0,a1,a2,a3,a4,a5,a6],_=>
  obtain ⟨b,rfl,hw⟩:=az9 (hf 1 a1 _ rfl rfl) Tryz.underlying50
  have h3:=ad4 a3
  have h4:=ad4 a4
  have h5:=ad4 a5
  have h6:=ad4 a6
  have h2:=as3 a2
  have hw:=bounds_u64 hw
  simp only [aau,aav] at hb
  refine ⟨?_,?_,?_,?_⟩
  ·show a3.asList.length+a4.asList.length+a5.asList.length+a6.asList.length<=1048576
   omega
  ·show a2.asStr.length<=1048576
   omega
  ·exact hw.1
  ·show b<18446744073709551616
   omega
theorem avb {n:Nat}{v:PV} (h:abb Tryz.prog n 114 v) (hb:aau v<=1048576):afy v:=by
 obtain ⟨m,g⟩:=ab7 h Tryz.underlying114 1 _ rfl
 exact ⟨al4 g (bfld hb 1),bstr (bfld hb 0)⟩
theorem ag4 {n:Nat}{v:PV} (h:abb Tryz.prog n 57 v) (hb:aau v<=1048576):∀ x,x∈v.asList->afy x:=fun x hx=>by
 obtain ⟨m,g⟩:=ahr h Tryz.underlying57 x hx
 exact avb g (bel hb x hx)
theorem a5h {n:Nat}{x:PV} (h:abb Tryz.prog n 59 x) (hb:aau x<=1048576):OkFld x:=by
 obtain ⟨m7,g7⟩:=ab7 h Tryz.underlying59 7 _ rfl
 obtain ⟨m8,g8⟩:=ab7 h Tryz.underlying59 8 _ rfl
 exact ⟨bstr (bfld hb 1),bstr (bfld (bfld hb 4) 1),bstr (bfld hb 5),al4 g7 (bfld hb 7),ahl (bfld hb 8),ag4 g8 (bfld hb 8)⟩
theorem a5w {n:Nat}{x:PV} (h:abb Tryz.prog n 63 x) (hb:aau x<=1048576):OkMsg x:=by
 obtain ⟨m1,g1⟩:=ab7 h Tryz.underlying63 1 _ rfl
 obtain ⟨m4,g4⟩:=ab7 h Tryz.underlying63 4 _ rfl
 refine ⟨bstr (bfld hb 0),ahl (bfld hb 1),fun y hy=>?_,ahl (bfld hb 2),ahl (bfld hb 3),fun y hy=>bstr (bel (bfld hb 3) y hy),ahl (bfld hb 4),ag4 g4 (bfld hb 4)⟩
 obtain ⟨m,g⟩:=ahr g1 Tryz.underlying60 y hy
 exact a5h g (bel (bfld hb 1) y hy)
theorem a3i {n:Nat}{x:PV} (h:abb Tryz.prog n 103 x) (hb:aau x<=1048576):OkItem x:=by
 obtain ⟨m2,g2⟩:=ab7 h Tryz.underlying103 2 _ rfl
 exact ⟨bstr (bfld hb 0),ahl (bfld hb 2),ag4 g2 (bfld hb 2)⟩
theorem a3a {n:Nat}{x:PV} (h:abb Tryz.prog n 73 x) (hb:aau x<=1048576):OkEnum x:=by
 obtain ⟨m2,g2⟩:=ab7 h Tryz.underlying73 2 _ rfl
 obtain ⟨m4,g4⟩:=ab7 h Tryz.underlying73 4 _ rfl
 refine ⟨bstr (bfld hb 0),ahl (bfld hb 2),fun y hy=>?_,ahl (bfld hb 3),ahl (bfld hb 4),ag4 g4 (bfld hb 4)⟩
 obtain ⟨m,g⟩:=ahr g2 Tryz.underlying71 y hy
 exact a3i g (bel (bfld hb 2) y hy)
theorem a3p {n:Nat}{x:PV} (h:abb Tryz.prog n 105 x) (hb:aau x<=1048576):OkMeth x:=by
 obtain ⟨m4,g4⟩:=ab7 h Tryz.underlying105 4 _ rfl
 exact ⟨bstr (bfld hb 0),bstr (bfld hb 1),bstr (bfld hb 2),ahl (bfld hb 4),ag4 g4 (bfld hb 4)⟩
theorem a5y {n:Nat}{x:PV} (h:abb Tryz.prog n 78 x) (hb:aau x<=1048576):OkSvc x:=by
 obtain ⟨m1,g1⟩:=ab7 h Tryz.underlying78 1 _ rfl
 obtain ⟨m2,g2⟩:=ab7 h Tryz.underlying78 2 _ rfl
 refine ⟨bstr (bfld hb 0),ahl (bfld hb 1),fun y hy=>?_,ahl (bfld hb 2),ag4 g2 (bfld hb 2)⟩
 obtain ⟨m,g⟩:=ahr g1 Tryz.underlying76 y hy
 exact a3p g (bel (bfld hb 1) y hy)
theorem aqf {n:Nat}{s:PV} (h:abb Tryz.prog n 26 s) (hb:aau s<=1048576):SOk s:=by
 obtain ⟨m0,g0⟩:=ab7 h Tryz.underlying26 0 _ rfl
 obtain ⟨m1,g1⟩:=ab7 h Tryz.underlying26 1 _ rfl
 obtain ⟨m2,g2⟩:=ab7 h Tryz.underlying26 2 _ rfl
 refine ⟨⟨ahl (bfld hb 0),ahl (bfld hb 1),ahl (bfld hb 2)⟩,fun y hy=>?_,fun y hy=>?_,fun y hy=>?_⟩
 ·obtain ⟨m,g⟩:=ahr g0 Tryz.underlying22 y hy
  exact a5w g (bel (bfld hb 0) y hy)
 ·obtain ⟨m,g⟩:=ahr g1 Tryz.underlying23 y hy
  exact a3a g (bel (bfld hb 1) y hy)
 ·obtain ⟨m,g⟩:=ahr g2 Tryz.underlying24 y hy
  exact a5y g (bel (bfld hb 2) y hy)
end Go.Ab
