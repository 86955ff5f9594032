/- What a row's reading gives is small enough (schemas). -/
import Derived.Test.YthokbeimbdnnoaaGreatDoorAbEndE
import Derived.Test.YthokbeimbdnnoaaGreatDoorPTurnT
set_option linter.unusedVariables false
set_option linter.unusedSimpArgs false
set_option linter.unnecessarySimpa false
namespace Go.Ab
open Go Go.Proofs Go.Proofs.YthokbeimbdnnoaaGreatDoor
theorem ab9 {P:Program}{n:Nat}{T:TypeId}{v:PV}{fs:Array Field} (h:abc P n T v) (hu:P.underlying T=some (.struct fs)) (i:Nat) (f:Field) (hf:fs[i]?=some f):∃ m,abc P m f.type (v.fld i):=by
 obtain ⟨vs,m,rfl,hl,hx⟩:=ak5 h hu
 have hi:i<vs.length:=by rw [hl];exact (Array.getElem?_eq_some_iff.1 hf).1
 refine ⟨m,hx i _ f ?_ hf⟩
 show vs[i]?=some (vs.getD i .bad)
 rw [aac hi]
 exact List.getElem?_eq_getElem hi
theorem ahu {P:Program}{n:Nat}{T E:TypeId}{v:PV} (h:abc P n T v) (hu:P.underlying T=some (.slice E)):∀ x,x∈v.asList->∃ m,abc P m E x:=by
 obtain ⟨xs,m,rfl,hx⟩:=aus h hu
 exact fun x hm=>⟨m,hx x hm⟩
theorem bfld {v:PV}{n:Nat} (hb:aat v<=n) (i:Nat):aat (v.fld i)<=n:=Nat.le_trans (ac5 v i) hb
theorem bel {v:PV}{n:Nat} (hb:aat v<=n):∀ x,x∈v.asList->aat x<=n:=fun x hx=>by
 have h1:=aet v
 have h2:=adz hx
 omega
theorem bstr {v:PV}{n:Nat} (hb:aat v<=n):v.asStr.length<=n:=by have:=as1 v;omega
theorem ahp {v:PV}{n:Nat} (hb:aat v<=n):v.asList.length<=n:=by have:=ad0 v;omega
theorem al0 {n:Nat}{v:PV} (h:abc Tryz.prog n 56 v) (hb:aat v<=1048576):adm v:=by
 obtain ⟨vs,m,rfl,hl,hf⟩:=ak5 h Tryz.underlying56
 match vs,hl with
 | [a0,a1,a2,a3,a4,a5,a6],_=>
  obtain ⟨b,rfl,hw⟩:=az8 (hf 1 a1 _ rfl rfl) Tryz.underlying50
  have h3:=ad0 a3
  have h4:=ad0 a4
  have h5:=ad0 a5
  have h6:=ad0 a6
  have h2:=as1 a2
  have hw:=bounds_u64 hw
  simp only [aat,aau] at hb
  refine ⟨?_,?_,?_,?_⟩
  ·show a3.asList.length+a4.asList.length+a5.asList.length+a6.asList.length<=1048576
   omega
  ·show a2.asStr.length<=1048576
   omega
  ·exact hw.1
  ·show b<18446744073709551616
   omega
theorem au9 {n:Nat}{v:PV} (h:abc Tryz.prog n 114 v) (hb:aat v<=1048576):af3 v:=by
 obtain ⟨m,g⟩:=ab9 h Tryz.underlying114 1 _ rfl
 exact ⟨al0 g (bfld hb 1),bstr (bfld hb 0)⟩
theorem ag9 {n:Nat}{v:PV} (h:abc Tryz.prog n 57 v) (hb:aat v<=1048576):∀ x,x∈v.asList->af3 x:=fun x hx=>by
 obtain ⟨m,g⟩:=ahu h Tryz.underlying57 x hx
 exact au9 g (bel hb x hx)
theorem a4x {n:Nat}{x:PV} (h:abc Tryz.prog n 59 x) (hb:aat x<=1048576):OkFld x:=by
 obtain ⟨m7,g7⟩:=ab9 h Tryz.underlying59 7 _ rfl
 obtain ⟨m8,g8⟩:=ab9 h Tryz.underlying59 8 _ rfl
 exact ⟨bstr (bfld hb 1),bstr (bfld (bfld hb 4) 1),bstr (bfld hb 5),al0 g7 (bfld hb 7),ahp (bfld hb 8),ag9 g8 (bfld hb 8)⟩
theorem a5n {n:Nat}{x:PV} (h:abc Tryz.prog n 63 x) (hb:aat x<=1048576):OkMsg x:=by
 obtain ⟨m1,g1⟩:=ab9 h Tryz.underlying63 1 _ rfl
 obtain ⟨m4,g4⟩:=ab9 h Tryz.underlying63 4 _ rfl
 refine ⟨bstr (bfld hb 0),ahp (bfld hb 1),fun y hy=>?_,ahp (bfld hb 2),ahp (bfld hb 3),fun y hy=>bstr (bel (bfld hb 3) y hy),ahp (bfld hb 4),ag9 g4 (bfld hb 4)⟩
 obtain ⟨m,g⟩:=ahu g1 Tryz.underlying60 y hy
 exact a4x g (bel (bfld hb 1) y hy)
theorem a3b {n:Nat}{x:PV} (h:abc Tryz.prog n 103 x) (hb:aat x<=1048576):OkItem x:=by
 obtain ⟨m2,g2⟩:=ab9 h Tryz.underlying103 2 _ rfl
 exact ⟨bstr (bfld hb 0),ahp (bfld hb 2),ag9 g2 (bfld hb 2)⟩
theorem a2u {n:Nat}{x:PV} (h:abc Tryz.prog n 73 x) (hb:aat x<=1048576):OkEnum x:=by
 obtain ⟨m2,g2⟩:=ab9 h Tryz.underlying73 2 _ rfl
 obtain ⟨m4,g4⟩:=ab9 h Tryz.underlying73 4 _ rfl
 refine ⟨bstr (bfld hb 0),ahp (bfld hb 2),fun y hy=>?_,ahp (bfld hb 3),ahp (bfld hb 4),ag9 g4 (bfld hb 4)⟩
 obtain ⟨m,g⟩:=ahu g2 Tryz.underlying71 y hy
 exact a3b g (bel (bfld hb 2) y hy)
theorem a3k {n:Nat}{x:PV} (h:abc Tryz.prog n 105 x) (hb:aat x<=1048576):OkMeth x:=by
 obtain ⟨m4,g4⟩:=ab9 h Tryz.underlying105 4 _ rfl
 exact ⟨bstr (bfld hb 0),bstr (bfld hb 1),bstr (bfld hb 2),ahp (bfld hb 4),ag9 g4 (bfld hb 4)⟩
theorem a5u {n:Nat}{x:PV} (h:abc Tryz.prog n 78 x) (hb:aat x<=1048576):OkSvc x:=by
 obtain ⟨m1,g1⟩:=ab9 h Tryz.underlying78 1 _ rfl
 obtain ⟨m2,g2⟩:=ab9 h Tryz.underlying78 2 _ rfl
 refine ⟨bstr (bfld hb 0),ahp (bfld hb 1),fun y hy=>?_,ahp (bfld hb 2),ag9 g2 (bfld hb 2)⟩
 obtain ⟨m,g⟩:=ahu g1 Tryz.underlying76 y hy
 exact a3k g (bel (bfld hb 1) y hy)
theorem ap8 {n:Nat}{s:PV} (h:abc Tryz.prog n 26 s) (hb:aat s<=1048576):SOk s:=by
 obtain ⟨m0,g0⟩:=ab9 h Tryz.underlying26 0 _ rfl
 obtain ⟨m1,g1⟩:=ab9 h Tryz.underlying26 1 _ rfl
 obtain ⟨m2,g2⟩:=ab9 h Tryz.underlying26 2 _ rfl
 refine ⟨⟨ahp (bfld hb 0),ahp (bfld hb 1),ahp (bfld hb 2)⟩,fun y hy=>?_,fun y hy=>?_,fun y hy=>?_⟩
 ·obtain ⟨m,g⟩:=ahu g0 Tryz.underlying22 y hy
  exact a5n g (bel (bfld hb 0) y hy)
 ·obtain ⟨m,g⟩:=ahu g1 Tryz.underlying23 y hy
  exact a2u g (bel (bfld hb 1) y hy)
 ·obtain ⟨m,g⟩:=ahu g2 Tryz.underlying24 y hy
  exact a5u g (bel (bfld hb 2) y hy)
end Go.Ab
