/- What a row's reading gives is small enough (schemas). -/
import Derived.Test.YtodichgnoiaanaaGreatAbEndZ
import Derived.Test.YtodichgnoiaanaaGreatPCmpT
import Derived.Test.YtodichgnoiaanaaGreatPLifeT
set_option linter.unusedVariables false
set_option linter.unusedSimpArgs false
set_option linter.unnecessarySimpa false
namespace Go.Ab
open Go Go.Proofs Go.Proofs.YtodichgnoiaanaaGreat
theorem abv {P:Program}{n:Nat}{T:TypeId}{v:PV}{fs:Array Field} (h:aa8 P n T v) (hu:P.underlying T=some (.struct fs)) (i:Nat) (f:Field) (hf:fs[i]?=some f):∃ m,aa8 P m f.type (v.fld i):=by
 obtain ⟨vs,m,rfl,hl,hx⟩:=alz h hu
 have hi:i<vs.length:=by rw [hl];exact (Array.getElem?_eq_some_iff.1 hf).1
 refine ⟨m,hx i _ f ?_ hf⟩
 show vs[i]?=some (vs.getD i .bad)
 rw [aav hi]
 exact List.getElem?_eq_getElem hi
theorem aft {P:Program}{n:Nat}{T E:TypeId}{v:PV} (h:aa8 P n T v) (hu:P.underlying T=some (.slice E)):∀ x,x∈v.asList->∃ m,aa8 P m E x:=by
 obtain ⟨xs,m,rfl,hx⟩:=aw1 h hu
 exact fun x hm=>⟨m,hx x hm⟩
theorem bfld {v:PV}{n:Nat} (hb:aam v<=n) (i:Nat):aam (v.fld i)<=n:=Nat.le_trans (abo v i) hb
theorem bel {v:PV}{n:Nat} (hb:aam v<=n):∀ x,x∈v.asList->aam x<=n:=fun x hx=>by
 have h1:=ae2 v
 have h2:=adh hx
 omega
theorem bstr {v:PV}{n:Nat} (hb:aam v<=n):v.asStr.length<=n:=by have:=ao2 v;omega
theorem agh {v:PV}{n:Nat} (hb:aam v<=n):v.asList.length<=n:=by have:=ad9 v;omega
theorem am9 {n:Nat}{v:PV} (h:aa8 Tryz.prog n 63 v) (hb:aam v<=1048576):adu v:=by
 obtain ⟨vs,m,rfl,hl,hf⟩:=alz h Tryz.underlying63
 match vs,hl with
 | [a0,a1,a2,a3,a4,a5,a6],_=>
  obtain ⟨b,rfl,hw⟩:=a2s (hf 1 a1 _ rfl rfl) Tryz.underlying40
  have h3:=ad9 a3
  have h4:=ad9 a4
  have h5:=ad9 a5
  have h6:=ad9 a6
  have h2:=ao2 a2
  have hw:=bounds_u64 hw
  simp only [aam,aaw] at hb
  refine ⟨?_,?_,?_,?_⟩
  ·show a3.asList.length+a4.asList.length+a5.asList.length+a6.asList.length<=1048576
   omega
  ·show a2.asStr.length<=1048576
   omega
  ·exact hw.1
  ·show b<18446744073709551616
   omega
theorem axj {n:Nat}{v:PV} (h:aa8 Tryz.prog n 65 v) (hb:aam v<=1048576):acv v:=by
 obtain ⟨m,g⟩:=abv h Tryz.underlying65 1 _ rfl
 exact ⟨am9 g (bfld hb 1),bstr (bfld hb 0)⟩
theorem ahi {n:Nat}{v:PV} (h:aa8 Tryz.prog n 66 v) (hb:aam v<=1048576):∀ x,x∈v.asList->acv x:=fun x hx=>by
 obtain ⟨m,g⟩:=aft h Tryz.underlying66 x hx
 exact axj g (bel hb x hx)
theorem a6t {n:Nat}{x:PV} (h:aa8 Tryz.prog n 68 x) (hb:aam x<=1048576):OkFld x:=by
 obtain ⟨m7,g7⟩:=abv h Tryz.underlying68 7 _ rfl
 obtain ⟨m8,g8⟩:=abv h Tryz.underlying68 8 _ rfl
 exact ⟨bstr (bfld hb 1),bstr (bfld (bfld hb 4) 1),bstr (bfld hb 5),am9 g7 (bfld hb 7),agh (bfld hb 8),ahi g8 (bfld hb 8)⟩
theorem a7f {n:Nat}{x:PV} (h:aa8 Tryz.prog n 73 x) (hb:aam x<=1048576):OkMsg x:=by
 obtain ⟨m1,g1⟩:=abv h Tryz.underlying73 1 _ rfl
 obtain ⟨m4,g4⟩:=abv h Tryz.underlying73 4 _ rfl
 refine ⟨bstr (bfld hb 0),agh (bfld hb 1),fun y hy=>?_,agh (bfld hb 2),agh (bfld hb 3),fun y hy=>bstr (bel (bfld hb 3) y hy),agh (bfld hb 4),ahi g4 (bfld hb 4)⟩
 obtain ⟨m,g⟩:=aft g1 Tryz.underlying69 y hy
 exact a6t g (bel (bfld hb 1) y hy)
theorem a5j {n:Nat}{x:PV} (h:aa8 Tryz.prog n 164 x) (hb:aam x<=1048576):OkItem x:=by
 obtain ⟨m2,g2⟩:=abv h Tryz.underlying164 2 _ rfl
 exact ⟨bstr (bfld hb 0),agh (bfld hb 2),ahi g2 (bfld hb 2)⟩
theorem a5c {n:Nat}{x:PV} (h:aa8 Tryz.prog n 116 x) (hb:aam x<=1048576):OkEnum x:=by
 obtain ⟨m2,g2⟩:=abv h Tryz.underlying116 2 _ rfl
 obtain ⟨m4,g4⟩:=abv h Tryz.underlying116 4 _ rfl
 refine ⟨bstr (bfld hb 0),agh (bfld hb 2),fun y hy=>?_,agh (bfld hb 3),agh (bfld hb 4),ahi g4 (bfld hb 4)⟩
 obtain ⟨m,g⟩:=aft g2 Tryz.underlying114 y hy
 exact a5j g (bel (bfld hb 2) y hy)
theorem a5q {n:Nat}{x:PV} (h:aa8 Tryz.prog n 166 x) (hb:aam x<=1048576):OkMeth x:=by
 obtain ⟨m4,g4⟩:=abv h Tryz.underlying166 4 _ rfl
 exact ⟨bstr (bfld hb 0),bstr (bfld hb 1),bstr (bfld hb 2),agh (bfld hb 4),ahi g4 (bfld hb 4)⟩
theorem a7q {n:Nat}{x:PV} (h:aa8 Tryz.prog n 120 x) (hb:aam x<=1048576):OkSvc x:=by
 obtain ⟨m1,g1⟩:=abv h Tryz.underlying120 1 _ rfl
 obtain ⟨m2,g2⟩:=abv h Tryz.underlying120 2 _ rfl
 refine ⟨bstr (bfld hb 0),agh (bfld hb 1),fun y hy=>?_,agh (bfld hb 2),ahi g2 (bfld hb 2)⟩
 obtain ⟨m,g⟩:=aft g1 Tryz.underlying118 y hy
 exact a5q g (bel (bfld hb 1) y hy)
theorem a06 {n:Nat}{s:PV} (h:aa8 Tryz.prog n 39 s) (hb:aam s<=1048576):SOk s:=by
 obtain ⟨m0,g0⟩:=abv h Tryz.underlying39 0 _ rfl
 obtain ⟨m1,g1⟩:=abv h Tryz.underlying39 1 _ rfl
 obtain ⟨m2,g2⟩:=abv h Tryz.underlying39 2 _ rfl
 refine ⟨⟨agh (bfld hb 0),agh (bfld hb 1),agh (bfld hb 2)⟩,fun y hy=>?_,fun y hy=>?_,fun y hy=>?_⟩
 ·obtain ⟨m,g⟩:=aft g0 Tryz.underlying35 y hy
  exact a7f g (bel (bfld hb 0) y hy)
 ·obtain ⟨m,g⟩:=aft g1 Tryz.underlying36 y hy
  exact a5c g (bel (bfld hb 1) y hy)
 ·obtain ⟨m,g⟩:=aft g2 Tryz.underlying37 y hy
  exact a7q g (bel (bfld hb 2) y hy)
end Go.Ab
namespace Go.Ab
open Go Go.Proofs Go.Proofs.YtodichgnoiaanaaGreat
theorem a7n {n:Nat}{r:PV} (h:aa8 Tryz.prog n 24 r) (hb:aam r<=1048576):RegOk r:=by
 obtain ⟨m1,g1⟩:=abv h Tryz.underlying24 1 _ rfl
 have hx:∀ x,x∈(r.fld 1).asList->aam x<=1048576/\∃ m,aa8 Tryz.prog m 48 x:=fun x hx=>⟨bel (bfld hb 1) x hx,aft g1 Tryz.underlying22 x hx⟩
 have hv:∀ x,x∈(r.fld 1).asList->∀ v,v∈(x.fld 4).asList->aam v<=1048576/\∃ m,aa8 Tryz.prog m 42 v:=fun x hx' v hv=>by
  obtain ⟨b,m,g⟩:=hx x hx'
  obtain ⟨m4,g4⟩:=abv g Tryz.underlying48 4 _ rfl
  exact ⟨bel (bfld b 4) v hv,aft g4 Tryz.underlying46 v hv⟩
 refine ⟨agh (bfld hb 1),fun x h1=>bstr (bfld (hx x h1).1 0),fun x h1=>bstr (bfld (hx x h1).1 1),fun x h1=>agh (bfld (hx x h1).1 4),fun x h1 v h2=>?_,fun x h1 v h2=>bfld (hv x h1 v h2).1 1⟩
 obtain ⟨b,m,g⟩:=hv x h1 v h2
 obtain ⟨m2,g2⟩:=abv g Tryz.underlying42 1 _ rfl
 exact a06 g2 (bfld b 1)
end Go.Ab
