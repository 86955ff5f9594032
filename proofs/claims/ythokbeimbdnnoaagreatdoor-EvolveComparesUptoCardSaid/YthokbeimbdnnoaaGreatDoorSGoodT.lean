/- What a row's reading gives is small enough (schemas). -/
import Derived.Test.YthokbeimbdnnoaaGreatDoorPComparesT
set_option linter.unusedVariables false
set_option linter.unusedSimpArgs false
set_option linter.unnecessarySimpa false
namespace Go.Ab
open Go Go.Proofs Go.Proofs.YthokbeimbdnnoaaGreatDoor
theorem aci {P:Program}{n:Nat}{T:TypeId}{v:PV}{z:Array Field} (h:abe P n T v) (M:P.underlying T=some (.struct z)) (i:Nat) (f:Field) (H:z[i]?=some f):∃ m,abe P m f.type (v.fld i):=by
 obtain ⟨o,m,rfl,J,O⟩:=als h M;have I:i<o.length:=by rw [J];exact (Array.getElem?_eq_some_iff.1 H).1
 refine ⟨m,O i _ f ?_ H⟩;show o[i]?=some (o.getD i .bad);rw [aaf I];exact Aq I
theorem aid {P:Program}{n:Nat}{T E:TypeId}{v:PV} (h:abe P n T v) (z:P.underlying T=some (.slice E)):∀ x,x∈v.asList->∃ m,abe P m E x:=by obtain ⟨xs,m,rfl,H⟩:=avx h z;exact λx o=>⟨m,H x o⟩
theorem bfld {v:PV}{n:Nat} (h:aau v<=n) (i:Nat):aau (v.fld i)<=n:=Nat.le_trans (adc v i) h
theorem bel {v:PV}{n:Nat} (H:aau v<=n):∀ x,x∈v.asList->aau x<=n:=λx h=>by have o:=ae6 v;have z:=aee h;omega
theorem bstr {v:PV}{n:Nat} (h:aau v<=n):v.asStr.length<=n:=by have:=at7 v;omega
theorem ah6 {v:PV}{n:Nat} (h:aau v<=n):v.asList.length<=n:=by have:=aef v;omega
theorem amt {n:Nat}{v:PV} (h:abe Tryz.prog n 56 v) (z:aau v<=1048576):acv v:=by
 obtain ⟨J,m,rfl,I,H⟩:=als h Tryz.underlying56;match J,I with
 | [a0,a1,a2,a3,a4,a5,a6],_=>
  obtain ⟨b,rfl,o⟩:=a1l (H 1 a1 _ rfl rfl) Tryz.underlying50;have O:=aef a3;have Z:=aef a4;have h5:=aef a5;have h6:=aef a6;have M:=at7 a2;have o:=bounds_u64 o;simp only [aau,aaw] at z;refine ⟨?_,?_,?_,?_⟩
  ·show a3.asList.length+a4.asList.length+a5.asList.length+a6.asList.length<=1048576;omega
  ·show a2.asStr.length<=1048576;omega
  ·exact o.1
  ·show b<18446744073709551616;omega
theorem awf {n:Nat}{v:PV} (h:abe Tryz.prog n 114 v) (o:aau v<=1048576):agd v:=by obtain ⟨m,g⟩:=aci h Tryz.underlying114 1 _ rfl;exact ⟨amt g (bfld o 1),bstr (bfld o 0)⟩
theorem ahp {n:Nat}{v:PV} (h:abe Tryz.prog n 57 v) (z:aau v<=1048576):∀ x,x∈v.asList->agd x:=λx o=>by obtain ⟨m,g⟩:=aid h Tryz.underlying57 x o;exact awf g (bel z x o)
theorem a7l {n:Nat}{x:PV} (h:abe Tryz.prog n 59 x) (o:aau x<=1048576):OkFld x:=by obtain ⟨I,z⟩:=aci h Tryz.underlying59 7 _ rfl;obtain ⟨J,H⟩:=aci h Tryz.underlying59 8 _ rfl;exact ⟨bstr (bfld o 1),bstr (bfld (bfld o 4) 1),bstr (bfld o 5),amt z (bfld o 7),ah6 (bfld o 8),ahp H (bfld o 8)⟩
theorem a8b {n:Nat}{x:PV} (h:abe Tryz.prog n 63 x) (o:aau x<=1048576):OkMsg x:=by obtain ⟨J,H⟩:=aci h Tryz.underlying63 1 _ rfl;obtain ⟨M,I⟩:=aci h Tryz.underlying63 4 _ rfl;refine ⟨bstr (bfld o 0),ah6 (bfld o 1),λy z=>?_,ah6 (bfld o 2),ah6 (bfld o 3),λy z=>bstr (bel (bfld o 3) y z),ah6 (bfld o 4),ahp I (bfld o 4)⟩;obtain ⟨m,g⟩:=aid H Tryz.underlying60 y z;exact a7l g (bel (bfld o 1) y z)
theorem a5q {n:Nat}{x:PV} (h:abe Tryz.prog n 103 x) (o:aau x<=1048576):OkItem x:=by obtain ⟨H,z⟩:=aci h Tryz.underlying103 2 _ rfl;exact ⟨bstr (bfld o 0),ah6 (bfld o 2),ahp z (bfld o 2)⟩
theorem a5h {n:Nat}{x:PV} (h:abe Tryz.prog n 73 x) (o:aau x<=1048576):OkEnum x:=by obtain ⟨J,H⟩:=aci h Tryz.underlying73 2 _ rfl;obtain ⟨M,I⟩:=aci h Tryz.underlying73 4 _ rfl;refine ⟨bstr (bfld o 0),ah6 (bfld o 2),λy z=>?_,ah6 (bfld o 3),ah6 (bfld o 4),ahp I (bfld o 4)⟩;obtain ⟨m,g⟩:=aid H Tryz.underlying71 y z;exact a5q g (bel (bfld o 2) y z)
theorem a5y {n:Nat}{x:PV} (h:abe Tryz.prog n 105 x) (o:aau x<=1048576):OkMeth x:=by obtain ⟨H,z⟩:=aci h Tryz.underlying105 4 _ rfl;exact ⟨bstr (bfld o 0),bstr (bfld o 1),bstr (bfld o 2),ah6 (bfld o 4),ahp z (bfld o 4)⟩
theorem a8e {n:Nat}{x:PV} (h:abe Tryz.prog n 78 x) (o:aau x<=1048576):OkSvc x:=by obtain ⟨J,H⟩:=aci h Tryz.underlying78 1 _ rfl;obtain ⟨M,I⟩:=aci h Tryz.underlying78 2 _ rfl;refine ⟨bstr (bfld o 0),ah6 (bfld o 1),λy z=>?_,ah6 (bfld o 2),ahp I (bfld o 2)⟩;obtain ⟨m,g⟩:=aid H Tryz.underlying76 y z;exact a5y g (bel (bfld o 1) y z)
theorem arh {n:Nat}{s:PV} (h:abe Tryz.prog n 26 s) (z:aau s<=1048576):SOk s:=by
 obtain ⟨M,H⟩:=aci h Tryz.underlying26 0 _ rfl;obtain ⟨O,I⟩:=aci h Tryz.underlying26 1 _ rfl;obtain ⟨Z,J⟩:=aci h Tryz.underlying26 2 _ rfl;refine ⟨⟨ah6 (bfld z 0),ah6 (bfld z 1),ah6 (bfld z 2)⟩,λy o=>?_,λy o=>?_,λy o=>?_⟩
 ·obtain ⟨m,g⟩:=aid H Tryz.underlying22 y o;exact a8b g (bel (bfld z 0) y o)
 ·obtain ⟨m,g⟩:=aid I Tryz.underlying23 y o;exact a5h g (bel (bfld z 1) y o)
 ·obtain ⟨m,g⟩:=aid J Tryz.underlying24 y o;exact a8e g (bel (bfld z 2) y o)
end Go.Ab
