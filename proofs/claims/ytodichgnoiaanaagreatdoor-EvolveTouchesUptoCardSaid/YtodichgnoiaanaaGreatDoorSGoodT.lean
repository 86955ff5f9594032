/- What a row's reading gives is small enough (schemas). -/
import Derived.Test.YtodichgnoiaanaaGreatDoorPRfeT
set_option linter.unusedVariables false
set_option linter.unusedSimpArgs false
set_option linter.unnecessarySimpa false
namespace Go.Ab
open Go Go.Proofs Go.Proofs.YtodichgnoiaanaaGreatDoor
theorem aco {P:Program}{n:Nat}{T:TypeId}{v:PV}{z:Array Field} (h:abb P n T v) (I:P.underlying T=some (.struct z)) (i:Nat) (f:Field) (H:z[i]?=some f):∃ m,abb P m f.type (v.fld i):=by
 obtain ⟨o,m,rfl,O,J⟩:=an4 h I;have M:i<o.length:=by grind
 refine ⟨m,J i _ f ?_ H⟩;show o[i]?=some (o.getD i .bad);grind
theorem ajk {P:Program}{n:Nat}{T E:TypeId}{v:PV} (h:abb P n T v) (z:P.underlying T=some (.slice E)):∀ x,x∈v.asList->∃ m,abb P m E x:=by obtain ⟨xs,m,rfl,H⟩:=az7 h z;exact λx o=>⟨m,H x o⟩
theorem bfld {v:PV}{n:Nat} (h:aaq v<=n) (i:Nat):aaq (v.fld i)<=n:=Nat.le_trans (adi v i) h
theorem bel {v:PV}{n:Nat} (H:aaq v<=n):∀ x,x∈v.asList->aaq x<=n:=λx h=>by have o:=aeo v;have z:=ae1 h;omega
theorem bstr {v:PV}{n:Nat} (h:aaq v<=n):v.asStr.length<=n:=by grind [ax8]
theorem ajd {v:PV}{n:Nat} (h:aaq v<=n):v.asList.length<=n:=by grind [ae3]
theorem apb {n:Nat}{v:PV} (h:abb Tryz.prog n 42 v) (z:aaq v<=1048576):ac7 v:=by
 obtain ⟨J,m,rfl,I,H⟩:=an4 h Tryz.underlying42;match J,I with
 | [a0,a1,a2,a3,a4,a5,a6],_=>
  obtain ⟨b,rfl,o⟩:=a8k (H 1 a1 _ rfl rfl) Tryz.underlying36;have O:=ae3 a3;have Z:=ae3 a4;have h5:=ae3 a5;have h6:=ae3 a6;have M:=ax8 a2;have o:=bounds_u64 o;simp only [aaq,aax] at z;refine ⟨?_,?_,?_,?_⟩
  ·show a3.asList.length+a4.asList.length+a5.asList.length+a6.asList.length<=1048576;omega
  ·show a2.asStr.length<=1048576;omega
  ·exact o.1
  ·show b<18446744073709551616;omega
theorem a0t {n:Nat}{v:PV} (h:abb Tryz.prog n 213 v) (o:aaq v<=1048576):ahe v:=by obtain ⟨m,g⟩:=aco h Tryz.underlying213 1 _ rfl;exact ⟨apb g (bfld o 1),bstr (bfld o 0)⟩
theorem ais {n:Nat}{v:PV} (h:abb Tryz.prog n 43 v) (o:aaq v<=1048576):∀ x,x∈v.asList->ahe x:=λx z=>by grind [ajk,Tryz.underlying43,a0t,bel]
theorem bdr {n:Nat}{x:PV} (h:abb Tryz.prog n 45 x) (o:aaq x<=1048576):OkFld x:=by obtain ⟨I,z⟩:=aco h Tryz.underlying45 7 _ rfl;obtain ⟨J,H⟩:=aco h Tryz.underlying45 8 _ rfl;exact ⟨bstr (bfld o 1),bstr (bfld (bfld o 4) 1),bstr (bfld o 5),apb z (bfld o 7),ajd (bfld o 8),ais H (bfld o 8)⟩
theorem beb {n:Nat}{x:PV} (h:abb Tryz.prog n 49 x) (o:aaq x<=1048576):OkMsg x:=by obtain ⟨J,H⟩:=aco h Tryz.underlying49 1 _ rfl;obtain ⟨M,I⟩:=aco h Tryz.underlying49 4 _ rfl;refine ⟨bstr (bfld o 0),ajd (bfld o 1),λy z=>?_,ajd (bfld o 2),ajd (bfld o 3),λy z=>bstr (bel (bfld o 3) y z),ajd (bfld o 4),ais I (bfld o 4)⟩;obtain ⟨m,g⟩:=ajk H Tryz.underlying46 y z;exact bdr g (bel (bfld o 1) y z)
theorem bcb {n:Nat}{x:PV} (h:abb Tryz.prog n 131 x) (o:aaq x<=1048576):OkItem x:=by obtain ⟨H,z⟩:=aco h Tryz.underlying131 2 _ rfl;exact ⟨bstr (bfld o 0),ajd (bfld o 2),ais z (bfld o 2)⟩
theorem bb3 {n:Nat}{x:PV} (h:abb Tryz.prog n 72 x) (o:aaq x<=1048576):OkEnum x:=by obtain ⟨J,H⟩:=aco h Tryz.underlying72 2 _ rfl;obtain ⟨M,I⟩:=aco h Tryz.underlying72 4 _ rfl;refine ⟨bstr (bfld o 0),ajd (bfld o 2),λy z=>?_,ajd (bfld o 3),ajd (bfld o 4),ais I (bfld o 4)⟩;obtain ⟨m,g⟩:=ajk H Tryz.underlying70 y z;exact bcb g (bel (bfld o 2) y z)
theorem bcj {n:Nat}{x:PV} (h:abb Tryz.prog n 133 x) (o:aaq x<=1048576):OkMeth x:=by obtain ⟨H,z⟩:=aco h Tryz.underlying133 4 _ rfl;exact ⟨bstr (bfld o 0),bstr (bfld o 1),bstr (bfld o 2),ajd (bfld o 4),ais z (bfld o 4)⟩
theorem ben {n:Nat}{x:PV} (h:abb Tryz.prog n 76 x) (o:aaq x<=1048576):OkSvc x:=by obtain ⟨J,H⟩:=aco h Tryz.underlying76 1 _ rfl;obtain ⟨M,I⟩:=aco h Tryz.underlying76 2 _ rfl;refine ⟨bstr (bfld o 0),ajd (bfld o 1),λy z=>?_,ajd (bfld o 2),ais I (bfld o 2)⟩;obtain ⟨m,g⟩:=ajk H Tryz.underlying74 y z;exact bcj g (bel (bfld o 1) y z)
theorem au4 {n:Nat}{s:PV} (h:abb Tryz.prog n 26 s) (z:aaq s<=1048576):SOk s:=by
 obtain ⟨M,H⟩:=aco h Tryz.underlying26 0 _ rfl;obtain ⟨O,I⟩:=aco h Tryz.underlying26 1 _ rfl;obtain ⟨Z,J⟩:=aco h Tryz.underlying26 2 _ rfl;refine ⟨⟨ajd (bfld z 0),ajd (bfld z 1),ajd (bfld z 2)⟩,λy o=>?_,λy o=>?_,λy o=>?_⟩
 ·obtain ⟨m,g⟩:=ajk H Tryz.underlying22 y o;exact beb g (bel (bfld z 0) y o)
 ·obtain ⟨m,g⟩:=ajk I Tryz.underlying23 y o;exact bb3 g (bel (bfld z 1) y o)
 ·obtain ⟨m,g⟩:=ajk J Tryz.underlying24 y o;exact ben g (bel (bfld z 2) y o)
end Go.Ab
