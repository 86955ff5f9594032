/- What a row's reading gives is small enough (schemas). -/
import Derived.Test.YtjogoleiodbfdaaGreatDoorPFindT
set_option linter.unusedVariables false
set_option linter.unusedSimpArgs false
set_option linter.unnecessarySimpa false
namespace Go.Ab
open Go Go.Proofs Go.Proofs.YtjogoleiodbfdaaGreatDoor
theorem acn {P:Program}{n:Nat}{T:TypeId}{v:PV}{H:Array Field} (h:abg P n T v) (O:P.underlying T=some (.struct H)) (i:Nat) (f:Field) (I:H[i]?=some f):∃ m,abg P m f.type (v.fld i):=by
 obtain ⟨o,m,rfl,M,Z⟩:=amp h O;have J:i<o.length:=by rw [M];exact (Array.getElem?_eq_some_iff.1 I).1
 refine ⟨m,Z i _ f ?_ I⟩;show o[i]?=some (o.getD i .bad);rw [aae J];exact As J
theorem aix {P:Program}{n:Nat}{T E:TypeId}{v:PV} (h:abg P n T v) (H:P.underlying T=some (.slice E)):∀ x,x∈v.asList->∃ m,abg P m E x:=by obtain ⟨xs,m,rfl,I⟩:=axo h H;exact λx o=>⟨m,I x o⟩
theorem bfld {v:PV}{n:Nat} (h:aat v<=n) (i:Nat):aat (v.fld i)<=n:=Nat.le_trans (ads v i) h
theorem bel {v:PV}{n:Nat} (I:aat v<=n):∀ x,x∈v.asList->aat x<=n:=λx h=>by have o:=afi v;have H:=aeo h;omega
theorem bstr {v:PV}{n:Nat} (h:aat v<=n):v.asStr.length<=n:=by have:=avr v;omega
theorem aip {v:PV}{n:Nat} (h:aat v<=n):v.asList.length<=n:=by have:=aep v;omega
theorem anw {n:Nat}{v:PV} (h:abg Tryz.prog n 45 v) (H:aat v<=1048576):ac3 v:=by
 obtain ⟨M,m,rfl,J,I⟩:=amp h Tryz.underlying45;match M,J with
 | [a0,a1,a2,a3,a4,a5,a6],_=>
  obtain ⟨b,rfl,o⟩:=a4h (I 1 a1 _ rfl rfl) Tryz.underlying39;have Z:=aep a3;have h4:=aep a4;have h5:=aep a5;have h6:=aep a6;have O:=avr a2;have o:=bounds_u64 o;simp only [aat,aay] at H;refine ⟨?_,?_,?_,?_⟩
  ·show a3.asList.length+a4.asList.length+a5.asList.length+a6.asList.length<=1048576;omega
  ·show a2.asStr.length<=1048576;omega
  ·exact o.1
  ·show b<18446744073709551616;omega
theorem ayc {n:Nat}{v:PV} (h:abg Tryz.prog n 47 v) (o:aat v<=1048576):agt v:=by obtain ⟨m,g⟩:=acn h Tryz.underlying47 1 _ rfl;exact ⟨anw g (bfld o 1),bstr (bfld o 0)⟩
theorem ah7 {n:Nat}{v:PV} (h:abg Tryz.prog n 48 v) (H:aat v<=1048576):∀ x,x∈v.asList->agt x:=λx o=>by obtain ⟨m,g⟩:=aix h Tryz.underlying48 x o;exact ayc g (bel H x o)
theorem bah {n:Nat}{x:PV} (h:abg Tryz.prog n 50 x) (o:aat x<=1048576):OkFld x:=by obtain ⟨J,H⟩:=acn h Tryz.underlying50 7 _ rfl;obtain ⟨M,I⟩:=acn h Tryz.underlying50 8 _ rfl;exact ⟨bstr (bfld o 1),bstr (bfld (bfld o 4) 1),bstr (bfld o 5),anw H (bfld o 7),aip (bfld o 8),ah7 I (bfld o 8)⟩
theorem baz {n:Nat}{x:PV} (h:abg Tryz.prog n 55 x) (o:aat x<=1048576):OkMsg x:=by obtain ⟨M,I⟩:=acn h Tryz.underlying55 1 _ rfl;obtain ⟨O,J⟩:=acn h Tryz.underlying55 4 _ rfl;refine ⟨bstr (bfld o 0),aip (bfld o 1),λy H=>?_,aip (bfld o 2),aip (bfld o 3),λy H=>bstr (bel (bfld o 3) y H),aip (bfld o 4),ah7 J (bfld o 4)⟩;obtain ⟨m,g⟩:=aix I Tryz.underlying51 y H;exact bah g (bel (bfld o 1) y H)
theorem a8l {n:Nat}{x:PV} (h:abg Tryz.prog n 98 x) (o:aat x<=1048576):OkItem x:=by obtain ⟨I,H⟩:=acn h Tryz.underlying98 2 _ rfl;exact ⟨bstr (bfld o 0),aip (bfld o 2),ah7 H (bfld o 2)⟩
theorem a7z {n:Nat}{x:PV} (h:abg Tryz.prog n 85 x) (o:aat x<=1048576):OkEnum x:=by obtain ⟨M,I⟩:=acn h Tryz.underlying85 2 _ rfl;obtain ⟨O,J⟩:=acn h Tryz.underlying85 4 _ rfl;refine ⟨bstr (bfld o 0),aip (bfld o 2),λy H=>?_,aip (bfld o 3),aip (bfld o 4),ah7 J (bfld o 4)⟩;obtain ⟨m,g⟩:=aix I Tryz.underlying83 y H;exact a8l g (bel (bfld o 2) y H)
theorem a8t {n:Nat}{x:PV} (h:abg Tryz.prog n 102 x) (o:aat x<=1048576):OkMeth x:=by obtain ⟨I,H⟩:=acn h Tryz.underlying102 4 _ rfl;exact ⟨bstr (bfld o 0),bstr (bfld o 1),bstr (bfld o 2),aip (bfld o 4),ah7 H (bfld o 4)⟩
theorem ba2 {n:Nat}{x:PV} (h:abg Tryz.prog n 90 x) (o:aat x<=1048576):OkSvc x:=by obtain ⟨M,I⟩:=acn h Tryz.underlying90 1 _ rfl;obtain ⟨O,J⟩:=acn h Tryz.underlying90 2 _ rfl;refine ⟨bstr (bfld o 0),aip (bfld o 1),λy H=>?_,aip (bfld o 2),ah7 J (bfld o 2)⟩;obtain ⟨m,g⟩:=aix I Tryz.underlying88 y H;exact a8t g (bel (bfld o 1) y H)
theorem asr {n:Nat}{s:PV} (h:abg Tryz.prog n 26 s) (H:aat s<=1048576):SOk s:=by
 obtain ⟨O,I⟩:=acn h Tryz.underlying26 0 _ rfl;obtain ⟨Z,J⟩:=acn h Tryz.underlying26 1 _ rfl;obtain ⟨m2,M⟩:=acn h Tryz.underlying26 2 _ rfl;refine ⟨⟨aip (bfld H 0),aip (bfld H 1),aip (bfld H 2)⟩,λy o=>?_,λy o=>?_,λy o=>?_⟩
 ·obtain ⟨m,g⟩:=aix I Tryz.underlying22 y o;exact baz g (bel (bfld H 0) y o)
 ·obtain ⟨m,g⟩:=aix J Tryz.underlying23 y o;exact a7z g (bel (bfld H 1) y o)
 ·obtain ⟨m,g⟩:=aix M Tryz.underlying24 y o;exact ba2 g (bel (bfld H 2) y o)
end Go.Ab
