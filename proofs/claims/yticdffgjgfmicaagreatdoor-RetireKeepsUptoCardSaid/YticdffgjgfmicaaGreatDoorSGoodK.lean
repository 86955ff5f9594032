/- What a row's reading gives is small enough (schemas). -/
import Derived.Test.YticdffgjgfmicaaGreatDoorPKeepK
set_option linter.unusedVariables false
set_option linter.unusedSimpArgs false
set_option linter.unnecessarySimpa false
namespace Go.Ab
open Go Go.Proofs Go.Proofs.YticdffgjgfmicaaGreatDoor
theorem ab6{P:Program}{n:Nat}{T:TypeId}{v:PV}{t:Array Field}(h:aba P n T v)(I:P.underlying T=some (.struct t))(i:Nat)(f:Field)(z:t[i]?=some f):∃m,aba P m f.type (v.fld i):=by
 obtain⟨o,m,rfl,H,J⟩:=apn h I;have G:i<o.length:=by rw[H];exact(Array.getElem?_eq_some_iff.1 z).1
 refine⟨m,J i _ f ?_ z⟩;show o[i]?=some (o.getD i .bad);rw[aa9 G];exact Ao G
theorem ahe{P:Program}{n:Nat}{T E:TypeId}{v:PV}(h:aba P n T v)(t:P.underlying T=some (.slice E)):∀x,x∈v.asList->∃m,aba P m E x:=by obtain⟨xs,m,rfl,z⟩:=a4f h t;exact λx o=>⟨m,z x o⟩
theorem bfld{v:PV}{n:Nat}(m:aah v<=n)(i:Nat):aah (v.fld i)<=n:=Nat.le_trans (acf v i) m
theorem bel{v:PV}{n:Nat}(z:aah v<=n):∀x,x∈v.asList->aah x<=n:=λx m=>by have o:=amj v;have t:=ag3 m;omega
theorem bstr{v:PV}{n:Nat}(m:aah v<=n):v.asStr.length<=n:=by have:=att v;omega
theorem ah6{v:PV}{n:Nat}(m:aah v<=n):v.asList.length<=n:=by have:=ae4 v;omega
theorem arh{n:Nat}{v:PV}(h:aba Tryz.prog n 64 v)(t:aah v<=1048576):acn v:=by
 obtain⟨H,m,rfl,G,z⟩:=apn h Tryz.underlying64;match H,G with
 |[a0,a1,a2,a3,a4,a5,a6],_=>
  obtain⟨b,rfl,o⟩:=bdf (z 1 a1 _ rfl rfl) Tryz.underlying43;have J:=ae4 a3;have M:=ae4 a4;have O:=ae4 a5;have U:=ae4 a6;have I:=att a2;have o:=bounds_u64 o;simp only[aah,abq]at t;refine⟨?_,?_,?_,?_⟩
  ·show a3.asList.length+a4.asList.length+a5.asList.length+a6.asList.length<=1048576;omega
  ·show a2.asStr.length<=1048576;omega
  ·exact o.1
  ·show b<18446744073709551616;omega
theorem a5a{n:Nat}{v:PV}(h:aba Tryz.prog n 66 v)(o:aah v<=1048576):ab1 v:=by obtain⟨m,g⟩:=ab6 h Tryz.underlying66 1 _ rfl;exact⟨arh g (bfld o 1),bstr (bfld o 0)⟩
theorem ajh{n:Nat}{v:PV}(h:aba Tryz.prog n 67 v)(t:aah v<=1048576):∀x,x∈v.asList->ab1 x:=λx o=>by obtain⟨m,g⟩:=ahe h Tryz.underlying67 x o;exact a5a g (bel t x o)
theorem bi1{n:Nat}{x:PV}(h:aba Tryz.prog n 69 x)(m:aah x<=1048576):OkFld x:=by obtain⟨z,o⟩:=ab6 h Tryz.underlying69 7 _ rfl;obtain⟨G,t⟩:=ab6 h Tryz.underlying69 8 _ rfl;exact⟨bstr (bfld m 1),bstr (bfld (bfld m 4) 1),bstr (bfld m 5),arh o (bfld m 7),ah6 (bfld m 8),ajh t (bfld m 8)⟩
theorem bjk{n:Nat}{x:PV}(h:aba Tryz.prog n 74 x)(o:aah x<=1048576):OkMsg x:=by obtain⟨H,z⟩:=ab6 h Tryz.underlying74 1 _ rfl;obtain⟨I,G⟩:=ab6 h Tryz.underlying74 4 _ rfl;refine⟨bstr (bfld o 0),ah6 (bfld o 1),λy t=>?_,ah6 (bfld o 2),ah6 (bfld o 3),λy t=>bstr (bel (bfld o 3) y t),ah6 (bfld o 4),ajh G (bfld o 4)⟩;obtain⟨m,g⟩:=ahe z Tryz.underlying70 y t;exact bi1 g (bel (bfld o 1) y t)
theorem bg7{n:Nat}{x:PV}(h:aba Tryz.prog n 124 x)(m:aah x<=1048576):OkItem x:=by obtain⟨t,o⟩:=ab6 h Tryz.underlying124 2 _ rfl;exact⟨bstr (bfld m 0),ah6 (bfld m 2),ajh o (bfld m 2)⟩
theorem bgt{n:Nat}{x:PV}(h:aba Tryz.prog n 121 x)(o:aah x<=1048576):OkEnum x:=by obtain⟨H,z⟩:=ab6 h Tryz.underlying121 2 _ rfl;obtain⟨I,G⟩:=ab6 h Tryz.underlying121 4 _ rfl;refine⟨bstr (bfld o 0),ah6 (bfld o 2),λy t=>?_,ah6 (bfld o 3),ah6 (bfld o 4),ajh G (bfld o 4)⟩;obtain⟨m,g⟩:=ahe z Tryz.underlying119 y t;exact bg7 g (bel (bfld o 2) y t)
theorem bhk{n:Nat}{x:PV}(h:aba Tryz.prog n 130 x)(m:aah x<=1048576):OkMeth x:=by obtain⟨t,o⟩:=ab6 h Tryz.underlying130 4 _ rfl;exact⟨bstr (bfld m 0),bstr (bfld m 1),bstr (bfld m 2),ah6 (bfld m 4),ajh o (bfld m 4)⟩
theorem bj8{n:Nat}{x:PV}(h:aba Tryz.prog n 127 x)(o:aah x<=1048576):OkSvc x:=by obtain⟨H,z⟩:=ab6 h Tryz.underlying127 1 _ rfl;obtain⟨I,G⟩:=ab6 h Tryz.underlying127 2 _ rfl;refine⟨bstr (bfld o 0),ah6 (bfld o 1),λy t=>?_,ah6 (bfld o 2),ajh G (bfld o 2)⟩;obtain⟨m,g⟩:=ahe z Tryz.underlying125 y t;exact bhk g (bel (bfld o 1) y t)
theorem ba5{n:Nat}{s:PV}(h:aba Tryz.prog n 42 s)(t:aah s<=1048576):SOk s:=by
 obtain⟨I,z⟩:=ab6 h Tryz.underlying42 0 _ rfl;obtain⟨J,G⟩:=ab6 h Tryz.underlying42 1 _ rfl;obtain⟨M,H⟩:=ab6 h Tryz.underlying42 2 _ rfl;refine⟨⟨ah6 (bfld t 0),ah6 (bfld t 1),ah6 (bfld t 2)⟩,λy o=>?_,λy o=>?_,λy o=>?_⟩
 ·obtain⟨m,g⟩:=ahe z Tryz.underlying38 y o;exact bjk g (bel (bfld t 0) y o)
 ·obtain⟨m,g⟩:=ahe G Tryz.underlying39 y o;exact bgt g (bel (bfld t 1) y o)
 ·obtain⟨m,g⟩:=ahe H Tryz.underlying40 y o;exact bj8 g (bel (bfld t 2) y o)
end Go.Ab
namespace Go.Ab
open Go Go.Proofs Go.Proofs.YticdffgjgfmicaaGreatDoor
theorem bj3{n:Nat}{r:PV}(h:aba Tryz.prog n 24 r)(I:aah r<=1048576):RegOk r:=by
 obtain⟨U,J⟩:=ab6 h Tryz.underlying24 1 _ rfl;have t:∀x,x∈(r.fld 1).asList->aah x<=1048576/\∃m,aba Tryz.prog m 37 x:=λx t=>⟨bel (bfld I 1) x t,ahe J Tryz.underlying22 x t⟩;have z:∀x,x∈(r.fld 1).asList->∀v,v∈(x.fld 4).asList->aah v<=1048576/\∃m,aba Tryz.prog m 45 v:=λx H v z=>by obtain⟨b,m,g⟩:=t x H;obtain⟨W,O⟩:=ab6 g Tryz.underlying37 4 _ rfl;exact⟨bel (bfld b 4) v z,ahe O Tryz.underlying35 v z⟩
 refine⟨ah6 (bfld I 1),λx o=>bstr (bfld (t x o).1 0),λx o=>bstr (bfld (t x o).1 1),λx o=>ah6 (bfld (t x o).1 4),λx o v G=>?_,λx o v G=>bfld (z x o v G).1 1⟩;obtain⟨b,m,g⟩:=z x o v G;obtain⟨V,M⟩:=ab6 g Tryz.underlying45 1 _ rfl;exact ba5 M (bfld b 1)
end Go.Ab
