/- What a row's reading gives is small enough (schemas). -/
import Derived.Test.YtofplaamkkpciaaGreatDoorPRg3R
set_option linter.unusedVariables false
set_option linter.unusedSimpArgs false
set_option linter.unnecessarySimpa false
namespace Go.Ab
open Go Go.Proofs Go.Proofs.YtofplaamkkpciaaGreatDoor
theorem acb{P:Program}{n:Nat}{T:TypeId}{v:PV}{o:Array Field}(h:abd P n T v)(H:P.underlying T=some (.struct o))(i:Nat)(f:Field)(t:o[i]?=some f):∃m,abd P m f.type (v.fld i):=by
 obtain⟨vs,m,rfl,G,I⟩:=ap9 h H;have z:i<vs.length:=by rw[G];exact(Array.getElem?_eq_some_iff.1 t).1
 refine⟨m,I i _ f ?_ t⟩;show vs[i]?=some (vs.getD i .bad);rw[abw z];exact Ap z
theorem ahi{P:Program}{n:Nat}{T E:TypeId}{v:PV}(h:abd P n T v)(t:P.underlying T=some (.slice E)):∀x,x∈v.asList->∃m,abd P m E x:=by obtain⟨xs,m,rfl,z⟩:=a5o h t;exact λx o=>⟨m,z x o⟩
theorem bfld{v:PV}{n:Nat}(m:aag v<=n)(i:Nat):aag (v.fld i)<=n:=Nat.le_trans (ab6 v i) m
theorem bel{v:PV}{n:Nat}(z:aag v<=n):∀x,x∈v.asList->aag x<=n:=λx m=>by have o:=amz v;have t:=ag8 m;omega
theorem bstr{v:PV}{n:Nat}(m:aag v<=n):v.asStr.length<=n:=by have:=auh v;omega
theorem aid{v:PV}{n:Nat}(m:aag v<=n):v.asList.length<=n:=by have:=afb v;omega
theorem ar3{n:Nat}{v:PV}(h:abd Tryz.prog n 83 v)(t:aag v<=1048576):acp v:=by
 obtain⟨vs,m,rfl,G,z⟩:=ap9 h Tryz.underlying83;match vs,G with
 |[a0,a1,a2,a3,a4,a5,a6],_=>
  obtain⟨b,rfl,o⟩:=bed (z 1 a1 _ rfl rfl) Tryz.underlying38;have I:=afb a3;have J:=afb a4;have M:=afb a5;have O:=afb a6;have H:=auh a2;have o:=bounds_u64 o;simp only[aag,abq]at t;refine⟨?_,?_,?_,?_⟩
  ·show a3.asList.length+a4.asList.length+a5.asList.length+a6.asList.length<=1048576;omega
  ·show a2.asStr.length<=1048576;omega
  ·exact o.1
  ·show b<18446744073709551616;omega
theorem a6h{n:Nat}{v:PV}(h:abd Tryz.prog n 119 v)(o:aag v<=1048576):ab5 v:=by obtain⟨m,g⟩:=acb h Tryz.underlying119 1 _ rfl;exact⟨ar3 g (bfld o 1),bstr (bfld o 0)⟩
theorem ajr{n:Nat}{v:PV}(h:abd Tryz.prog n 71 v)(t:aag v<=1048576):∀x,x∈v.asList->ab5 x:=λx o=>by obtain⟨m,g⟩:=ahi h Tryz.underlying71 x o;exact a6h g (bel t x o)
theorem bka{n:Nat}{x:PV}(h:abd Tryz.prog n 85 x)(m:aag x<=1048576):OkFld x:=by obtain⟨z,o⟩:=acb h Tryz.underlying85 7 _ rfl;obtain⟨G,t⟩:=acb h Tryz.underlying85 8 _ rfl;exact⟨bstr (bfld m 1),bstr (bfld (bfld m 4) 1),bstr (bfld m 5),ar3 o (bfld m 7),aid (bfld m 8),ajr t (bfld m 8)⟩
theorem bkv{n:Nat}{x:PV}(h:abd Tryz.prog n 73 x)(o:aag x<=1048576):OkMsg x:=by obtain⟨H,z⟩:=acb h Tryz.underlying73 1 _ rfl;obtain⟨I,G⟩:=acb h Tryz.underlying73 4 _ rfl;refine⟨bstr (bfld o 0),aid (bfld o 1),λy t=>?_,aid (bfld o 2),aid (bfld o 3),λy t=>bstr (bel (bfld o 3) y t),aid (bfld o 4),ajr G (bfld o 4)⟩;obtain⟨m,g⟩:=ahi z Tryz.underlying68 y t;exact bka g (bel (bfld o 1) y t)
theorem bh2{n:Nat}{x:PV}(h:abd Tryz.prog n 90 x)(m:aag x<=1048576):OkItem x:=by obtain⟨m2,o⟩:=acb h Tryz.underlying90 2 _ rfl;exact⟨bstr (bfld m 0),aid (bfld m 2),ajr o (bfld m 2)⟩
theorem bhm{n:Nat}{x:PV}(h:abd Tryz.prog n 88 x)(o:aag x<=1048576):OkEnum x:=by obtain⟨m2,z⟩:=acb h Tryz.underlying88 2 _ rfl;obtain⟨H,G⟩:=acb h Tryz.underlying88 4 _ rfl;refine⟨bstr (bfld o 0),aid (bfld o 2),λy t=>?_,aid (bfld o 3),aid (bfld o 4),ajr G (bfld o 4)⟩;obtain⟨m,g⟩:=ahi z Tryz.underlying86 y t;exact bh2 g (bel (bfld o 2) y t)
theorem big{n:Nat}{x:PV}(h:abd Tryz.prog n 95 x)(m:aag x<=1048576):OkMeth x:=by obtain⟨t,o⟩:=acb h Tryz.underlying95 4 _ rfl;exact⟨bstr (bfld m 0),bstr (bfld m 1),bstr (bfld m 2),aid (bfld m 4),ajr o (bfld m 4)⟩
theorem blm{n:Nat}{x:PV}(h:abd Tryz.prog n 93 x)(o:aag x<=1048576):OkSvc x:=by obtain⟨H,z⟩:=acb h Tryz.underlying93 1 _ rfl;obtain⟨m2,G⟩:=acb h Tryz.underlying93 2 _ rfl;refine⟨bstr (bfld o 0),aid (bfld o 1),λy t=>?_,aid (bfld o 2),ajr G (bfld o 2)⟩;obtain⟨m,g⟩:=ahi z Tryz.underlying91 y t;exact big g (bel (bfld o 1) y t)
theorem bb4{n:Nat}{s:PV}(h:abd Tryz.prog n 37 s)(t:aag s<=1048576):SOk s:=by
 obtain⟨I,z⟩:=acb h Tryz.underlying37 0 _ rfl;obtain⟨J,G⟩:=acb h Tryz.underlying37 1 _ rfl;obtain⟨m2,H⟩:=acb h Tryz.underlying37 2 _ rfl;refine⟨⟨aid (bfld t 0),aid (bfld t 1),aid (bfld t 2)⟩,λy o=>?_,λy o=>?_,λy o=>?_⟩
 ·obtain⟨m,g⟩:=ahi z Tryz.underlying33 y o;exact bkv g (bel (bfld t 0) y o)
 ·obtain⟨m,g⟩:=ahi G Tryz.underlying34 y o;exact bhm g (bel (bfld t 1) y o)
 ·obtain⟨m,g⟩:=ahi H Tryz.underlying35 y o;exact blm g (bel (bfld t 2) y o)
end Go.Ab
namespace Go.Ab
open Go Go.Proofs Go.Proofs.YtofplaamkkpciaaGreatDoor
theorem blc{n:Nat}{r:PV}(h:abd Tryz.prog n 24 r)(I:aag r<=1048576):RegOk r:=by
 obtain⟨U,J⟩:=acb h Tryz.underlying24 1 _ rfl;have t:∀x,x∈(r.fld 1).asList->aag x<=1048576/\∃m,abd Tryz.prog m 31 x:=λx t=>⟨bel (bfld I 1) x t,ahi J Tryz.underlying22 x t⟩;have z:∀x,x∈(r.fld 1).asList->∀v,v∈(x.fld 4).asList->aag v<=1048576/\∃m,abd Tryz.prog m 40 v:=λx H v z=>by obtain⟨b,m,g⟩:=t x H;obtain⟨V,O⟩:=acb g Tryz.underlying31 4 _ rfl;exact⟨bel (bfld b 4) v z,ahi O Tryz.underlying29 v z⟩
 refine⟨aid (bfld I 1),λx o=>bstr (bfld (t x o).1 0),λx o=>bstr (bfld (t x o).1 1),λx o=>aid (bfld (t x o).1 4),λx o v G=>?_,λx o v G=>bfld (z x o v G).1 1⟩;obtain⟨b,m,g⟩:=z x o v G;obtain⟨m2,M⟩:=acb g Tryz.underlying40 1 _ rfl;exact bb4 M (bfld b 1)
end Go.Ab
