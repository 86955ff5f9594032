/- sort.Slice at a row of at most one element: nothing is turned. -/
import Derived.Test.YticdffgjgfmicaaGreatDoorAbFmtK
set_option linter.unusedVariables false
set_option linter.unusedSimpArgs false
set_option linter.unnecessarySimpa false
set_option maxRecDepth 100000
namespace Go.Ab
open Go Go.Proofs Go.Shelf Go.RowKit Go.Sort Go.Lib
theorem a4x{D:Dom}{w:World}{ow:Own}{μ:Nat->Nat}{st:List BX}(z:Array Obj)(H:∀b o,D b o->b<w.heap.size)(I:∀b k,ow b=some k->b<w.heap.size)(G:∀(k:Nat)(E:TypeId)(g:Nat)(xs:List PV),st[k]?≠some (.arr E g xs)):
 Moves D w ow μ st D (grow w z) ow μ st:=
 have t:∀b,b<w.heap.size->(grow w z).heap[b]?=w.heap[b]?:=λb m=>Array.getElem?_append_left m
 ⟨λ_ _ h=>h,Keeps.of_heap λb o d=>t b (H b o d),λ_ _ _ h=>⟨rfl,_,h⟩,λ_ _ _ _ h=>⟨rfl,_,h⟩,λ_ _ h _=>⟨rfl,_,h,rfl⟩,λk E g xs h=>absurd h (G k E g xs),λ_ _ h=>⟨_,h,Nat.le_refl _,λ_ b m=>⟨t b (I b _ m),m,λ_ h=>h⟩⟩⟩
def bfo(m:Nat)(xs ys:List PV):Option (List PV):=bif decide (xs.length<=1)then some ys else none
def a6i(m:Nat):CallE:=⟨80,⟨2,[.box 75 .leaf,.acc],[(.ifs 75 80),(.con (.fn 81 0 [(.ref 0 [] 75)])),(.acc 1 80)]⟩,⟨0,[.box 75 .leaf,.acc],[(.acc 1 80)]⟩,λx=>bfo m x.1 x.2.2,[]⟩
theorem bb5(z:Nat):(a6i z).Ok Tryz.prog:=by
 intro x y h;obtain⟨xs,⟨⟩,ys⟩:=x;have h:bfo z xs ys=some y:=h;obtain⟨J,rfl⟩:=aaz h;have J:=of_decide_eq_true J;refine⟨abc Tryz.func80 (by kernel_rfl) (by kernel_rfl),λD ow μ w G m=>?_⟩;obtain⟨u,v,rfl⟩:∃u v,G=#[u,v]:=by
  have:=m.size;match G,this with
  |⟨[a,b]⟩,_=>grind
 have H:=m.arg 0 _ u rfl rfl;have U:=m.arg 1 _ v rfl rfl;cases H with
 |ifc H=>
 cases U with
 |fn U h3 h4=>
 cases H with
 |slice H=>
 have O:∀{u:Value},SliceRep Tryz.prog D w 80 xs u->∃p n c,u=Value.slice p n c/\n<=1:=λ{u}H=>by
  cases H with
  |nil _=>grind
  |mk _ _ _ _=>grind
 obtain⟨p,n,c,rfl,hn⟩:=O H;have ks:∃ f,Tryz.prog.funcs.findIdx? (·.name== "internal/reflectlite"++ ".Swapper$"++toString (swapperK n ((Tryz.prog.info? 80).getD default) 25))=some f:=by
  rcases Nat.lt_or_ge n 1 with q|q
  ·obtain rfl:n=0:=by omega
   exact⟨188,by kernel_rfl⟩
  ·obtain rfl:n=1:=by omega
   exact⟨189,by kernel_rfl⟩
 obtain⟨f,Y⟩:=ks;refine(Any.sort_Slice_tiny Tryz.laysGg6 75 80 ((Tryz.prog.info? 75).getD default) ((Tryz.prog.info? 80).getD default) (by kernel_rfl) (by kernel_rfl) (by kernel_rfl) (by kernel_rfl) 25 (λw=>by kernel_rfl) p n c hn f Y _ _ _ w).mono ?_;rintro e w' ⟨rfl,X,rfl⟩;have I:=m.objs.owlt;have W:=a4x (μ:=μ) (st:=[.box 75 (.acc 1 0 80 ys),.acc 0]) X m.objs.dlt (λb k q=>(I b k q).1) (λk E g zs q=>by grind)
 have V:∀b,b<w.heap.size->(grow w X).heap[b]?=w.heap[b]?:=λb J=>Array.getElem?_append_left J;refine⟨.tuple #[],D,rfl,λ_ _ d=>d,λ_ _ d=>Or.inl d,⟨ow,μ,⟨λk b t=>?_,λb k q=>?_,λb o d=>?_,λb k x q r=>m.objs.lone b k x q r⟩,?_,λb k q _=>q,λk b t=>⟨b,t,rfl,λ_ _=>rfl⟩,λk E g zs aa t Z=>?_⟩,rfl,rfl,rfl,?_,λb J _=>V b J,W.keeps⟩
 ·match k,t with
  |0,t=>cases t;have M:BoxRep _ D w ow μ _ 0 75 (.acc 1 0 80 ys):=m.objs.obj 0 _ rfl;have⟨_,_,_,_,h5,h6,_⟩:=M;exact M.mono W rfl (V _ (I _ _ h5).1) h5 h6
  |1,t=>cases t;trivial
 ·exact⟨by grind,(I b k q).2⟩
 ·have:=m.objs.dlt b o d;grind
 ·exact(agw (rs:=[]) (.tup rfl (λi s v O hv=>by cases O))).1
 ·match k,t with
  |0,t=>cases t
  |1,t=>cases t
 grind
end Go.Ab
