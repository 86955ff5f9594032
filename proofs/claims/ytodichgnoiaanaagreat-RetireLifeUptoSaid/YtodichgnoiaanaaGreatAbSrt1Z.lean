/- sort.Slice at a row of at most one element: nothing is turned. -/
import Derived.Test.YtodichgnoiaanaaGreatAbLibZ
import Derived.Shelf.GgSortFunc.Tiny
set_option linter.unusedVariables false
set_option linter.unusedSimpArgs false
set_option linter.unnecessarySimpa false
set_option maxRecDepth 100000
namespace Go.Ab
open Go Go.Proofs Go.Shelf Go.RowKit Go.Sort Go.Lib
theorem axg {D:Dom}{w:World}{ow:Own}{μ:Nat->Nat}{st:List BX} (os:Array Obj) (hd:∀ b o,D b o->b<w.heap.size) (ho:∀ b k,ow b=some k->b<w.heap.size) (ha:∀ (k:Nat) (E:TypeId) (g:Nat) (xs:List PV),st[k]?≠some (.arr E g xs)):
 Moves D w ow μ st D (grow w os) ow μ st:=
 have hh:∀ b,b<w.heap.size->(grow w os).heap[b]?=w.heap[b]?:=fun b hb=>Array.getElem?_append_left hb
 ⟨fun _ _ h=>h,Keeps.of_heap fun b o d=>hh b (hd b o d),fun _ _ _ h=>⟨rfl,_,h⟩,fun _ _ _ _ h=>⟨rfl,_,h⟩,fun _ _ h _=>⟨rfl,_,h,rfl⟩,fun k E g xs h=>absurd h (ha k E g xs),fun _ _ h=>⟨_,h,Nat.le_refl _,fun _ b hb=>⟨hh b (ho b _ hb),hb,fun _ h=>h⟩⟩⟩
def ax8 (fuel:Nat) (xs ys:List PV):Option (List PV):=bif decide (xs.length<=1) then some ys else none
def ax9 (fuel:Nat):CallE:=⟨44,⟨2,[.box 74 .leaf,.acc],[(.ifs 74 79),(.con (.fn 45 0 [(.ref 0 [] 74)])),(.acc 1 79)]⟩,⟨0,[.box 74 .leaf,.acc],[(.acc 1 79)]⟩,fun x=>ax8 fuel x.1 x.2.2,[]⟩
theorem a1r (fuel:Nat):(ax9 fuel).Ok Tryz.prog:=by
 intro x y h
 obtain ⟨xs,⟨⟩,ys⟩:=x
 have h:ax8 fuel xs ys=some y:=h
 obtain ⟨hb,rfl⟩:=abk h
 have hb:=of_decide_eq_true hb
 refine ⟨alp Tryz.func44 (by kernel_rfl) (by kernel_rfl),fun D ow μ w vals pre=>?_⟩
 obtain ⟨u,v,rfl⟩:∃ u v,vals=#[u,v]:=by
  have:=pre.size
  match vals,this with
  | ⟨[a,b]⟩,_=>exact ⟨a,b,rfl⟩
 have h1:=pre.arg 0 _ u rfl rfl
 have h2:=pre.arg 1 _ v rfl rfl
 cases h1 with
 | ifc h1=>
 cases h2 with
 | fn h2 h3 h4=>
 cases h1 with
 | slice h1=>
 have hs:∀ {u:Value},SliceRep Tryz.prog D w 79 xs u->∃ p n c,u=Value.slice p n c/\n<=1:=fun {u} h1=>by
  cases h1 with
  | nil _=>exact ⟨_,_,_,rfl,by omega⟩
  | mk _ _ _ _=>exact ⟨_,_,_,rfl,hb⟩
 obtain ⟨p,n,c,rfl,hn⟩:=hs h1
 have ks:∃ f,Tryz.prog.funcs.findIdx? (·.name== "internal/reflectlite"++ ".Swapper$"++toString (swapperK n ((Tryz.prog.info? 79).getD default) 25))=some f:=by
  rcases Nat.lt_or_ge n 1 with q | q
  ·obtain rfl:n=0:=by omega
   exact ⟨82,by kernel_rfl⟩
  ·obtain rfl:n=1:=by omega
   exact ⟨83,by kernel_rfl⟩
 obtain ⟨f,hf⟩:=ks
 refine (Any.sort_Slice_tiny Tryz.laysGg6 74 79 ((Tryz.prog.info? 74).getD default) ((Tryz.prog.info? 79).getD default) (by kernel_rfl) (by kernel_rfl) (by kernel_rfl) (by kernel_rfl) 25 (fun w=>by kernel_rfl) p n c hn f hf _ _ _ w).mono ?_
 rintro e w' ⟨rfl,os,rfl⟩
 have hlt:=pre.objs.owlt
 have hm:=axg (μ:=μ) (st:=[.box 74 (.acc 1 0 79 ys),.acc 0]) os pre.objs.dlt (fun b k q=>(hlt b k q).1) (fun k E g zs q=>by
  match k,q with
  | 0,q=>cases q
  | 1,q=>cases q)
 have hh:∀ b,b<w.heap.size->(grow w os).heap[b]?=w.heap[b]?:=fun b hb=>Array.getElem?_append_left hb
 refine ⟨.tuple #[],D,rfl,fun _ _ d=>d,fun _ _ d=>Or.inl d,⟨ow,μ,⟨fun k b hk=>?_,fun b k q=>?_,fun b o d=>?_,fun b k x q r=>pre.objs.lone b k x q r⟩,?_,fun b k q _=>q,fun k b hk=>⟨b,hk,rfl,fun _ _=>rfl⟩,fun k E g zs ys' hk hk'=>?_⟩,rfl,rfl,rfl,?_,fun b hb _=>hh b hb,hm.keeps⟩
 ·match k,hk with
  | 0,hk=>
   cases hk
   have hb0:BoxRep _ D w ow μ _ 0 74 (.acc 1 0 79 ys):=pre.objs.obj 0 _ rfl
   have ⟨_,_,_,_,h5,h6,_⟩:=hb0
   exact hb0.mono hm rfl (hh _ (hlt _ _ h5).1) h5 h6
  | 1,hk=>cases hk;trivial
 ·exact ⟨by have:=(hlt b k q).1;simp only [size_grow];omega,(hlt b k q).2⟩
 ·have:=pre.objs.dlt b o d;simp only [size_grow];omega
 ·exact (ajk (rs:=[]) (.tup rfl (fun i s v hs hv=>by cases hs))).1
 ·match k,hk with
  | 0,hk=>cases hk
  | 1,hk=>cases hk
 ·simp only [size_grow];omega
end Go.Ab
