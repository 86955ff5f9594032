/- math/bits.TrailingZeros of 16, by hand. -/
import Derived.Test.YtjogoleiodbfdaaGreatDoorAbFmt0E
set_option linter.unusedVariables false
set_option linter.unusedSimpArgs false
set_option linter.unnecessarySimpa false
namespace Go.Ab
open Go Go.Proofs Go.Shelf Go.RowKit Go.Lib
theorem tabDB {ow:Own}{w:World} (h:Tabs Tryz.prog ow w):w.cell? ⟨5,15,none⟩=some (.int .u8 4):=by
 have I:Tryz.prog.globalNamed "math/bits.deBruijn64tab"=some 5:=by kernel_rfl
 obtain ⟨_,cs,T,J,H,o⟩:=h _ (List.mem_cons_of_mem _ (List.mem_cons_self ..)) _ I;have o:cs[15]?=some (.int .u8 4):=o;simp [World.cell?,H,o]
set_option maxHeartbeats 1000000 in
theorem a9m (w:World) (h:w.cell? ⟨5,15,none⟩=some (.int .u8 4)):Calls Tryz.prog 266 #[.int .u64 16] w λe w'=>e=.returned (.int .i64 4)/\w'=w:=by
 have key:IntKind.u64.wrap (bits BinOp.and IntKind.u64 16 (IntKind.u64.wrap (-16))*285870213051353865) / 288230376151711744=15:=by kernel_rfl
 go_enter Tryz.func266,Tryz.ntmps266;go_wp2_with (simp only [key]);go_ret;exact ⟨rfl,rfl⟩
set_option maxHeartbeats 1000000 in
theorem tz_16 (w:World) (h:w.cell? ⟨5,15,none⟩=some (.int .u8 4)):Calls Tryz.prog 262 #[.int .u64 16] w λe w'=>e=.returned (.int .i64 4)/\w'=w:=by have o:∀ args w,(callFunc 266 args).run Tryz.prog w=.ok (.enter 266 args) w:=abf Tryz.func266 (by kernel_rfl) (by kernel_rfl);go_enter Tryz.func262,Tryz.ntmps262;go_wp2_with (go_at_fn 266;refine (a9m w h).mono ?_;rintro e w' ⟨rfl,H⟩;rw [H]);go_ret;exact ⟨rfl,rfl⟩
def Ltz (h:Nat) (x:Int):Option Int:=bif decide (x=16) then some 4 else none
def Ltzc (h:Nat):CallE:={ f:=262,A:=⟨1,[],[.int .u64]⟩,R:=⟨1,[],[.int .i64]⟩,F:=λx=>Ltz h x,dflt:=0 }
theorem Ltzok (o:Nat):(Ltzc o).Ok Tryz.prog:=by intro x y h;have h:Ltz o x=some y:=h;unfold Ltz at h;obtain ⟨J,rfl⟩:=aa3 h;have Z:(show Int from x)=16:=of_decide_eq_true J;have I:x=(show (Ltzc o).A.ty from (16:Int)):=Z;subst I;refine afy (abf Tryz.func262 (by kernel_rfl) (by kernel_rfl)) (λD ow μ w M H=>?_);obtain ⟨v,rfl,O⟩:=ba7 H;cases O;refine (tz_16 w (tabDB H.tabs)).mono ?_;rintro e w' ⟨rfl,rfl⟩;exact ⟨_,rfl,λaa ab st'=>.int,⟨rfl,rfl,rfl,Nat.le_refl _,λb J=>rfl⟩⟩
end Go.Ab
set_option maxRecDepth 100000
namespace Go.Ab
open Go Go.Proofs Go.Shelf Go.RowKit Go.Sort Go.Lib
theorem ax9 {D:Dom}{w:World}{ow:Own}{μ:Nat->Nat}{st:List BX} (J:Array Obj) (O:∀ b o,D b o->b<w.heap.size) (Z:∀ b k,ow b=some k->b<w.heap.size) (M:∀ (k:Nat) (E:TypeId) (g:Nat) (xs:List PV),st[k]?≠some (.arr E g xs)):
 Moves D w ow μ st D (grow w J) ow μ st:=
 have I:∀ b,b<w.heap.size->(grow w J).heap[b]?=w.heap[b]?:=λb H=>Array.getElem?_append_left H
 ⟨λ_ _ h=>h,Keeps.of_heap λb o d=>I b (O b o d),λ_ _ _ h=>⟨rfl,_,h⟩,λ_ _ _ _ h=>⟨rfl,_,h⟩,λ_ _ h _=>⟨rfl,_,h,rfl⟩,λk E g xs h=>absurd h (M k E g xs),λ_ _ h=>⟨_,h,Nat.le_refl _,λ_ b H=>⟨I b (Z b _ H),H,λ_ h=>h⟩⟩⟩
def ay3 (h:Nat) (xs ys:List PV):Option (List PV):=bif decide (xs.length<=1) then some ys else none
def ay4 (h:Nat):CallE:=⟨80,⟨2,[.box 56 .leaf,.acc],[(.ifs 56 72),(.con (.fn 81 0 [(.ref 0 [] 56)])),(.acc 1 72)]⟩,⟨0,[.box 56 .leaf,.acc],[(.acc 1 72)]⟩,λx=>ay3 h x.1 x.2.2,[]⟩
theorem a3a (M:Nat):(ay4 M).Ok Tryz.prog:=by
 intro x y h;obtain ⟨xs,⟨⟩,ys⟩:=x;have h:ay3 M xs ys=some y:=h;obtain ⟨hb,rfl⟩:=aa3 h;have hb:=of_decide_eq_true hb;refine ⟨abf Tryz.func80 (by kernel_rfl) (by kernel_rfl),λD ow μ w O H=>?_⟩;obtain ⟨u,v,rfl⟩:∃ u v,O=#[u,v]:=by
  have:=H.size;match O,this with
  | ⟨[a,b]⟩,_=>exact ⟨a,b,rfl⟩
 have Z:=H.arg 0 _ u rfl rfl;have h2:=H.arg 1 _ v rfl rfl;cases Z with
 | ifc Z=>
 cases h2 with
 | fn h2 h3 h4=>
 cases Z with
 | slice Z=>
 have hs:∀ {u:Value},SliceRep Tryz.prog D w 72 xs u->∃ p n c,u=Value.slice p n c/\n<=1:=λ{u} Z=>by
  cases Z with
  | nil _=>exact ⟨_,_,_,rfl,by omega⟩
  | mk _ _ _ _=>exact ⟨_,_,_,rfl,hb⟩
 obtain ⟨p,n,c,rfl,hn⟩:=hs Z;have ks:∃ f,Tryz.prog.funcs.findIdx? (·.name== "internal/reflectlite"++ ".Swapper$"++toString (swapperK n ((Tryz.prog.info? 72).getD default) 25))=some f:=by
  rcases Nat.lt_or_ge n 1 with q | q
  ·obtain rfl:n=0:=by omega
   exact ⟨146,by kernel_rfl⟩
  ·obtain rfl:n=1:=by omega
   exact ⟨147,by kernel_rfl⟩
 obtain ⟨f,hf⟩:=ks;refine (Any.sort_Slice_tiny Tryz.laysGg6 56 72 ((Tryz.prog.info? 56).getD default) ((Tryz.prog.info? 72).getD default) (by kernel_rfl) (by kernel_rfl) (by kernel_rfl) (by kernel_rfl) 25 (λw=>by kernel_rfl) p n c hn f hf _ _ _ w).mono ?_;rintro e w' ⟨rfl,os,rfl⟩;have J:=H.objs.owlt;have hm:=ax9 (μ:=μ) (st:=[.box 56 (.acc 1 0 72 ys),.acc 0]) os H.objs.dlt (λb k q=>(J b k q).1) (λk E g zs q=>by
  match k,q with
  | 0,q=>cases q
  | 1,q=>cases q)
 have hh:∀ b,b<w.heap.size->(grow w os).heap[b]?=w.heap[b]?:=λb hb=>Array.getElem?_append_left hb;refine ⟨.tuple #[],D,rfl,λ_ _ d=>d,λ_ _ d=>Or.inl d,⟨ow,μ,⟨λk b I=>?_,λb k q=>?_,λb o d=>?_,λb k x q r=>H.objs.lone b k x q r⟩,?_,λb k q _=>q,λk b I=>⟨b,I,rfl,λ_ _=>rfl⟩,λk E g zs ad I ab=>?_⟩,rfl,rfl,rfl,?_,λb hb _=>hh b hb,hm.keeps⟩
 ·match k,I with
  | 0,I=>cases I;have aa:BoxRep _ D w ow μ _ 0 56 (.acc 1 0 72 ys):=H.objs.obj 0 _ rfl;have ⟨_,_,_,_,h5,h6,_⟩:=aa;exact aa.mono hm rfl (hh _ (J _ _ h5).1) h5 h6
  | 1,I=>cases I;trivial
 ·exact ⟨by have:=(J b k q).1;simp only [size_grow];omega,(J b k q).2⟩
 ·have:=H.objs.dlt b o d;simp only [size_grow];omega
 ·exact (af4 (rs:=[]) (.tup rfl (λi s v hs hv=>by cases hs))).1
 ·match k,I with
  | 0,I=>cases I
  | 1,I=>cases I
 ·simp only [size_grow];omega
end Go.Ab
