/- strings.Builder: what its methods do, every other block left alone. -/
import Derived.Test.YtjogoleiodbfdaaGreatDoorTryzShelf
import Derived.Lib.Strings
import Derived.Lib.Slices
import Derived.Lib.Walk
import Derived.Lib.Builder
import Derived.Lib.AppendStr
import Derived.Lib.UnsafeStr
import Derived.Lib.FrozenHead
import Derived.Laws.Externs
import Derived.Laws.BitsLemmas
set_option linter.unusedVariables false
set_option linter.unusedSimpArgs false
set_option linter.unnecessarySimpa false
namespace Go.Ab
open Go Go.Proofs Go.RowKit
structure Else (b:Nat) (g:Option Nat) (w w':World):Prop where
 os:w'.os=w.os
 tape:w'.tape=w.tape
 output:w'.output=w.output
 size:w.heap.size<=w'.heap.size
 block:∀ k,k<w.heap.size->k≠b->some k≠g->w'.heap[k]?=w.heap[k]?
def BAt (T:TypeId) (b:Nat) (p v:Value) (bs:Bt) (w:World):Prop:=
 w.heap[b]?=some (.cells #[p,v] T (0,0))/\w.ownsRowF 0 5 1 v bs.length (Lib.byteCells bs)/\v.ownBlock≠some b
theorem sizeBuilder:∃ j,Tryz.prog.info? 265=some j/\j.size=2:=by
 have h:(Tryz.prog.info? 265).map (λi=>i.size)=some 2:=by kernel_rfl
 obtain ⟨j,o,H⟩:=Option.map_eq_some_iff.1 h;exact ⟨j,o,H⟩
theorem aq1 {P:Program} (w:World) (t u ty e:TypeId) (i:TypeInfo) (ht:P.underlying t=some (.slice e)) (hu:P.underlying u=some .string) (hi:P.info? e=some i) (hz:i.zero=some (.int .u8 0)) (h:i.size=1) (Z:i.bytes=1)
 (v:Value) (n:Nat) (xs:List Value) (o:w.ownsRowF 0 e 1 v n xs) (s:ByteArray) (O:n+s.size<=maxLen) (H:n+s.size<=140737488355328) {v':Value}{w':World} (hr:(Builtin.append_ #[t,u] ty #[v,.string s]).run P w=.ok v' w'):
 ∀ g,v'.ownBlock=some g->v.ownBlock=some g\/w.heap.size<=g:=by
 intro g M
 rcases o.2 with ⟨rfl,rfl⟩ | ⟨g0,cap,aa,fz,rfl,_,ae,ad,ai,ah,ab,af⟩
 ·obtain ⟨v2,w2,I,h2,_⟩:=Lib.run_append_own_string (P:=P) w w.heap.size t u ty e i ht hu hi hz h Z (.slice none 0 0) 0 xs ⟨o.1,.inl ⟨rfl,rfl⟩⟩ s O H (Nat.le_refl _);rw [hr] at I;cases I;rcases h2.2 with ⟨rfl,_⟩ | ⟨g1,c1,u1,rfl,hb,_⟩
  ·simp [Value.ownBlock] at M
  ·simp [Value.ownBlock] at M;subst M;exact Or.inr hb
 ·by_cases J:n+s.size<=cap
  ·have I:=Lib.run_append_room_stringF (P:=P) w t u ty e i ht hu hi h g0 n cap aa fz ae (by simpa using ad) s J (by rw [ab];omega);rw [hr] at I;cases I;exact Or.inl M
  ·have ag:xs.length=n:=by simpa using o.1
   have I:=Lib.run_append_grow_string (P:=P) w t u ty e i (.int .u8 0) ht hu hi hz ⟨g0,0,none⟩ n cap xs (by rw [h];simpa using ag) (o.cells (g:=g0) rfl) s (by omega) (by unfold maxLen at O;omega) (by rw [Z];exact growslice_fits (by omega) (by omega));rw [hr] at I;cases I;simp [Value.ownBlock] at M;subst M;exact Or.inr (Nat.le_refl _)
theorem ak3 {P:Program}{w:World}{ops:Array Oper}{M:List Oper}{o:Oper}{a:Act}{Q:Exit->Act->World->Prop} (aa:o.guard=none) (sl x:Operand) (t u:TypeId)
 (ho:o.op=.call { callee:=.builtin .append,args:=#[sl,x],argTypes:=#[t,u] })
 (e:TypeId) (i:TypeInfo) (ht:P.underlying t=some (.slice e)) (hu:P.underlying u=some .string) (hi:P.info? e=some i) (hz:i.zero=some (.int .u8 0)) (I:i.size=1) (Z:i.bytes=1)
 (v:Value) (n:Nat) (xs:List Value) (hs:a.eval sl=v) (J:w.ownsRowF 0 e 1 v n xs) (s:ByteArray) (hx:a.eval x=.string s) (O:n+s.size<=maxLen) (H:n+s.size<=140737488355328)
 (h:∀ v' w',w'.ownsRowF 0 e 1 v' (n+s.size) (xs++Lib.strCells s)->w.grownBy w' v.ownBlock->(∀ g,v'.ownBlock=some g->v.ownBlock=some g\/w.heap.size<=g)->wpList P ops Q M (a.put o.dst v') w'):wpList P ops Q (o::M) a w:=by
 refine wpList_plain aa λK hK=>?_
 obtain ⟨v',w',hr,h2,h3,_⟩:=Lib.run_append_own_stringF (P:=P) w 0 t u o.type e i ht hu hi hz I Z v n xs J s O H (Nat.zero_le _)
 have h5:=aq1 w t u o.type e i ht hu hi hz I Z v n xs J s O H hr
 unfold Oper.wp execOp
 simp only [ho,resolve,invoke,builtin,Sem.run_bind,Sem.run_pure,Result.andThen_ok,List.map_toArray,Bh,List.map_nil,hs,hx,hr]
 exact hK _ _ (h v' w' h2 h3 h5)
set_option maxHeartbeats 1000000 in
set_option maxRecDepth 100000 in
theorem an4 (b:Nat) (w:World) (o:w.cell? ⟨b,0,none⟩=some (.pointer (some ⟨b,0,none⟩))):
 Calls Tryz.prog 232 #[.pointer (some ⟨b,0,none⟩)] w λe w'=>e=.returned (.tuple #[])/\w'=w:=by
 obtain ⟨j,h,_⟩:=sizeBuilder
 go_enter Tryz.func232,Tryz.ntmps232
 go_wp2
 rw [Lib.run_neq_ptr_same w _ Tryz.underlying262 h]
 go_wp2
 go_end0
 exact ⟨rfl,rfl⟩
set_option maxHeartbeats 1000000 in
set_option maxRecDepth 100000 in
theorem amf (T:TypeId) (J:liesAt Tryz.prog Tryz.prog.depth T (2 / Tryz.prog.cellsOf T) 0 265 1=true) (b:Nat) (w:World) (M:w.cell? ⟨b,0,none⟩=some (.pointer none)) (h:w.shape? b=some (T,2)) (I:w.frozen? ⟨b,0,none⟩=false):
 Calls Tryz.prog 232 #[.pointer (some ⟨b,0,none⟩)] w λe w'=>e=.returned (.tuple #[])/\w'=w.setCell ⟨b,0,none⟩ (.pointer (some ⟨b,0,none⟩)):=by
 obtain ⟨j,H,o⟩:=sizeBuilder
 go_enter Tryz.func232,Tryz.ntmps232
 go_wp2
 rw [Lib.run_to_unsafe w ⟨b,0,none⟩ Tryz.underlying262 Tryz.underlying194 H (by rw [o];decide) h (Nat.zero_lt_succ 1)]
 simp only [Result.andThen]
 rw [Oper.upon_value]
 go_wp2
 rw [run_callFunc_extern Tryz.func243 (by kernel_rfl) (by kernel_rfl) (by kernel_rfl) (e:=Extern.AbiNoEscape.same) (by kernel_rfl)]
 rw [Lib.run_noEscape]
 simp only [Result.andThen]
 rw [Oper.upon_value]
 go_wp2
 rw [Lib.run_from_unsafe w ⟨b,0,none⟩ Tryz.underlying194 Tryz.underlying262 H h J]
 simp only [Result.andThen]
 rw [Oper.upon_value]
 go_wp2
 go_end0
 exact ⟨rfl,rfl⟩
theorem a3m:∃ i,Tryz.prog.info? 5=some i/\i.zero=some (.int .u8 0)/\i.size=1/\i.bytes=1:=by
 have h:(Tryz.prog.info? 5).map (λi=>(i.zero,i.size,i.bytes))=some (some (.int .u8 0),1,1):=by kernel_rfl
 obtain ⟨j,H,o⟩:=Option.map_eq_some_iff.1 h;simp only [Prod.mk.injEq] at o;exact ⟨j,H,o.1,o.2.1,o.2.2⟩
theorem apl {T:TypeId} (O:liesAt Tryz.prog Tryz.prog.depth T (2 / Tryz.prog.cellsOf T) 0 265 1=true) {b:Nat}{p v:Value}{bs:Bt}{w:World} (Z:p=.pointer none\/p=.pointer (some ⟨b,0,none⟩)) (h:BAt T b p v bs w):
 Calls Tryz.prog 232 #[.pointer (some ⟨b,0,none⟩)] w λe w'=>e=.returned (.tuple #[])/\BAt T b (.pointer (some ⟨b,0,none⟩)) v bs w'/\Else b none w w':=by
 obtain ⟨o,M,H⟩:=h
 have J:w.cell? ⟨b,0,none⟩=some p:=by rw [Lib.cell_of_heap o];rfl
 rcases Z with rfl | rfl
 ·refine (amf T O b w J (by simp [World.shape?,o]) (by simp [World.frozen?,o])).mono ?_;rintro e w' ⟨rfl,rfl⟩;refine ⟨rfl,⟨by simp [World.setCell,Array.getElem?_modify,o],?_,H⟩,rfl,rfl,rfl,by simp [World.setCell],λk _ I _=>Below.heap_setCell _ _ _ _ I⟩;exact M.kept (row:=some b) ⟨rfl,rfl,rfl,by simp [World.setCell],λk _ I=>Below.heap_setCell _ _ _ _ (λe=>I (by simp [e]))⟩ (Or.inr H)
 ·refine (an4 b w J).mono ?_;rintro e w' ⟨rfl,rfl⟩;exact ⟨rfl,⟨o,M,H⟩,rfl,rfl,rfl,Nat.le_refl _,λ_ _ _ _=>rfl⟩
set_option maxHeartbeats 2000000 in
set_option maxRecDepth 100000 in
theorem anz {T:TypeId} (hl:liesAt Tryz.prog Tryz.prog.depth T (2 / Tryz.prog.cellsOf T) 0 265 1=true) {b:Nat}{p v:Value}{bs:Bt}{w:World} (hp:p=.pointer none\/p=.pointer (some ⟨b,0,none⟩)) (h:BAt T b p v bs w) (Z:T≠5)
 (s:ByteArray) (ak:bs.length+s.size<=140737488355328):
 Calls Tryz.prog 218 #[.pointer (some ⟨b,0,none⟩),.string s] w λe w'=>e=.returned (.tuple #[.int .i64 s.size,.nilIface])/\∃ v',BAt T b (.pointer (some ⟨b,0,none⟩)) v' (bs++s.data.toList) w'/\Else b v.ownBlock w w'/\
  (∀ g,v'.ownBlock=some g->v.ownBlock=some g\/w.heap.size<=g):=by
 obtain ⟨i0,hi,ah,ai,aj⟩:=a3m
 go_enter Tryz.func218,Tryz.ntmps218
 go_wp2_with (go_at_call 232;refine (apl hl hp h).mono ?_)
 rintro e w1 ⟨rfl,h1,I⟩
 obtain ⟨M,ad,ag⟩:=h1
 have c0:w1.cell? ⟨b,0,none⟩=some (.pointer (some ⟨b,0,none⟩)):=by rw [Lib.cell_of_heap M];rfl
 have c1:w1.cell? ⟨b,1,none⟩=some v:=by rw [Lib.cell_of_heap M];rfl
 go_wp2_with (at_builtin;refine ak3 rfl _ _ 263 9 rfl 5 i0 Tryz.underlying263 Tryz.underlying9 hi ah ai aj _ _ _ rfl ad s rfl ?c3 ?c4 ?_)
 case c3=>unfold maxLen;omega
 case c4=>omega
 intro v' w2 H o ab
 have af:b<w1.heap.size:=by
  rcases Nat.lt_or_ge b w1.heap.size with O | O
  ·exact O
  ·simp [Array.getElem?_eq_none O] at M
 have J:w2.heap[b]?=some (.cells #[.pointer (some ⟨b,0,none⟩),v] T (0,0)):=by rw [o.block b af (λe=>ag e.symm)];exact M
 have d0:w2.cell? ⟨b,0,none⟩=some (.pointer (some ⟨b,0,none⟩)):=by rw [Lib.cell_of_heap J];rfl
 have d1:w2.cell? ⟨b,1,none⟩=some v:=by rw [Lib.cell_of_heap J];rfl
 have f1:w2.frozen? ⟨b,1,none⟩=false:=Lib.frozen_of_heap J 1
 obtain ⟨ao,n',cap,rfl⟩:∃ ao n' cap,v'=.slice ao n' cap:=by
  rcases H.2 with ⟨hv,_⟩ | ⟨g,cap,al,fz,hv,_⟩
  ·exact ⟨_,_,_,hv⟩
  ·exact ⟨_,_,_,hv⟩
 go_wp2
 go_ret2
 refine ⟨rfl,.slice ao n' cap,⟨by simp [World.setCell,Array.getElem?_modify,J],?_,?_⟩,⟨o.os.trans I.os,o.tape.trans I.tape,o.output.trans I.output,?_,λk hk aa ae=>?_⟩,λg hg=>?_⟩
 ·have e1:bs.length+s.size=(bs++s.data.toList).length:=by rw [Ak];rfl
  rw [e1,Lib.strCells_eq,<-Lib.byteCells_append] at H;exact H.kept (row:=some b) ⟨rfl,rfl,rfl,by simp [World.setCell],λk _ hk=>Below.heap_setCell _ _ _ _ (λe=>hk (by simp [e]))⟩ (Or.inr (Lib.ownBlock_neF H J Z))
 ·exact Lib.ownBlock_neF H J Z
 ·have:=I.size;have:=o.size;simp [World.setCell];omega
 ·have:=I.size;rw [Below.heap_setCell _ _ _ _ aa,o.block k (by omega) ae];exact I.block k hk aa (by simp)
 ·rcases ab g hg with O | O
  ·exact Or.inl O
  ·have:=I.size;exact Or.inr (by omega)
theorem BAt.frz {T:TypeId}{b:Nat}{p:Value}{bs:Bt}{w:World}{g cap:Nat} (h:BAt T b p (.slice (some ⟨g,0,none⟩) bs.length cap) bs w):BAt T b p (.slice (some ⟨g,0,none⟩) bs.length cap) bs (w.drew.freeze ⟨g,0,none⟩ bs.length):=by
 obtain ⟨H,h2,J⟩:=h;have Z:Lib.BuilderAtF T 5 0 b p (Lib.byteCells bs) w.drew:=⟨Nat.zero_le _,_,H,by rw [Lib.byteCells_length];exact h2,J⟩;have O:w.drew.cell? ⟨b,1,none⟩=some (.slice (some ⟨g,0,none⟩) bs.length cap):=by have:w.drew.heap[b]?=some (.cells #[p,.slice (some ⟨g,0,none⟩) bs.length cap] T (0,0)):=H;rw [Lib.cell_of_heap this];rfl
 obtain ⟨_,v,o,M,q3⟩:=Z.froze (g:=g) (cap:=cap) (by rw [Lib.byteCells_length];exact O);rw [Lib.byteCells_length] at o M;have e:v=.slice (some ⟨g,0,none⟩) bs.length cap:=by
  have I:g≠b:=λe=>J (by simp [Value.ownBlock,e]);have:(w.drew.freeze ⟨g,0,none⟩ bs.length).heap[b]?=w.heap[b]?:=by
   unfold World.freeze;split
   ·rfl
   ·simp only [Array.getElem?_modify];rw [if_neg I];rfl
  rw [this,H] at o;simp only [Al,Obj.cells.injEq] at o;have:=o.1;simp at this;exact this.symm
 subst e;exact ⟨o,M,q3⟩
theorem atu (w:World) (b g n:Nat):Else b (some g) w (w.drew.freeze ⟨g,0,none⟩ n):=by
 unfold World.freeze;split
 ·exact ⟨rfl,rfl,rfl,Nat.le_refl _,λ_ _ _ _=>rfl⟩
 ·refine ⟨rfl,rfl,rfl,by simp,λk _ _ h=>?_⟩;simp only [Array.getElem?_modify];rw [if_neg (λe=>h (by simp [e]))];rfl
set_option maxHeartbeats 2000000 in
set_option maxRecDepth 100000 in
theorem au8 {T:TypeId}{b g cap:Nat}{p:Value}{l:Bt}{w:World}{h:Array Value}{fz:Nat×Nat} (O:l≠[]) (H:w.heap[b]?=some (.cells #[p,.slice (some ⟨g,0,none⟩) l.length cap] T (0,0)))
 (o:w.ownsRowF 0 5 1 (.slice (some ⟨g,0,none⟩) l.length cap) l.length (Lib.byteCells l)) (Z:w.heap[g]?=some (.cells h 5 fz)) (ae:l.length<=cap) (I:cap<=maxLen) (J:h.size=cap*1):
 Calls Tryz.prog 220 #[.pointer (some ⟨b,0,none⟩)] w λe w'=>e=.returned (.string ⟨l.toArray⟩)/\w'=w.drew.freeze ⟨g,0,none⟩ l.length:=by
 have ad:l.length≠0:=by simpa using O
 have c1:w.drew.cell? ⟨b,1,none⟩=some (.slice (some ⟨g,0,none⟩) l.length cap):=by have:w.drew.heap[b]?=some (.cells #[p,.slice (some ⟨g,0,none⟩) l.length cap] T (0,0)):=H;rw [Lib.cell_of_heap this];rfl
 have aa:(Builtin.unsafeSliceData_ #[263] 277 #[.slice (some ⟨g,0,none⟩) l.length cap]).run Tryz.prog w.drew=.ok (.pointer (some ⟨g,0,none⟩)) w.drew:=
  Lib.run_unsafeSliceData_row _ _ _ _ _ _ (by omega)
 have ab:(Builtin.unsafeString_ #[277,3] 9 #[.pointer (some ⟨g,0,none⟩),.int .i64 l.length]).run Tryz.prog w.drew=.ok (.string ⟨l.toArray⟩) (w.drew.freeze ⟨g,0,none⟩ l.length):=by refine Lib.run_unsafeString_row w.drew 277 3 9 5 Tryz.underlying277 (by kernel_rfl) g h.size (by have M:w.drew.heap[g]?=some (.cells h 5 fz):=Z;simp [World.shape?,M]) l O (by omega) (by unfold maxLen at I;omega) ?_;intro j x hx;exact o.cells (g:=g) rfl j (.int .u8 x.toNat) (by simp [Lib.byteCells,hx])
 clear o Z J
 go_enter Tryz.func220,Tryz.ntmps220
 go_wp2
 go_region
 all_goals (go_wp2;go_ret;exact ⟨rfl,rfl⟩)
set_option maxHeartbeats 2000000 in
set_option maxRecDepth 100000 in
theorem ayv {T:TypeId}{b:Nat}{p:Value}{w:World} (h:w.heap[b]?=some (.cells #[p,.slice none 0 0] T (0,0))):
 Calls Tryz.prog 220 #[.pointer (some ⟨b,0,none⟩)] w λe w'=>e=.returned (.string ⟨#[]⟩)/\w'=w.drew:=by
 have H:=λW q=>Lib.run_unsafeString_none (P:=Tryz.prog) W 277 3 9 q
 have I:w.drew.cell? ⟨b,1,none⟩=some (.slice none 0 0):=by have:w.drew.heap[b]?=some (.cells #[p,.slice none 0 0] T (0,0)):=h;rw [Lib.cell_of_heap this];rfl
 have o:(Builtin.unsafeSliceData_ #[263] 277 #[.slice none 0 0]).run Tryz.prog w.drew=.ok (.pointer none) w.drew:=rfl
 go_enter Tryz.func220,Tryz.ntmps220
 go_wp2
 go_region
 all_goals (go_wp2;go_ret;exact ⟨rfl,rfl⟩)
set_option maxHeartbeats 2000000 in
set_option maxRecDepth 100000 in
theorem au9 {T:TypeId}{b g cap:Nat}{p:Value}{w:World} (h:cap≠0) (o:w.heap[b]?=some (.cells #[p,.slice (some ⟨g,0,none⟩) 0 cap] T (0,0))):
 Calls Tryz.prog 220 #[.pointer (some ⟨b,0,none⟩)] w λe w'=>e=.returned (.string ⟨#[]⟩)/\w'=w.drew:=by
 have I:=λW q=>Lib.run_unsafeString_none (P:=Tryz.prog) W 277 3 9 q
 have J:w.drew.cell? ⟨b,1,none⟩=some (.slice (some ⟨g,0,none⟩) 0 cap):=by have:w.drew.heap[b]?=some (.cells #[p,.slice (some ⟨g,0,none⟩) 0 cap] T (0,0)):=o;rw [Lib.cell_of_heap this];rfl
 have H:(Builtin.unsafeSliceData_ #[263] 277 #[.slice (some ⟨g,0,none⟩) 0 cap]).run Tryz.prog w.drew=.ok (.pointer (some ⟨g,0,none⟩)) w.drew:=
  Lib.run_unsafeSliceData_row _ _ _ _ _ _ h
 clear h
 go_enter Tryz.func220,Tryz.ntmps220
 go_wp2
 go_region
 all_goals (go_wp2;go_ret;exact ⟨rfl,rfl⟩)
set_option maxHeartbeats 2000000 in
set_option maxRecDepth 100000 in
theorem aqs {T:TypeId}{b g:Nat}{p:Value}{w:World}{h:Array Value}{fz:Nat×Nat} (o:w.heap[b]?=some (.cells #[p,.slice (some ⟨g,0,none⟩) 0 0] T (0,0))) (hg:w.heap[g]?=some (.cells h 5 fz)):
 Calls Tryz.prog 220 #[.pointer (some ⟨b,0,none⟩)] w λe w'=>e=.returned (.string ⟨#[]⟩)/\w'=w.drew.alloc (.view ⟨g,0,none⟩ 5):=by
 have aa:=λW q=>Lib.run_unsafeString_none (P:=Tryz.prog) W 277 3 9 q
 have J:b<w.heap.size:=by
  rcases Nat.lt_or_ge b w.heap.size with H | H
  ·exact H
  ·simp [Array.getElem?_eq_none H] at o
 have M:w.drew.cell? ⟨b,1,none⟩=some (.slice (some ⟨g,0,none⟩) 0 0):=by have:w.drew.heap[b]?=some (.cells #[p,.slice (some ⟨g,0,none⟩) 0 0] T (0,0)):=o;rw [Lib.cell_of_heap this];rfl
 have Z:(Builtin.unsafeSliceData_ #[263] 277 #[.slice (some ⟨g,0,none⟩) 0 0]).run Tryz.prog w.drew=.ok (.pointer (some ⟨w.drew.heap.size,0,none⟩)) (w.drew.alloc (.view ⟨g,0,none⟩ 5)):=
  Lib.run_unsafeSliceData_zero w.drew _ _ 5 Tryz.underlying277 ⟨g,0,none⟩ 0 (5,h.size) (by have I:w.drew.heap[g]?=some (.cells h 5 fz):=hg;simp [World.shape?,I])
 have O:(w.drew.alloc (.view ⟨g,0,none⟩ 5)).cell? ⟨b,1,none⟩=some (.slice (some ⟨g,0,none⟩) 0 0):=by have:(w.drew.alloc (.view ⟨g,0,none⟩ 5)).heap[b]?=_:=(Lib.alloc_old w.drew _ b J).trans o;rw [Lib.cell_of_heap this];rfl
 have c3:(w.alloc (.view ⟨g,0,none⟩ 5)).drew.cell? ⟨b,1,none⟩=some (.slice (some ⟨g,0,none⟩) 0 0):=O
 have c0:w.cell? ⟨b,1,none⟩=some (.slice (some ⟨g,0,none⟩) 0 0):=M
 go_enter Tryz.func220,Tryz.ntmps220
 go_wp2
 go_region
 all_goals (go_wp2;go_ret;exact ⟨rfl,rfl⟩)
theorem ayu {T:TypeId}{b:Nat}{p v:Value}{bs:Bt}{w:World} (h:BAt T b p v bs w):
 Calls Tryz.prog 220 #[.pointer (some ⟨b,0,none⟩)] w λe w'=>e=.returned (.string ⟨bs.toArray⟩)/\BAt T b p v bs w'/\Else b v.ownBlock w w':=by
 have I:=h
 obtain ⟨o,H,ab⟩:=h
 rcases H.2 with ⟨rfl,hz⟩ | ⟨g,cap,ae,fz,rfl,af,hg,ag,aa,M,O,ad⟩
 ·have J:bs=[]:=by simpa using hz
  subst J;refine (ayv o).mono ?_;rintro e w' ⟨rfl,rfl⟩;exact ⟨rfl,I,rfl,rfl,rfl,Nat.le_refl _,λ_ _ _ _=>rfl⟩
 ·by_cases h0:bs=[]
  ·subst h0;by_cases hc:cap=0
   ·subst hc;refine (aqs o hg).mono ?_;rintro e w' ⟨rfl,rfl⟩;have Z:b<w.heap.size:=(Array.getElem?_eq_some_iff.1 o).1;refine ⟨rfl,⟨(aa6 w.drew _ b Z).trans o,World.ownsRowF.kept (w:=w.drew) H (World.grownBy_alloc w.drew _ none) (by simp [Value.ownBlock]),ab⟩,rfl,rfl,rfl,by simp,λk hk _ _=>aa6 w.drew _ k hk⟩
   ·refine (au9 hc o).mono ?_;rintro e w' ⟨rfl,rfl⟩;exact ⟨rfl,I,rfl,rfl,rfl,Nat.le_refl _,λ_ _ _ _=>rfl⟩
  ·refine (au8 h0 o H hg aa M O).mono ?_;rintro e w' ⟨rfl,rfl⟩;exact ⟨rfl,I.frz,atu w b g _⟩
theorem BldRep.bat {D:Dom}{w:World}{ow:Own}{μ:Nat->Nat}{k:Nat}{T:TypeId}{bs:Bt} (hT:aka Tryz.prog 3 T=5) (h:BldRep Tryz.prog D w ow μ k T bs):
 ∃ p v,(p=.pointer none\/p=.pointer (some ⟨μ k,0,none⟩))/\BAt T (μ k) p v bs w/\ow (μ k)=some k/\(∀ o,¬D (μ k) o)/\∀ g,v.ownBlock=some g->ow g=some k/\∀ o,¬D g o:=by
 obtain ⟨p,v,O,Z,h3,h4,h5⟩:=h
 rw [hT] at h5
 rcases h5 with ⟨rfl,rfl⟩ | ⟨g,cap,M,fz,rfl,a2,a4,a5,a6,a7,a8,a9,I,J⟩
 ·exact ⟨p,_,Z,⟨O,⟨by simp [Lib.byteCells],Or.inl ⟨rfl,rfl⟩⟩,by simp [Value.ownBlock]⟩,h3,h4,λg H=>by simp [Value.ownBlock] at H⟩
 ·refine ⟨p,_,Z,⟨O,⟨by simp [Lib.byteCells],Or.inr ⟨g,cap,M,fz,rfl,Nat.zero_le _,a2,by omega,a5,a6,by omega,?_⟩⟩,by simp [Value.ownBlock,a9]⟩,h3,h4,λg' H=>?_⟩
  ·rw [Nat.mul_one];exact a8
  ·simp [Value.ownBlock] at H;subst H;exact ⟨I,J⟩
theorem BAt.rep {D:Dom}{w:World}{ow:Own}{μ:Nat->Nat}{k:Nat}{T:TypeId}{bs:Bt}{p v:Value} (hT:aka Tryz.prog 3 T=5) (hp:p=.pointer none\/p=.pointer (some ⟨μ k,0,none⟩)) (h:BAt T (μ k) p v bs w) (Z:ow (μ k)=some k) (h4:∀ o,¬D (μ k) o)
 (h5:∀ g,v.ownBlock=some g->ow g=some k/\∀ o,¬D g o):BldRep Tryz.prog D w ow μ k T bs:=by
 obtain ⟨q1,q2,q3⟩:=h
 refine ⟨p,v,q1,hp,Z,h4,?_⟩
 rw [hT]
 rcases q2.2 with ⟨rfl,hz⟩ | ⟨g,cap,H,fz,rfl,_,J,a4,M,O,a7,I⟩
 ·exact Or.inl ⟨rfl,by simpa using hz⟩
 ·obtain ⟨r1,r2⟩:=h5 g rfl;exact Or.inr ⟨g,cap,H,fz,rfl,J,by omega,M,O,by omega,by rw [Nat.mul_one] at I;exact I,λe=>q3 (by simp [Value.ownBlock,e]),r1,r2⟩
theorem avq {D:Dom}{w w':World}{ow:Own}{μ:Nat->Nat}{T:TypeId}{bs ab:Bt}{ak:List SV}{aj:Array Value}{rs:List SV}{r p' v v':Value} (hT:aka Tryz.prog 3 T=5) (J:Pre Tryz.prog D ow μ [.bld T bs] w ak aj)
 (ah:ay0 Tryz.prog D w' (ac9 rs) r) (hv:∀ g,v.ownBlock=some g->ow g=some 0) (hp:p'=.pointer none\/p'=.pointer (some ⟨μ 0,0,none⟩)) (h:BAt T (μ 0) p' v' ab w') (he:Else (μ 0) v.ownBlock w w') (hg:∀ g,v'.ownBlock=some g->v.ownBlock=some g\/w.heap.size<=g):
 Post Tryz.prog D w ow μ [.bld T bs] rs [.bld T ab] r D w':=by
 have h0:=J.objs.obj 0 _ rfl
 obtain ⟨p,v0,ao,am,ag,ad,_⟩:=BldRep.bat hT h0
 have af:μ 0<w'.heap.size:=(Array.getElem?_eq_some_iff.1 h.1).1
 have al:∀ g,v'.ownBlock=some g->g<w'.heap.size:=λg hg=>(h.2.1.lt g hg).2
 have O:∀ b,ow b=some 0->∀ o,¬D b o:=λb ob o d=>J.objs.lone b 0 _ ob rfl (by simp) o d
 have ai:∀ b,b<w.heap.size->ow b=none->w'.heap[b]?=w.heap[b]?:=λb H hn=>he.block b H (λe=>by rw [e,ag] at hn;cases hn) (λe=>by have:=hv b e.symm;rw [hn] at this;cases this)
 have aa:∀ b o,D b o->ow b=none:=λb o d=>by
  cases H:ow b with
  | none=>rfl
  | some k=>
   have M:=(J.objs.owlt b k H).2;have:k=0:=by simp at M;omega
   subst this;exact absurd d (O b H o)
 have Z:∀ b,(b=μ 0\/v'.ownBlock=some b)->∀ o,¬D b o:=λb I o d=>by
  rcases I with rfl | I
  ·exact ad o d
  ·rcases hg b I with h1 | h1
   ·exact O b (hv b h1) o d
   ·have:=J.dlt b o d;omega
 refine ⟨λ_ _ d=>d,λ_ _ d=>Or.inl d,⟨λb=>if b=μ 0\/v'.ownBlock=some b then some 0 else none,μ,⟨λk b M=>?_,λb k H=>?_,λb o d=>A4 (J.dlt b o d) he.size,λb k x H _ _ o d=>?_⟩,(af4 (ah _ _ _)).1,λb k H an=>?_,λk b M=>?_,λk E g xs ys M=>?_⟩,he.os,he.tape,he.output,he.size,ai,Keeps.of_heap λb o d=>ai b (J.dlt b o d) (aa b o d)⟩
 ·cases k with
  | zero=>cases M;exact BAt.rep (ow:=λb=>if b=μ 0\/v'.ownBlock=some b then some 0 else none) hT hp h (if_pos (Or.inl rfl)) ad (λg ae=>⟨if_pos (Or.inr ae),Z g (Or.inr ae)⟩)
  | succ k=>simp at M
 ·split at H
  ·rename_i I;cases H;refine ⟨?_,by simp⟩;rcases I with rfl | I
   ·exact af
   ·exact al b I
  ·cases H
 ·split at H
  ·rename_i I;exact Z b I o d
  ·cases H
 ·split at H
  ·rename_i I;cases H;rcases I with rfl | I
   ·exact ag
   ·rcases hg b I with h1 | h1
    ·exact hv b h1
    ·omega
  ·cases H
 ·cases k with
  | zero=>cases M;exact ⟨_,rfl,rfl,λ_ _=>rfl⟩
  | succ k=>simp at M
 ·cases k with
  | zero=>cases M
  | succ k=>simp at M
def a7e (T:TypeId):Prop:=aka Tryz.prog 3 T=5/\T≠5/\liesAt Tryz.prog Tryz.prog.depth T (2 / Tryz.prog.cellsOf T) 0 265 1=true
theorem ak4 {T:TypeId} (M:a7e T) (bs s:Bt) (I:bs.length+s.length<=140737488355328):Meets Tryz.prog 218 [.bref 0 265,.str s] [.bld T bs] [.int .i64 s.length,.raw .nilIface] [.bld T (bs++s)]:=by
 refine ⟨abf Tryz.func218 (by kernel_rfl) (by kernel_rfl),λD ow μ w o h=>?_⟩;have h0:=h.objs.obj 0 _ rfl;obtain ⟨p,v,hp,O,ab,aa,hv⟩:=BldRep.bat M.1 h0;obtain ⟨v0,Z,rfl⟩:∃ v0 Z,o=#[v0,Z]:=by
  have:=h.size;match o,this with
  | ⟨[a,b]⟩,_=>exact ⟨a,b,rfl⟩
 have a0:=h.arg 0 _ v0 rfl rfl;have a1:=h.arg 1 _ Z rfl rfl;cases a0;cases a1;refine (anz M.2.2 hp O M.2.1 ⟨s.toArray⟩ (by simpa [ByteArray.size] using I)).mono λe w' he=>?_;obtain ⟨rfl,v',h1,h2,h3⟩:=he;refine ⟨_,D,rfl,avq M.1 h ?_ (λg hg=>(hv g hg).1) (Or.inr rfl) h1 h2 h3⟩;intro ad ae st';refine .tup rfl (λi s' u H J=>?_);match i,H,J with
 | 0,H,J=>cases H;cases J;exact .int
 | 1,H,J=>cases H;cases J;exact .raw
theorem asy {T:TypeId} (J:a7e T) (bs:Bt):Meets Tryz.prog 220 [.bref 0 265] [.bld T bs] [.str bs] [.bld T bs]:=by
 refine ⟨abf Tryz.func220 (by kernel_rfl) (by kernel_rfl),λD ow μ w o h=>?_⟩;have O:=h.objs.obj 0 _ rfl;obtain ⟨p,v,hp,H,ab,aa,hv⟩:=BldRep.bat J.1 O;obtain ⟨v0,rfl⟩:∃ v0,o=#[v0]:=by
  have:=h.size;match o,this with
  | ⟨[a]⟩,_=>exact ⟨a,rfl⟩
 have M:=h.arg 0 _ v0 rfl rfl;cases M;refine (ayu H).mono λe w' he=>?_;obtain ⟨rfl,Z,h2⟩:=he;refine ⟨_,D,rfl,avq J.1 h ?_ (λg I=>(hv g I).1) hp Z h2 (λg I=>Or.inl I)⟩;intro ad ae st';exact .str
end Go.Ab
